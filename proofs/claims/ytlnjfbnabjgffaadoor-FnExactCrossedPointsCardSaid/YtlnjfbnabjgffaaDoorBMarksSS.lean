/- Lists of lists of numbers: compared with themselves, marked, and held against their marks. -/
import Derived.Test.YtlnjfbnabjgffaaDoorBMarks
import Derived.Test.YtlnjfbnabjgffaaDoorXx12
import Derived.Test.YtlnjfbnabjgffaaDoorXx13
namespace Go.Proofs.YtlnjfbnabjgffaaDoor.Q
open Go.RowKit Go.Proofs.YtlnjfbnabjgffaaDoor.X Go.Proofs.YtlnjfbnabjgffaaDoorW.PrintWords Go.Proofs.YtlnjfbnabjgffaaDoorW.PrintLast Go.Proofs.YtlnjfbnabjgffaaDoorW.PrintMore
set_option linter.unusedVariables false
set_option linter.unusedSimpArgs false

theorem rdLL (done rest : List (List Int)) (x : List Int) : rd_L4 (done ++ x :: rest) (done.length : Int) = x := by
  unfold rd_L4
  rw [Int.toNat_natCast]
  simp
theorem getLL (done rest : List (List Int)) (x : List Int) : (done ++ x :: rest).getD ((done.length : Int)).toNat [] = x := by
  rw [Int.toNat_natCast]
  simp
theorem eqSS_loop (L : Nat) (hL : L ≤ 1000000) : ∀ (rest done : List (List Int)) (k : Nat), (∀ r ∈ rest, r.length ≤ L) → done.length + rest.length ≤ 1000000 → L + rest.length < k →
    laws_eqIntSS.l0 k (done ++ rest) (done ++ rest) (done.length : Int) = some true := by
  intro rest
  induction rest with
  | nil =>
    intro done k h hl hk
    obtain ⟨k, rfl⟩ : ∃ t, k = t + 1 := ⟨k - 1, by omega⟩
    simp only [laws_eqIntSS.l0]
    rw [if_neg (by simp)]
  | cons x rest ih =>
    intro done k h hl hk
    obtain ⟨k, rfl⟩ : ∃ t, k = t + 1 := ⟨k - 1, by omega⟩
    simp only [List.length_cons] at hl hk
    have g1 : (done.length : Int) < ((done ++ x :: rest).length : Int) := by simp; omega
    have hx := h x (by simp)
    have IH := ih (done ++ [x]) k (fun r hr => h r (by simp [hr])) (by simp; omega) (by omega)
    rw [show (((done ++ [x]).length : Nat) : Int) = (done.length : Int) + 1 by simp, show done ++ [x] ++ rest = done ++ x :: rest by simp] at IH
    simp only [laws_eqIntSS.l0]
    rw [if_pos g1, if_pos (by omega), if_pos g1, rdLL, eqIntS_self k x (by omega) (by omega), Option.bind_some, if_pos rfl, wrap64_id (by omega) (by omega)]
    exact IH
theorem eqSS_self (L : Nat) (hL : L ≤ 1000000) (l : List (List Int)) (h : ∀ r ∈ l, r.length ≤ L) (hl : l.length ≤ 1000000) (k : Nat) (hk : L + l.length < k) : laws_eqIntSS.f k l l = some true := by
  unfold laws_eqIntSS.f
  rw [if_pos rfl]
  exact eqSS_loop L hL l [] k h (by simpa using hl) hk
def total : List (List Int) → Nat
  | [] => 0
  | x :: l => x.length + total l
/-- Each row bears its marks. -/
def HeldL : List (List Int) → Int → Prop
  | [], _ => True
  | y :: ys, m => (∀ k', y.length < k' → laws_heldIntS.f k' y m = some (m + y.length)) ∧ HeldL ys (m + y.length)
theorem markSS_loop (L : Nat) (hL : L ≤ 1000000) : ∀ (rest done : List (List Int)) (m : Int) (k : Nat), (∀ r ∈ rest, r.length ≤ L) → done.length + rest.length ≤ 1000000 → 0 ≤ m → m + total rest ≤ 1000000000000 → L + rest.length < k →
    ∃ ys, laws_markIntSS.l0 k (done ++ rest) m (done.length : Int) = some (m + total rest, done ++ ys) ∧ HeldL ys m ∧ ys.length = rest.length ∧ (∀ r ∈ ys, r.length ≤ L) ∧ total ys = total rest := by
  intro rest
  induction rest with
  | nil =>
    intro done m k h hl h0 hm hk
    obtain ⟨k, rfl⟩ : ∃ t, k = t + 1 := ⟨k - 1, by omega⟩
    refine ⟨[], ?_, trivial, rfl, by simp, rfl⟩
    simp only [laws_markIntSS.l0]
    rw [if_neg (by simp)]
    simp [total]
  | cons x rest ih =>
    intro done m k h hl h0 hm hk
    obtain ⟨k, rfl⟩ : ∃ t, k = t + 1 := ⟨k - 1, by omega⟩
    simp only [List.length_cons, total] at hl hk hm
    have hx := h x (by simp)
    have g1 : (done.length : Int) < ((done ++ x :: rest).length : Int) := by simp; omega
    obtain ⟨y, m1, m2, m3⟩ := mark_held k x m (by omega) (by omega)
    obtain ⟨ys, e1, e2, e3, e4, e5⟩ := ih (done ++ [y]) (m + x.length) k (fun r hr => h r (by simp [hr])) (by simp; omega) (by omega) (by omega) (by omega)
    rw [show (((done ++ [y]).length : Nat) : Int) = (done.length : Int) + 1 by simp, show done ++ [y] ++ rest = done ++ y :: rest by simp, show done ++ [y] ++ ys = done ++ y :: ys by simp] at e1
    refine ⟨y :: ys, ?_, ⟨fun k' hk' => ?_, ?_⟩, by simp [e3], ?_, by simp [total, m2, e5]⟩
    · simp only [laws_markIntSS.l0]
      rw [if_pos g1, if_pos (by omega), getLL, m1, Option.bind_some, wrap64_id (x := (done.length : Int) + 1) (by omega) (by omega)]
      have hs : (done ++ x :: rest).set ((done.length : Int)).toNat y = done ++ y :: rest := by
        rw [Int.toNat_natCast]; simp
      simp only [hs]
      rw [e1]
      simp only [total]
      refine congrArg some (Prod.ext ?_ rfl)
      simp only
      omega
    · rw [m2]; exact m3 k' (by omega)
    · rw [m2]; exact e2
    · intro r hr
      rcases List.mem_cons.1 hr with rfl | hr
      · omega
      · exact e4 r hr
theorem heldSS_loop (L : Nat) (hL : L ≤ 1000000) : ∀ (ys done : List (List Int)) (m : Int) (k : Nat), HeldL ys m → (∀ r ∈ ys, r.length ≤ L) → done.length + ys.length ≤ 1000000 → 0 ≤ m → m + total ys ≤ 1000000000000 → L + ys.length < k →
    laws_heldIntSS.l0 k (done ++ ys) m (done.length : Int) = some (m + total ys) := by
  intro ys
  induction ys with
  | nil =>
    intro done m k hH h hl h0 hm hk
    obtain ⟨k, rfl⟩ : ∃ t, k = t + 1 := ⟨k - 1, by omega⟩
    simp only [laws_heldIntSS.l0]
    rw [if_neg (by simp)]
    simp [total]
  | cons x ys ih =>
    intro done m k hH h hl h0 hm hk
    obtain ⟨k, rfl⟩ : ∃ t, k = t + 1 := ⟨k - 1, by omega⟩
    simp only [List.length_cons, total] at hl hk hm
    have hx := h x (by simp)
    have g1 : (done.length : Int) < ((done ++ x :: ys).length : Int) := by simp; omega
    have IH := ih (done ++ [x]) (m + x.length) k hH.2 (fun r hr => h r (by simp [hr])) (by simp; omega) (by omega) (by omega) (by omega)
    rw [show (((done ++ [x]).length : Nat) : Int) = (done.length : Int) + 1 by simp, show done ++ [x] ++ ys = done ++ x :: ys by simp] at IH
    simp only [laws_heldIntSS.l0]
    rw [if_pos g1, if_pos (by omega), rdLL, hH.1 k (by omega), Option.bind_some, if_neg (by omega), wrap64_id (x := (done.length : Int) + 1) (by omega) (by omega), IH]
    simp only [total]
    refine congrArg some ?_
    omega
theorem mark_heldSS (L : Nat) (hL : L ≤ 1000) (l : List (List Int)) (h : ∀ r ∈ l, r.length ≤ L) (hl : l.length ≤ 100000) (k : Nat) (hk : L + l.length < k) :
    ∃ y, laws_markIntSS.f k l 1 = some (1 + (total l : Int), y) ∧ ∀ k', L + l.length < k' → laws_heldIntSS.f k' y 1 = some (1 + (total l : Int)) := by
  have ht : total l ≤ l.length * L := by
    clear hl hk
    induction l with
    | nil => simp [total]
    | cons x l ih =>
      have h1 := h x (by simp)
      have h2 := ih (fun r hr => h r (by simp [hr]))
      simp only [total, List.length_cons]
      rw [Nat.add_mul]
      omega
  have ht2 : l.length * L ≤ 100000 * 1000 := Nat.mul_le_mul hl hL
  obtain ⟨ys, e1, e2, e3, e4, e5⟩ := markSS_loop L (by omega) l [] 1 k h (by simp; omega) (by omega) (by omega) hk
  refine ⟨ys, e1, fun k' hk' => ?_⟩
  have := heldSS_loop L (by omega) ys [] 1 k' e2 e4 (by simp; omega) (by omega) (by omega) (by omega)
  rw [e5] at this
  exact this

end Go.Proofs.YtlnjfbnabjgffaaDoor.Q
