/- Numbers read: reference and program read the same ones below a hundred. -/
import Derived.Test.YtceoaondcnhaeaaDoorBWrap
import Derived.Test.YtceoaondcnhaeaaDoorBNum
import Derived.Test.YtceoaondcnhaeaaDoorBBaseA
import Derived.Test.YtceoaondcnhaeaaDoorBWord
import Derived.Test.YtceoaondcnhaeaaDoorXx11
import Derived.Test.YtceoaondcnhaeaaDoorXx12
import Derived.Test.YtceoaondcnhaeaaDoorXx14
namespace Go.Proofs.YtceoaondcnhaeaaDoor.Q
open Go.RowKit Go.Proofs.YtceoaondcnhaeaaDoor.X Go.Proofs.YtceoaondcnhaeaaDoorW.PrintWords Go.Proofs.YtceoaondcnhaeaaDoorW.PrintLast Go.Proofs.YtceoaondcnhaeaaDoorW.PrintMore
set_option linter.unusedVariables false
set_option linter.unusedSimpArgs false

def digB (b : UInt8) : Bool := decide (48 ≤ b.toNat) && decide (b.toNat ≤ 57)
def valD : Int → List UInt8 → Int
  | acc, [] => acc
  | acc, b :: l => valD (10 * acc + ((b.toNat : Int) - 48)) l
theorem valD_ge : ∀ (l : List UInt8) (acc : Int), 0 ≤ acc → l.all digB = true → acc ≤ valD acc l
  | [], acc, _, _ => Int.le_refl _
  | b :: l, acc, h, hd => by
    simp only [List.all_cons, Bool.and_eq_true] at hd
    have hb := hd.1
    unfold digB at hb
    simp only [Bool.and_eq_true, decide_eq_true_eq] at hb
    have := valD_ge l (10 * acc + ((b.toNat : Int) - 48)) (by omega) hd.2
    simp only [valD]
    omega
/-- What the reference reads. -/
def readV (l : List UInt8) : Int := if (1 ≤ l.length ∧ l.length ≤ 6) ∧ ¬ (l.head? = some 48 ∧ 1 < l.length) ∧ l.all digB = true then valD 0 l else -1
theorem read_loop (s : ByteArray) (hs : s.size ≤ 6) (d : Nat) : ∀ (k i : Nat) (acc B : Int), i + d = s.size → d < k → 0 ≤ acc → acc < B → B * 10 ^ d ≤ 100000000 → 1 ≤ B →
    spec_l1Read.l0 k s acc (i : Int) = some (if (s.data.toList.drop i).all digB = true then valD acc (s.data.toList.drop i) else -1) := by
  induction d with
  | zero =>
    intro k i acc B hi hk h0 hB hb h1
    obtain ⟨k, rfl⟩ : ∃ t, k = t + 1 := ⟨k - 1, by omega⟩
    simp only [spec_l1Read.l0]
    rw [if_neg (by omega), List.drop_eq_nil_of_le (by rw [len_data]; omega)]
    rfl
  | succ d ih =>
    intro k i acc B hi hk h0 hB hb h1
    obtain ⟨k, rfl⟩ : ∃ t, k = t + 1 := ⟨k - 1, by omega⟩
    have hlt : i < s.data.toList.length := by rw [len_data]; omega
    have hpow : B * 10 * 10 ^ d ≤ 100000000 := by
      have e : B * 10 ^ (d + 1) = B * 10 * 10 ^ d := by rw [Int.pow_succ, Int.mul_assoc, Int.mul_comm (10 ^ d) 10]
      omega
    have hB1 : B * 10 ≤ 100000000 := by
      have h10 : (1 : Int) ≤ 10 ^ d := by
        have : (0 : Int) < 10 ^ d := Int.pow_pos (by decide)
        omega
      have := Int.mul_le_mul_of_nonneg_left h10 (show (0 : Int) ≤ B * 10 by omega)
      omega
    clear hb
    have hbt := bt_get s i (by omega)
    simp only [spec_l1Read.l0]
    rw [if_pos (by omega), if_pos (by omega), List.drop_eq_getElem_cons hlt, hbt]
    generalize s.data.toList[i] = b at hbt ⊢
    have hbl : (b.toNat : Int) < 256 := by have := UInt8.toNat_lt b; omega
    by_cases c1 : (b.toNat : Int) < 48
    · have hd : digB b = false := by unfold digB; rw [decide_eq_false (by omega), Bool.false_and]
      rw [if_pos c1]
      simp [hd]
    · rw [if_neg c1]
      by_cases c2 : (b.toNat : Int) > 57
      · have hd : digB b = false := by unfold digB; rw [decide_eq_false (p := b.toNat ≤ 57) (by omega), Bool.and_false]
        rw [if_pos c2]
        simp [hd]
      · have hd : digB b = true := by unfold digB; rw [decide_eq_true (by omega), decide_eq_true (by omega)]; rfl
        have em : ((b.toNat : Int) - 48) % 256 = (b.toNat : Int) - 48 := Int.emod_eq_of_lt (by omega) (by omega)
        rw [if_neg c2, em, wrap64_id (x := 10 * acc) (by omega) (by omega), wrap64_id (x := 10 * acc + ((b.toNat : Int) - 48)) (by omega) (by omega), wrap64_id (x := (i : Int) + 1) (by omega) (by omega)]
        have := ih k (i + 1) (10 * acc + ((b.toNat : Int) - 48)) (B * 10) (by omega) (by omega) (by omega) (by omega) hpow (by omega)
        rw [show ((i : Int) + 1) = ((i + 1 : Nat) : Int) by omega, this]
        simp [hd, valD]
theorem l1Read_eq (s : ByteArray) (hs : s.size ≤ 1000000) (k : Nat) (hk : 20 ≤ k) : spec_l1Read.f k s = some (readV s.data.toList) := by
  obtain ⟨k, rfl⟩ : ∃ t, k = t + 1 := ⟨k - 1, by omega⟩
  unfold spec_l1Read.f readV
  rw [l1In_eq, len_data]
  simp only [Option.bind_some]
  by_cases h : 1 ≤ s.size ∧ s.size ≤ 6
  · have hlt : 0 < s.data.toList.length := by rw [len_data]; omega
    have hbt := bt_get s 0 (by omega)
    have hL := read_loop s h.2 s.size k 0 0 1 (by omega) (by omega) (by omega) (by omega) (by
      rcases (show s.size = 1 ∨ s.size = 2 ∨ s.size = 3 ∨ s.size = 4 ∨ s.size = 5 ∨ s.size = 6 by omega) with e | e | e | e | e | e <;> rw [e] <;> decide) (by omega)
    rw [List.drop_zero] at hL
    have hh : s.data.toList.head? = some s.data.toList[0] := by
      rw [List.head?_eq_getElem?, List.getElem?_eq_getElem hlt]
    rw [if_pos (decide_eq_true (by omega)), if_pos (by omega), show (0 : Int) = ((0 : Nat) : Int) from rfl, hbt, hh]
    generalize s.data.toList[0] = b at hbt ⊢
    by_cases hb : (b.toNat : Int) = 48
    · have hb2 : b = 48 := (u8_eq b 48 (by omega)).1 hb
      rw [if_pos hb]
      simp only [spec_l1Read.j0]
      by_cases h1 : 1 < s.size
      · rw [if_pos (decide_eq_true (by omega)), if_neg (fun q => q.2.1 ⟨by rw [hb2], h1⟩)]
      · rw [if_neg (by simp; omega), show spec_l1Read.l0 k s 0 0 = _ from hL]
        by_cases ha : s.data.toList.all digB = true
        · rw [if_pos ha, if_pos ⟨h, fun q => h1 q.2, ha⟩]
          rfl
        · rw [if_neg ha, if_neg (fun q => ha q.2.2)]
    · have hb2 : ¬ b = 48 := fun e => hb ((u8_eq b 48 (by omega)).2 e)
      rw [if_neg hb]
      simp only [spec_l1Read.j0]
      rw [if_neg (by simp), show spec_l1Read.l0 k s 0 0 = _ from hL]
      by_cases ha : s.data.toList.all digB = true
      · rw [if_pos ha, if_pos ⟨h, fun q => hb2 (Option.some.inj q.1), ha⟩]
        rfl
      · rw [if_neg ha, if_neg (fun q => ha q.2.2)]
  · rw [if_neg (by simp; omega), if_neg (fun q => h q.1)]
    simp only [spec_l1Read.j0]
    rfl
theorem u8_of (b : UInt8) (h : 48 ≤ b.toNat) : b = UInt8.ofNat (48 + (b.toNat - 48)) := by
  rw [show 48 + (b.toNat - 48) = b.toNat by omega]
  exact (UInt8.ofNat_toNat).symm
theorem readV_dd (l : List UInt8) (v : Int) (hv : 0 ≤ v ∧ v < 100) (h : readV l = v) : l = dd v.toNat := by
  unfold readV at h
  split at h
  · rename_i hc
    obtain ⟨⟨c1, c2⟩, c3, c4⟩ := hc
    match l, c1, c3, c4, h with
    | [a], _, _, c4, h =>
      simp only [List.all_cons, List.all_nil, Bool.and_true] at c4
      unfold digB at c4
      simp only [Bool.and_eq_true, decide_eq_true_eq] at c4
      simp only [valD] at h
      unfold dd
      have e : v.toNat = a.toNat - 48 := by omega
      rw [e, if_pos (by omega), ← u8_of a (by omega)]
    | [a, b], _, c3, c4, h =>
      simp only [List.all_cons, List.all_nil, Bool.and_true, Bool.and_eq_true] at c4
      unfold digB at c4
      simp only [Bool.and_eq_true, decide_eq_true_eq] at c4
      simp only [valD] at h
      have ha : ¬ a.toNat = 48 := by
        intro e
        refine c3 ⟨?_, by simp⟩
        have : a = 48 := UInt8.toNat_inj.1 e
        rw [this]; rfl
      unfold dd
      have e1 : v.toNat / 10 = a.toNat - 48 := by omega
      have e2 : v.toNat % 10 = b.toNat - 48 := by omega
      rw [if_neg (by omega), e1, e2, ← u8_of a (by omega), ← u8_of b (by omega)]
    | a :: b :: c :: r, _, c3, c4, h =>
      exfalso
      simp only [List.all_cons, Bool.and_eq_true] at c4
      obtain ⟨d1, d2, d3, d4⟩ := c4
      unfold digB at d1 d2 d3
      simp only [Bool.and_eq_true, decide_eq_true_eq] at d1 d2 d3
      have ha : ¬ a.toNat = 48 := by
        intro e
        refine c3 ⟨?_, by simp⟩
        have : a = 48 := UInt8.toNat_inj.1 e
        rw [this]; rfl
      simp only [valD] at h
      have := valD_ge r _ (show 0 ≤ 10 * (10 * (10 * 0 + ((a.toNat : Int) - 48)) + ((b.toNat : Int) - 48)) + ((c.toNat : Int) - 48) by omega) d4
      omega
  · omega
theorem dd_readV : ∀ n : Nat, n < 100 → readV (dd n) = (n : Int) := by decide +kernel
theorem numV_dd (l : List UInt8) (v : Int) (hv : 0 ≤ v ∧ v < 100) (h : numV l = v) : l = dd v.toNat := by
  unfold numV at h
  split at h
  · split at h
    · rename_i hc
      obtain ⟨c1, c2⟩ := hc
      subst h
      rw [← c2]
      unfold Lib.itoa
      rw [if_neg (by omega), dd_eq _ (by omega)]
    · omega
  · omega
theorem dd_numV : ∀ n : Nat, n < 100 → numV (dd n) = (n : Int) := by
  intro n hn
  have h1 : ∀ n : Nat, n < 100 → Lib.atoiAll (dd n) = .ok (n : Int) := by decide +kernel
  unfold numV
  rw [h1 n hn]
  simp only
  have e : Lib.itoa (n : Int) = dd n := by
    unfold Lib.itoa
    rw [if_neg (by omega), Int.toNat_natCast, dd_eq n hn]
  rw [if_pos ⟨by omega, e⟩]
/-- Below a hundred both read the same. -/
theorem read_num (l : List UInt8) (v : Int) (hv : 0 ≤ v ∧ v < 100) : readV l = v ↔ numV l = v := by
  constructor
  · intro h
    rw [readV_dd l v hv h, dd_numV _ (by omega)]
    omega
  · intro h
    rw [numV_dd l v hv h, dd_readV _ (by omega)]
    omega

end Go.Proofs.YtceoaondcnhaeaaDoor.Q
