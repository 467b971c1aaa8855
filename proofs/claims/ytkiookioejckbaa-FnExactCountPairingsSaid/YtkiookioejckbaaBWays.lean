/- Pairings counted: what the program's recursion comes to. -/
import Derived.Test.YtkiookioejckbaaBWrap
import Derived.Test.YtkiookioejckbaaBOrd0
import Derived.Test.YtkiookioejckbaaBCount
import Derived.Test.YtkiookioejckbaaXx10
import Derived.Test.YtkiookioejckbaaXx14
import Derived.Test.YtkiookioejckbaaXx27
import Derived.Test.YtkiookioejckbaaXx28
namespace Go.Proofs.Ytkiookioejckbaa.Q
open Go.RowKit Go.Proofs.Ytkiookioejckbaa.X Go.Proofs.YtkiookioejckbaaW.PrintWords Go.Proofs.YtkiookioejckbaaW.PrintLast Go.Proofs.YtkiookioejckbaaW.PrintMore
set_option linter.unusedVariables false
set_option linter.unusedSimpArgs false

/-- Over all ways to take one element out: what f tells of the others and it, added up. -/
def sumS (f : List Int → Int → Int) : List Int → List Int → Int
  | _, [] => 0
  | pre, x :: post => f (pre ++ post) x + sumS f (pre ++ [x]) post
/-- How many pairings of the points that are left make so many crossings in all (d: more than there are points left). -/
def ways (crs : Int) : Nat → List Int → List S52 → Int
  | 0, _, _ => 0
  | _ + 1, [], list => if (pairsX list : Int) = crs then 1 else 0
  | d + 1, a :: rest, list => sumS (fun lf x => ways crs d lf (list ++ [⟨a, x⟩])) [] rest
theorem sumS_bound (f : List Int → Int → Int) (b : Int) : ∀ (post pre : List Int), (∀ (A B : List Int) (x : Int), post = A ++ x :: B → 0 ≤ f (pre ++ A ++ B) x ∧ f (pre ++ A ++ B) x ≤ b) → 0 ≤ sumS f pre post ∧ sumS f pre post ≤ post.length * b
  | [], _, _ => by simp [sumS]
  | x :: post, pre, h => by
    have h1 := h [] post x rfl
    rw [List.append_nil] at h1
    have h2 := sumS_bound f b post (pre ++ [x]) (fun A B y e => by
      have := h (x :: A) B y (by rw [e]; rfl)
      rwa [show pre ++ (x :: A) ++ B = pre ++ [x] ++ A ++ B by simp] at this)
    have e : ((x :: post).length : Int) * b = post.length * b + b := by
      rw [List.length_cons, Int.natCast_add, Int.add_mul]; simp
    rw [e]
    simp only [sumS]
    omega
theorem sumS_zero (f : List Int → Int → Int) : ∀ (post pre : List Int), (∀ (A B : List Int) (x : Int), post = A ++ x :: B → f (pre ++ A ++ B) x = 0) → sumS f pre post = 0
  | [], _, _ => rfl
  | x :: post, pre, h => by
    simp only [sumS]
    have h1 := h [] post x rfl
    rw [List.append_nil] at h1
    have h2 := sumS_zero f post (pre ++ [x]) (fun A B y e => by
      have := h (x :: A) B y (by rw [e]; rfl)
      rwa [show pre ++ (x :: A) ++ B = pre ++ [x] ++ A ++ B by simp] at this)
    omega
theorem pow12_all : ∀ d : Nat, d < 14 → (12 : Int) ^ d ≤ 106993205379072 ∧ 0 < (12 : Int) ^ d := by decide
theorem pow12 (d : Nat) (hd : d ≤ 13) : (12 : Int) ^ d ≤ 106993205379072 ∧ 0 < (12 : Int) ^ d := pow12_all d (by omega)
theorem ways_bound (crs : Int) : ∀ (d : Nat) (left : List Int) (list : List S52), left.length ≤ 12 → 0 ≤ ways crs d left list ∧ ways crs d left list ≤ (12 : Int) ^ d
  | 0, left, list, _ => by simp [ways]
  | d + 1, [], list, _ => by
    have : (0 : Int) < 12 ^ (d + 1) := Int.pow_pos (by omega)
    simp only [ways]
    split <;> omega
  | d + 1, a :: rest, list, h => by
    simp only [List.length_cons] at h
    have hp : (0 : Int) < 12 ^ d := Int.pow_pos (by omega)
    obtain ⟨h1, h2⟩ := sumS_bound (fun lf x => ways crs d lf (list ++ [⟨a, x⟩])) (12 ^ d) rest [] (fun A B x e => ways_bound crs d _ _ (by
      have := congrArg List.length e
      simp at this ⊢
      omega))
    simp only [ways]
    refine ⟨h1, Int.le_trans h2 ?_⟩
    rw [Int.pow_succ, Int.mul_comm]
    exact Int.mul_le_mul_of_nonneg_left (by omega) (by omega)
/-- Points in order, within the circle. -/
def Pts (n : Int) (l : List Int) : Prop := l.Pairwise (· < ·) ∧ ∀ x ∈ l, 0 ≤ x ∧ x < n
theorem pts_split {n a : Int} {A B : List Int} {x : Int} (h : Pts n (a :: (A ++ x :: B))) : Pts n (A ++ B) ∧ Proper n (⟨a, x⟩ : S52) := by
  obtain ⟨h1, h2⟩ := h
  rw [List.pairwise_cons] at h1
  have hx := h1.1 x (by simp)
  refine ⟨⟨?_, fun y hy => h2 y (by
    rcases List.mem_append.1 hy with h | h <;> simp [h])⟩, (h2 a (by simp)).1, hx, (h2 x (by simp)).2⟩
  refine h1.2.sublist ?_
  exact List.Sublist.append_left (List.sublist_cons_self x B) A
/-- Once too many cross, no pairing is left. -/
theorem ways_none (n crs : Int) : ∀ (d : Nat) (left : List Int) (list : List S52), Pts n left → (∀ c ∈ list, Proper n c) → crs < pairsX list → ways crs d left list = 0
  | 0, _, _, _, _, _ => rfl
  | d + 1, [], list, _, _, h => by
    simp only [ways]
    rw [if_neg (by omega)]
  | d + 1, a :: rest, list, hP, hl, h => by
    simp only [ways]
    refine sumS_zero _ rest [] (fun A B x e => ?_)
    subst e
    obtain ⟨p1, p2⟩ := pts_split hP
    refine ways_none n crs d _ _ p1 (fun c hc => ?_) ?_
    · rcases List.mem_append.1 hc with hc | hc
      · exact hl c hc
      · rw [List.mem_singleton.1 hc]; exact p2
    · rw [pairsX_snoc n _ p2 list hl]
      omega
theorem countPairings_eq (n crs : Int) (hcr : 0 ≤ crs ∧ crs ≤ 1000) : ∀ (d : Nat) (left : List Int) (list : List S52) (k : Nat), left.length < d → d ≤ 13 → left.length ≤ 12 → list.length ≤ 20 → Pts n left → (∀ c ∈ list, Proper n c) → list.length + left.length ≤ 12 → 20 * d + 100 < k →
    impl_countPairings.f k left list (crs - pairsX list) = some (ways crs d left list) := by
  intro d
  induction d with
  | zero => intro left list k h; omega
  | succ d ih =>
    intro left list k hd hd13 hll hls hP hl hsum hk
    obtain ⟨k, rfl⟩ : ∃ m, k = m + 1 := ⟨k - 1, by omega⟩
    simp only [impl_countPairings.f]
    by_cases hneg : crs - (pairsX list : Int) < 0
    · rw [if_pos hneg, ways_none n crs (d + 1) left list hP hl (by omega)]
    · rw [if_neg hneg]
      cases left with
      | nil =>
        rw [if_pos (by simp)]
        simp only [ways]
        by_cases he : (pairsX list : Int) = crs
        · rw [if_pos (by omega), if_pos he]
        · rw [if_neg (by omega), if_neg he]
      | cons a rest =>
        rw [if_neg (by simp; omega)]
        simp only [List.length_cons] at hd hll hsum
        have hpw0 := pow12 d (by omega)
        obtain ⟨Q, hQ⟩ : ∃ Q : Int, (12 : Int) ^ d = Q := ⟨_, rfl⟩
        rw [hQ] at hpw0
        obtain ⟨hpw, hpw1⟩ := hpw0
        have hQH := Aside0.mk hQ
        clear hQ
        have hpx := pairsX_le list
        have hlen2 : pairsX list ≤ 144 := Nat.le_trans hpx (by
          have := Nat.mul_le_mul (show list.length ≤ 12 by omega) (show list.length ≤ 12 by omega)
          omega)
        have loop : ∀ (post pre : List Int) (cnt : Int) (k : Nat), rest = pre ++ post → 0 ≤ cnt → cnt ≤ pre.length * Q → 20 * d + 100 + post.length + 1 < k →
            impl_countPairings.l0 k (a :: rest) list (crs - pairsX list) cnt ((pre.length : Int) + 1) = some (cnt + sumS (fun lf x => ways crs d lf (list ++ [⟨a, x⟩])) pre post) := by
          intro post
          induction post with
          | nil =>
            intro pre cnt k he h0 h1 hk
            obtain ⟨k, rfl⟩ : ∃ m, k = m + 1 := ⟨k - 1, by omega⟩
            rw [List.append_nil] at he
            simp only [impl_countPairings.l0, sumS]
            rw [if_neg (by rw [he]; simp)]
            simp
          | cons x post ihp =>
            intro pre cnt k he h0 h1 hk
            obtain ⟨k, rfl⟩ : ∃ m, k = m + 1 := ⟨k - 1, by omega⟩
            simp only [List.length_cons] at hk
            have hrl : rest.length = pre.length + post.length + 1 := by rw [he]; simp; omega
            obtain ⟨p1, p2⟩ := pts_split (A := pre) (B := post) (x := x) (a := a) (n := n) (by rw [← he]; exact hP)
            have hax : a < x := p2.2.1
            have g1 : ((pre.length : Int) + 1) < ((a :: rest).length : Int) := by simp [hrl]; omega
            have g2 : (0 : Int) < ((a :: rest).length : Int) := by simp [hrl]; try omega
            have g3 : (0 : Int) ≤ (pre.length : Int) + 1 := by omega
            have g4 : (1 : Int) ≤ (pre.length : Int) + 1 := by omega
            have g5 : ((pre.length : Int) + 1) ≤ ((a :: rest).length : Int) := by omega
            have e2 := Aside0.mk (show wrap64 ((pre.length : Int) + 1 + 1) = (pre.length : Int) + 1 + 1 from wrap64_id (by omega) (by omega))
            have g6 : (0 : Int) ≤ (pre.length : Int) + 1 + 1 := by omega
            have g7 : ((pre.length : Int) + 1 + 1) ≤ ((a :: rest).length : Int) := by simp [hrl]; omega
            have t1 : ((a :: rest).take ((pre.length : Int) + 1).toNat).drop 1 = pre := by
              rw [show ((pre.length : Int) + 1).toNat = pre.length + 1 by omega, he]
              simp
            have t2 : (a :: rest).drop ((pre.length : Int) + 1 + 1).toNat = post := by
              rw [show ((pre.length : Int) + 1 + 1).toNat = pre.length + 2 by omega, he, List.drop_succ_cons]
              rw [show pre.length + 1 = (pre ++ [x]).length by simp, show pre ++ x :: post = (pre ++ [x]) ++ post by simp, List.drop_left]
            have t3 : rd (a :: rest) ((pre.length : Int) + 1) = x := by
              unfold rd
              rw [show ((pre.length : Int) + 1).toNat = pre.length + 1 by omega, he]
              simp
            have t4 : rd (a :: rest) 0 = a := rfl
            have t5 : impl_chord.f a x = some (a, x) := by
              unfold impl_chord.f mn mx
              rw [if_neg (by omega), if_pos hax]
            have s1 : slices_Clone_int_int.f pre = some pre := by unfold slices_Clone_int_int.f; rw [if_pos (by omega)]
            have s2 : impl_Chord_61.f list = some list := by unfold impl_Chord_61.f; rw [if_pos (by omega)]
            have g8 : pre.length + post.length < 17592186044416 := by omega
            have g9 : list.length + ([(⟨a, x⟩ : S52)] : List S52).length < 8796093022208 := by simp; omega
            have c1 : impl_crossed.f k list a x = some (countX (⟨a, x⟩ : S52) list : Int) := crossed_eq n ⟨a, x⟩ p2 list hl (by omega) k (by omega)
            have hcx := countX_le (⟨a, x⟩ : S52) list
            have hps := pairsX_snoc n _ p2 list hl
            have e3 := Aside0.mk (show wrap64 (crs - (pairsX list : Int) - (countX (⟨a, x⟩ : S52) list : Int)) = crs - (pairsX (list ++ [⟨a, x⟩]) : Int) by
              rw [wrap64_id (by omega) (by omega), hps]
              omega)
            have c2 := ih (pre ++ post) (list ++ [⟨a, x⟩]) k (by rw [List.length_append]; omega) (by omega) (by rw [List.length_append]; omega) (by simp; omega) p1 (fun c hc => by
              rcases List.mem_append.1 hc with hc | hc
              · exact hl c hc
              · rw [List.mem_singleton.1 hc]; exact p2) (by simp; omega) (by omega)
            have hb := ways_bound crs d (pre ++ post) (list ++ [⟨a, x⟩]) (by rw [List.length_append]; omega)
            rw [hQH.out] at hb
            have hmul : (pre.length : Int) * Q ≤ 12 * Q := Int.mul_le_mul_of_nonneg_right (by omega) (by omega)
            have e4 := Aside0.mk (show wrap64 (cnt + ways crs d (pre ++ post) (list ++ [⟨a, x⟩])) = cnt + ways crs d (pre ++ post) (list ++ [⟨a, x⟩]) from wrap64_id (by omega) (by omega))
            have IH := ihp (pre ++ [x]) (cnt + ways crs d (pre ++ post) (list ++ [⟨a, x⟩])) k (by rw [he]; simp) (by omega) (by
              rw [List.length_append, List.length_singleton, Int.natCast_add, Int.add_mul]
              have : ((1 : Nat) : Int) * Q = Q := by simp
              omega) (by omega)
            rw [show (((pre ++ [x]).length : Nat) : Int) + 1 = (pre.length : Int) + 1 + 1 by simp] at IH
            simp only [impl_countPairings.l0]
            rw [if_pos g1, if_pos g2, if_pos g3, t4, t3, t5]
            simp only [Option.bind_some]
            rw [if_pos g4, if_pos g5, t1, s1]
            simp only [Option.bind_some, e2.out]
            rw [if_pos g6, if_pos g7, t2, if_pos g8, s2]
            simp only [Option.bind_some]
            rw [if_pos g9, c1]
            simp only [Option.bind_some, e3.out]
            rw [c2]
            simp only [Option.bind_some, e4.out]
            rw [IH]
            simp only [sumS]
            refine congrArg some ?_
            omega
        have := loop rest [] 0 k rfl (by omega) (by simp) (by omega)
        simp only [List.length_nil, Int.natCast_zero, Int.zero_add] at this
        simp only [ways]
        rw [show (1 : Int) = 0 + 1 from rfl] at *
        exact this

end Go.Proofs.Ytkiookioejckbaa.Q
