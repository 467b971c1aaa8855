/- A text cut at each occurrence of a byte. -/
import Derived.Lib.Strings
import Derived.Test.YtceoaondcnhaeaaDoorBWrap
import Derived.Test.YtceoaondcnhaeaaDoorXx9
import Derived.Test.YtceoaondcnhaeaaDoorXx10
namespace Go.Proofs.YtceoaondcnhaeaaDoor.Q
open Go.RowKit Go.Proofs.YtceoaondcnhaeaaDoor.X Go.Proofs.YtceoaondcnhaeaaDoorW.PrintWords Go.Proofs.YtceoaondcnhaeaaDoorW.PrintLast Go.Proofs.YtceoaondcnhaeaaDoorW.PrintMore
set_option linter.unusedVariables false
set_option linter.unusedSimpArgs false

theorem wrapS (n : Nat) (h : n ≤ 4000000000) : wrap64 ((n : Int) + 1) = ((n + 1 : Nat) : Int) := by
  rw [wrap64_id (by omega) (by omega)]
  omega
def mkB (l : List UInt8) : ByteArray := ⟨l.toArray⟩
theorem mkB_data (l : List UInt8) : (mkB l).data.toList = l := by simp [mkB]
theorem mkB_size (l : List UInt8) : (mkB l).size = l.length := by
  show l.toArray.size = _
  simp
theorem mkB_of (s : ByteArray) : mkB s.data.toList = s := by simp [mkB]
theorem mkB_extract (s : ByteArray) (i j : Nat) (h : j ≤ s.size) : s.extract i j = mkB ((s.data.toList.drop i).take (j - i)) := by
  refine ByteArray.ext ?_
  apply Array.toList_inj.1
  simp [mkB, ByteArray.data_extract, List.take_drop]
/-- The pieces between the bytes c. -/
def splitL (c : UInt8) : List UInt8 → List (List UInt8)
  | [] => [[]]
  | b :: l => if b = c then [] :: splitL c l else match splitL c l with
    | [] => [[b]]
    | p :: ps => (b :: p) :: ps
theorem splitL_ne (c : UInt8) : ∀ l, splitL c l ≠ []
  | [] => by simp [splitL]
  | b :: l => by
    unfold splitL
    split
    · simp
    · split <;> simp
theorem splitL_len (c : UInt8) : ∀ l, (splitL c l).length = l.count c + 1
  | [] => rfl
  | b :: l => by
    have ih := splitL_len c l
    unfold splitL
    by_cases h : b = c
    · rw [if_pos h, List.length_cons, ih, h, List.count_cons_self]
    · rw [if_neg h]
      cases hs : splitL c l with
      | nil => exact absurd hs (splitL_ne c l)
      | cons p ps =>
        rw [hs] at ih
        rw [List.count_cons_of_ne h]
        simpa using ih
theorem splitL_none (c : UInt8) : ∀ l, l.count c = 0 → splitL c l = [l]
  | [], _ => rfl
  | b :: l, h => by
    have hb : ¬ b = c := fun e => by subst e; simp at h
    rw [List.count_cons_of_ne hb] at h
    unfold splitL
    rw [if_neg hb, splitL_none c l h]
theorem splitL_at (c : UInt8) : ∀ (a b : List UInt8), a.count c = 0 → splitL c (a ++ c :: b) = a :: splitL c b
  | [], b, _ => by simp [splitL]
  | x :: a, b, h => by
    have hx : ¬ x = c := fun e => by subst e; simp at h
    rw [List.count_cons_of_ne hx] at h
    rw [List.cons_append, splitL, if_neg hx, splitL_at c a b h]
theorem indexByte_cases (c : UInt8) : ∀ l : List UInt8, (l.count c = 0 ∧ Lib.indexByte l c = -1) ∨ ∃ a b, l = a ++ c :: b ∧ a.count c = 0 ∧ Lib.indexByte l c = a.length
  | [] => .inl ⟨rfl, rfl⟩
  | x :: l => by
    by_cases hx : x = c
    · subst hx
      refine .inr ⟨[], l, rfl, rfl, ?_⟩
      simp [Lib.indexByte]
    · have hb : (x == c) = false := by simpa using hx
      rcases indexByte_cases c l with ⟨h1, h2⟩ | ⟨a, b, rfl, h2, h3⟩
      · refine .inl ⟨by rw [List.count_cons_of_ne hx]; exact h1, ?_⟩
        simp [Lib.indexByte, hb, h2]
      · refine .inr ⟨x :: a, b, rfl, by rw [List.count_cons_of_ne hx]; exact h2, ?_⟩
        unfold Lib.indexByte
        rw [hb, h3]
        have : ((a.length : Int) == -1) = false := by first | (simp; done) | (simp; omega)
        simp [this]
theorem index_eq (s : ByteArray) (c : UInt8) : strings_Index.f s ⟨#[c]⟩ = some (Lib.indexByte s.data.toList c) := by
  unfold strings_Index.f stringslite_Index.f
  rfl
theorem genSplit_loop (c : UInt8) (d : Nat) : ∀ (k : Nat) (s : ByteArray) (done : List ByteArray), s.data.toList.count c = d → s.size ≤ 1000000000 → done.length + d ≤ 1000000000 → d < k →
    strings_genSplit.l0 k s ⟨#[c]⟩ 0 ((done.length + d : Nat) : Int) (done ++ List.replicate (d + 1) ⟨#[]⟩) (done.length : Int) = some (done ++ (splitL c s.data.toList).map mkB) := by
  induction d with
  | zero =>
    intro k s done hc hs hd hk
    obtain ⟨k, rfl⟩ : ∃ t, k = t + 1 := ⟨k - 1, by omega⟩
    have hl : ((done ++ List.replicate (0 + 1) (⟨#[]⟩ : ByteArray)).length : Int) = ((done.length + 1 : Nat) : Int) := by simp
    simp only [strings_genSplit.l0]
    rw [if_neg (by omega), if_pos (by omega), if_pos (by rw [hl]; omega), wrapS _ (by omega), if_pos (by omega), if_pos (by rw [hl]; omega), splitL_none c _ hc]
    simp [mkB_of]
    exact List.take_of_length_le (by simp)
  | succ d ih =>
    intro k s done hc hs hd hk
    obtain ⟨k, rfl⟩ : ∃ t, k = t + 1 := ⟨k - 1, by omega⟩
    rcases indexByte_cases c s.data.toList with ⟨h1, h2⟩ | ⟨a, b, hab, h2, h3⟩
    · omega
    · have hsz : s.size = a.length + (b.length + 1) := by
        have := congrArg List.length hab
        simpa using this
      have hl : ((done ++ List.replicate (d + 1 + 1) (⟨#[]⟩ : ByteArray)).length : Int) = ((done.length + (d + 2) : Nat) : Int) := by simp; omega
      have hcb : b.count c = d := by
        rw [hab, List.count_append, List.count_cons_self] at hc
        omega
      simp only [strings_genSplit.l0]
      rewrite [if_pos (by omega), index_eq, h3, Option.bind_some]
      have e0 : (((⟨#[c]⟩ : ByteArray).size : Nat) : Int) = 1 := rfl
      rewrite [if_neg (by omega), e0, wrapS a.length (by omega), Int.add_zero, wrap64_id (x := (a.length : Int)) (by omega) (by omega), if_pos (by omega), if_pos (by omega), if_pos (by omega), if_pos (by rw [hl]; omega), if_pos (by omega), if_pos (by omega), wrapS done.length (by omega)]
      simp only [Int.toNat_natCast]
      have ex1 : s.extract 0 a.length = mkB a := by
        rw [mkB_extract s 0 a.length (by omega), hab]
        simp
      have ex2 : s.extract (a.length + 1) s.size = mkB b := by
        rw [mkB_extract s (a.length + 1) s.size (Nat.le_refl _), hab]
        congr 1
        rw [show a.length + 1 = (a ++ [c]).length by simp, show a ++ c :: b = (a ++ [c]) ++ b by simp, List.drop_left]
        exact List.take_of_length_le (by simp; omega)
      have est : (done ++ List.replicate (d + 1 + 1) (⟨#[]⟩ : ByteArray)).set done.length (mkB a) = (done ++ [mkB a]) ++ List.replicate (d + 1) ⟨#[]⟩ := by
        rw [List.set_append_right _ _ (Nat.le_refl _), Nat.sub_self, List.replicate_succ]
        simp
      rewrite [ex1, ex2, est]
      have IH := ih k (mkB b) (done ++ [mkB a]) (by rw [mkB_data]; exact hcb) (by rw [mkB_size]; omega) (by simp; omega) (by omega)
      rw [mkB_data, List.length_append, List.length_singleton] at IH
      rw [show done.length + 1 + d = done.length + (d + 1) by omega] at IH
      rewrite [IH, hab, splitL_at c a b h2, List.map_cons, List.append_assoc]
      rfl
theorem split_eq (s : ByteArray) (c : UInt8) (hs : s.size ≤ 1000000) (k : Nat) (hk : s.size + 10 < k) : strings_Split.f k s ⟨#[c]⟩ = some ((splitL c s.data.toList).map mkB) := by
  have hcl : s.data.toList.count c ≤ s.size := by
    have := List.count_le_length (a := c) (l := s.data.toList)
    simpa using this
  obtain ⟨n, hn⟩ : ∃ n, n = s.data.toList.count c := ⟨_, rfl⟩
  rw [← hn] at hcl
  have hcnt : strings_Count.f s ⟨#[c]⟩ = some ((n : Nat) : Int) := by
    unfold strings_Count.f Lib.countByte
    rw [hn]
  have hne : ¬ (⟨#[c]⟩ : ByteArray).toList = [] := by
    rw [Lib.toList_data]
    simp
  obtain ⟨k, rfl⟩ : ∃ t, k = t + 1 := ⟨k - 1, by omega⟩
  unfold strings_Split.f strings_genSplit.f
  rewrite [if_neg (by omega), if_neg hne, if_pos (by omega), hcnt, Option.bind_some]
  simp only [strings_genSplit.j0]
  have e3 : mn ((n + 1 : Nat) : Int) ((s.size + 1 : Nat) : Int) = ((n + 1 : Nat) : Int) := by unfold mn; split <;> omega
  have e5 : ((n + 1 : Nat) : Int) - 1 = (n : Int) := by omega
  rewrite [wrapS n (by omega), wrapS s.size (by omega), e3, e5, wrap64_id (x := (n : Int)) (by omega) (by omega), if_pos (by omega), if_pos (by rw [Int.toNat_natCast]; omega), Int.toNat_natCast]
  have := genSplit_loop c n k s [] hn.symm (by omega) (by simp; omega) (by omega)
  simp only [List.length_nil, Nat.zero_add, List.nil_append] at this
  rewrite [show strings_genSplit.l0 k s ⟨#[c]⟩ 0 (n : Int) (List.replicate (n + 1) ⟨#[]⟩) 0 = _ from this]
  rfl

end Go.Proofs.YtceoaondcnhaeaaDoor.Q
