/- The reference's cutting of a text at each occurrence of a byte. -/
import Derived.Test.YtceoaondcnhaeaaDoorBSplit
import Derived.Test.YtceoaondcnhaeaaDoorBWord
import Derived.Test.YtceoaondcnhaeaaDoorXx11
namespace Go.Proofs.YtceoaondcnhaeaaDoor.Q
open Go.RowKit Go.Proofs.YtceoaondcnhaeaaDoor.X Go.Proofs.YtceoaondcnhaeaaDoorW.PrintWords Go.Proofs.YtceoaondcnhaeaaDoorW.PrintLast Go.Proofs.YtceoaondcnhaeaaDoorW.PrintMore
set_option linter.unusedVariables false
set_option linter.unusedSimpArgs false

def splitA (c : UInt8) : List UInt8 → List UInt8 → List (List UInt8)
  | p, [] => [p]
  | p, b :: r => if b = c then p :: splitA c [] r else splitA c (p ++ [b]) r
theorem splitA_eq (c : UInt8) : ∀ (r p : List UInt8), ∃ q qs, splitL c r = q :: qs ∧ splitA c p r = (p ++ q) :: qs
  | [], p => ⟨[], [], rfl, by simp [splitA]⟩
  | b :: r, p => by
    by_cases h : b = c
    · obtain ⟨q, qs, e1, e2⟩ := splitA_eq c r []
      refine ⟨[], splitL c r, by simp [splitL, h], ?_⟩
      simp only [splitA]
      rw [if_pos h, e2, e1]
      simp
    · obtain ⟨q, qs, e1, e2⟩ := splitA_eq c r (p ++ [b])
      refine ⟨b :: q, qs, ?_, ?_⟩
      · simp only [splitL]
        rw [if_neg h, e1]
      · simp only [splitA]
        rw [if_neg h, e2]
        simp
theorem splitA_nil (c : UInt8) (l : List UInt8) : splitA c [] l = splitL c l := by
  obtain ⟨q, qs, e1, e2⟩ := splitA_eq c l []
  rw [e1, e2, List.nil_append]
theorem l1Split_loop (s : ByteArray) (c : UInt8) (hs : s.size ≤ 1000000) (d : Nat) : ∀ (k i from_ : Nat) (done : List ByteArray), i + d = s.size → from_ ≤ i → done.length ≤ i → d < k →
    spec_l1Split.l0 k s (c.toNat : Int) done (from_ : Int) (i : Int) = some (done ++ (splitA c ((s.data.toList.drop from_).take (i - from_)) (s.data.toList.drop i)).map mkB) := by
  induction d with
  | zero =>
    intro k i f done hi hf hd hk
    obtain ⟨k, rfl⟩ : ∃ t, k = t + 1 := ⟨k - 1, by omega⟩
    simp only [spec_l1Split.l0]
    rewrite [if_neg (by omega), if_pos (by omega), if_pos (by omega), if_pos (by omega), Int.toNat_natCast, mkB_extract s f s.size (Nat.le_refl _), List.drop_eq_nil_of_le (i := i) (by rw [len_data]; omega)]
    rw [show i = s.size by omega]
    rfl
  | succ d ih =>
    intro k i f done hi hf hd hk
    obtain ⟨k, rfl⟩ : ∃ t, k = t + 1 := ⟨k - 1, by omega⟩
    have hlt : i < s.data.toList.length := by rw [len_data]; omega
    have hbt := bt_get s i (by omega)
    have hpre : (s.data.toList.drop f).take (i + 1 - f) = (s.data.toList.drop f).take (i - f) ++ [s.data.toList[i]] := by
      rw [show i + 1 - f = (i - f) + 1 by omega, List.take_succ_eq_append_getElem (by simp; omega)]
      simp [show f + (i - f) = i by omega]
    simp only [spec_l1Split.l0]
    rewrite [if_pos (by omega), if_pos (by omega), hbt, List.drop_eq_getElem_cons hlt]
    generalize s.data.toList[i] = b at hpre ⊢
    by_cases hb : b = c
    · subst hb
      rewrite [if_pos rfl, if_pos (by omega), if_pos (by omega), if_pos (by omega), if_pos (by omega), wrapS i (by omega), Int.toNat_natCast, Int.toNat_natCast, mkB_extract s f i (by omega), ih k (i + 1) (i + 1) _ (by omega) (Nat.le_refl _) (by simp; omega) (by omega)]
      simp only [splitA, if_true, Nat.sub_self, List.take_zero, List.map_cons, List.append_assoc, List.cons_append, List.nil_append]
    · have hne : ¬ (b.toNat : Int) = (c.toNat : Int) := fun e => hb (UInt8.toNat_inj.1 (by omega))
      rewrite [if_neg hne, wrapS i (by omega), ih k (i + 1) f done (by omega) (by omega) (by omega) (by omega), hpre]
      simp only [splitA, if_neg hb]
theorem l1Split_eq (s : ByteArray) (c : UInt8) (hs : s.size ≤ 1000000) (k : Nat) (hk : s.size < k) : spec_l1Split.f k s (c.toNat : Int) = some ((splitL c s.data.toList).map mkB) := by
  unfold spec_l1Split.f
  have := l1Split_loop s c hs s.size k 0 0 [] (by omega) (Nat.le_refl _) (Nat.le_refl _) hk
  simp only [Nat.sub_self, List.take_zero, List.drop_zero, List.nil_append, splitA_nil] at this
  exact this

end Go.Proofs.YtceoaondcnhaeaaDoor.Q
