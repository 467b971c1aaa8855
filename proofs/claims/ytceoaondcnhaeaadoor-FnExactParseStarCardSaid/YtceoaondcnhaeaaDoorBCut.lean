/- A byte cut off ahead or behind, and a text cut in two. -/
import Derived.Test.YtceoaondcnhaeaaDoorBSplit
import Derived.Test.YtceoaondcnhaeaaDoorBWord
import Derived.Test.YtceoaondcnhaeaaDoorXx7
import Derived.Test.YtceoaondcnhaeaaDoorXx9
import Derived.Test.YtceoaondcnhaeaaDoorXx14
namespace Go.Proofs.YtceoaondcnhaeaaDoor.Q
open Go.RowKit Go.Proofs.YtceoaondcnhaeaaDoor.X Go.Proofs.YtceoaondcnhaeaaDoorW.PrintWords Go.Proofs.YtceoaondcnhaeaaDoorW.PrintLast Go.Proofs.YtceoaondcnhaeaaDoorW.PrintMore
set_option linter.unusedVariables false
set_option linter.unusedSimpArgs false

theorem ext_list (s : ByteArray) (i j : Nat) (h : j ≤ s.size) : (s.extract i j).toList = (s.data.toList.drop i).take (j - i) := by
  rw [mkB_extract s i j h, Lib.toList_data, mkB_data]
theorem cutPrefix_yes (s : ByteArray) (c : UInt8) (r : List UInt8) (h : s.data.toList = c :: r) (hs : s.size ≤ 1000000000) : strings_CutPrefix.f s ⟨#[c]⟩ = some (mkB r, true) := by
  have hl : s.size = r.length + 1 := by rw [← len_data, h]; rfl
  have e1 : (((⟨#[c]⟩ : ByteArray).size : Nat) : Int) = 1 := rfl
  have e2 : (⟨#[c]⟩ : ByteArray).toList = [c] := by rw [Lib.toList_data]
  unfold strings_CutPrefix.f stringslite_CutPrefix.f stringslite_HasPrefix.f
  rw [e1, e2, if_pos (by omega), if_pos (by omega), if_pos (by omega)]
  have e3 : (s.extract 0 (1 : Int).toNat).toList = [c] := by
    rw [show (1 : Int).toNat = 1 from rfl, ext_list s 0 1 (by omega), h]
    rfl
  rw [e3]
  simp only [Option.bind_some, BEq.rfl, if_true]
  rw [if_pos (by omega), if_pos (by omega), show (1 : Int).toNat = 1 from rfl, mkB_extract s 1 s.size (Nat.le_refl _), h]
  simp only [Option.bind_some, List.drop_succ_cons, List.drop_zero]
  rw [List.take_of_length_le (by omega)]
theorem cutPrefix_no (s : ByteArray) (c : UInt8) (h : ¬ s.data.toList.head? = some c) (hs : s.size ≤ 1000000000) : strings_CutPrefix.f s ⟨#[c]⟩ = some (s, false) := by
  have e1 : (((⟨#[c]⟩ : ByteArray).size : Nat) : Int) = 1 := rfl
  have e2 : (⟨#[c]⟩ : ByteArray).toList = [c] := by rw [Lib.toList_data]
  unfold strings_CutPrefix.f stringslite_CutPrefix.f stringslite_HasPrefix.f
  rw [e1, e2]
  by_cases h1 : 1 ≤ s.size
  · rw [if_pos (by omega), if_pos (by omega), if_pos (by omega)]
    have e3 : ((s.extract 0 (1 : Int).toNat).toList == [c]) = false := by
      rw [show (1 : Int).toNat = 1 from rfl, ext_list s 0 1 (by omega)]
      have hlt : 0 < s.data.toList.length := by rw [len_data]; omega
      cases hd : s.data.toList with
      | nil => rw [hd] at hlt; simp at hlt
      | cons x l =>
        rw [hd] at h
        have hx : ¬ x = c := fun e => h (by rw [e]; rfl)
        simpa using hx
    rw [e3]
    simp
  · rw [if_neg (by omega)]
    simp
theorem cutSuffix_yes (s : ByteArray) (c : UInt8) (r : List UInt8) (h : s.data.toList = r ++ [c]) (hs : s.size ≤ 1000000000) : strings_CutSuffix.f s ⟨#[c]⟩ = some (mkB r, true) := by
  have hl : s.size = r.length + 1 := by rw [← len_data, h]; simp
  have e1 : (((⟨#[c]⟩ : ByteArray).size : Nat) : Int) = 1 := rfl
  have e2 : (⟨#[c]⟩ : ByteArray).toList = [c] := by rw [Lib.toList_data]
  have e0 : (s.size : Int) - 1 = (r.length : Int) := by omega
  unfold strings_CutSuffix.f stringslite_CutSuffix.f stringslite_HasSuffix.f
  rw [e1, e2, e0, wrap64_id (x := (r.length : Int)) (by omega) (by omega), if_pos (by omega), if_pos (by omega), if_pos (by omega), Int.toNat_natCast]
  have e3 : (s.extract r.length s.size).toList = [c] := by
    rw [ext_list s r.length s.size (Nat.le_refl _), h, List.drop_left]
    exact List.take_of_length_le (by simp; omega)
  rw [e3]
  simp only [Option.bind_some, BEq.rfl, if_true]
  rw [if_pos (by omega), if_pos (by omega), mkB_extract s 0 r.length (by omega), h]
  simp
theorem cutSuffix_no (s : ByteArray) (c : UInt8) (h : ¬ s.data.toList.getLast? = some c) (hs : s.size ≤ 1000000000) : strings_CutSuffix.f s ⟨#[c]⟩ = some (s, false) := by
  have e1 : (((⟨#[c]⟩ : ByteArray).size : Nat) : Int) = 1 := rfl
  have e2 : (⟨#[c]⟩ : ByteArray).toList = [c] := by rw [Lib.toList_data]
  unfold strings_CutSuffix.f stringslite_CutSuffix.f stringslite_HasSuffix.f
  rw [e1, e2]
  by_cases h1 : 1 ≤ s.size
  · obtain ⟨m, hm⟩ : ∃ m, s.size = m + 1 := ⟨s.size - 1, by omega⟩
    have e0 : (s.size : Int) - 1 = (m : Int) := by omega
    rw [e0, wrap64_id (x := (m : Int)) (by omega) (by omega), if_pos (by omega), if_pos (by omega), if_pos (by omega), Int.toNat_natCast]
    have e3 : ((s.extract m s.size).toList == [c]) = false := by
      rw [ext_list s m s.size (Nat.le_refl _)]
      rcases List.eq_nil_or_concat s.data.toList with e | ⟨l, x, e⟩
      · have := len_data s; rw [e] at this; simp at this; omega
      · rw [List.concat_eq_append] at e
        have hl : l.length = m := by have := len_data s; rw [e] at this; simp at this; omega
        rw [e] at h ⊢
        have hx : ¬ x = c := fun e => h (by rw [e]; simp)
        rw [← hl, List.drop_left, List.take_of_length_le (by simp; omega)]
        simpa using hx
    rw [e3]
    simp
  · rw [if_neg (by omega)]
    simp
theorem cut_yes (s : ByteArray) (c : UInt8) (a b : List UInt8) (h : s.data.toList = a ++ c :: b) (ha : a.count c = 0) (hs : s.size ≤ 1000000000) : strings_Cut.f s ⟨#[c]⟩ = some (mkB a, mkB b, true) := by
  have hl : s.size = a.length + (b.length + 1) := by rw [← len_data, h]; simp
  have e1 : (((⟨#[c]⟩ : ByteArray).size : Nat) : Int) = 1 := rfl
  have hi : stringslite_Index.f s ⟨#[c]⟩ = some (a.length : Int) := by
    have h0 := index_eq s c
    unfold strings_Index.f at h0
    rcases indexByte_cases c s.data.toList with ⟨h1, h2⟩ | ⟨a', b', h1, h2, h3⟩
    · rw [h, List.count_append, List.count_cons_self] at h1; omega
    · have e : a' = a := by
        rw [h] at h1
        have h4 := splitL_at c a b ha
        rw [h1, splitL_at c a' b' h2] at h4
        injection h4
      subst e
      unfold stringslite_Index.f
      simp only [h3]
  unfold strings_Cut.f stringslite_Cut.f
  rw [hi, e1]
  simp only [Option.bind_some]
  rw [if_pos (by omega), if_pos (by omega), if_pos (by omega), wrapS a.length (by omega), if_pos (by omega), if_pos (by omega), Int.toNat_natCast, Int.toNat_natCast, mkB_extract s 0 a.length (by omega), mkB_extract s (a.length + 1) s.size (Nat.le_refl _), h]
  have e2 : (a ++ c :: b).drop (a.length + 1) = b := by
    rw [show a.length + 1 = (a ++ [c]).length by simp, show a ++ c :: b = (a ++ [c]) ++ b by simp, List.drop_left]
  rw [e2, List.take_of_length_le (l := b) (by omega)]
  simp
theorem cut_no (s : ByteArray) (c : UInt8) (h : s.data.toList.count c = 0) : strings_Cut.f s ⟨#[c]⟩ = some (s, ⟨#[]⟩, false) := by
  unfold strings_Cut.f stringslite_Cut.f stringslite_Index.f
  rcases indexByte_cases c s.data.toList with ⟨h1, h2⟩ | ⟨a', b', h1, h2, h3⟩
  · simp only [h2, Option.bind_some]
    rw [if_neg (by omega)]
    rfl
  · rw [h1, List.count_append, List.count_cons_self] at h; omega

end Go.Proofs.YtceoaondcnhaeaaDoor.Q
