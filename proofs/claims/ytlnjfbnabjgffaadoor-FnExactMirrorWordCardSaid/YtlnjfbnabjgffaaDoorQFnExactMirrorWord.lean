/- MirrorWord: reference and program exchange the same signs. -/
import Derived.Test.YtlnjfbnabjgffaaDoorBWrap
import Derived.Test.YtlnjfbnabjgffaaDoorBWord
import Derived.Test.YtlnjfbnabjgffaaDoorBMirror
import Derived.Test.YtlnjfbnabjgffaaDoorXx1
import Derived.Test.YtlnjfbnabjgffaaDoorXx51
namespace Go.Proofs.YtlnjfbnabjgffaaDoor.Q
open Go.RowKit Go.Proofs.YtlnjfbnabjgffaaDoor.X Go.Proofs.YtlnjfbnabjgffaaDoorW.PrintWords Go.Proofs.YtlnjfbnabjgffaaDoorW.PrintLast Go.Proofs.YtlnjfbnabjgffaaDoorW.PrintMore
set_option linter.unusedVariables false
set_option linter.unusedSimpArgs false

theorem mirror_loop (w : ByteArray) (hw : w.size ≤ 1000) (hb : ∀ b ∈ w.data.toList, okB b = true) (d : Nat) : ∀ (k i : Nat), i + d = w.size → d < k → spec_MirrorWord.l0 k w (msS (swL w) i) (i : Int) = some (swB w, true) := by
  induction d with
  | zero =>
    intro k i hi hk
    obtain ⟨k, rfl⟩ : ∃ t, k = t + 1 := ⟨k - 1, by omega⟩
    simp only [spec_MirrorWord.l0]
    rw [if_neg (by omega), show i = (swL w).length by rw [swL_len]; omega]
    unfold msS swB
    rw [List.take_length]
  | succ d ih =>
    intro k i hi hk
    obtain ⟨k, rfl⟩ : ∃ t, k = t + 1 := ⟨k - 1, by omega⟩
    have IH := ih k (i + 1) (by omega) (by omega)
    have hsz := msS_size (swL w) i
    have hn := msS_next (swL w) i (by rw [swL_len]; omega)
    rw [swL_get w i (by omega)] at hn
    have ho := other_eq w hb i (by omega)
    have h1 : (⟨#[UInt8.ofNat ((swN (byN w i) : Nat) : Int).toNat]⟩ : ByteArray).size = 1 := rfl
    simp only [spec_MirrorWord.l0]
    rw [if_pos (by omega), if_pos (by omega), ho, Option.bind_some, if_pos (by rw [h1]; omega), wrap64_id (x := (i : Int) + 1) (by omega) (by omega), ← hn]
    exact IH
theorem mirror_both (g : Int) (w : ByteArray) : ∃ r : ByteArray × Bool, ∀ k, 2000 ≤ k → spec_MirrorWord.f k g w = some r ∧ impl_MirrorWord.f g w = some r := by
  by_cases h : askedB g w = true
  · obtain ⟨hg, hw, hb⟩ := asked_of h
    refine ⟨(swB w, true), fun k hk => ⟨?_, ?_⟩⟩
    · unfold spec_MirrorWord.f
      rw [paAsked_eq g w k (by omega), Option.bind_some, if_pos h]
      have h0 : (⟨#[]⟩ : ByteArray) = msS (swL w) 0 := rfl
      rw [h0]
      exact mirror_loop w (by omega) hb w.size k 0 (by omega) (by omega)
    · unfold impl_MirrorWord.f impl_mirrored.f
      rw [isWord_eq, Option.bind_some, if_pos h, if_pos (by omega)]
      rfl
  · refine ⟨(⟨#[]⟩, false), fun k hk => ⟨?_, ?_⟩⟩
    · unfold spec_MirrorWord.f
      rw [paAsked_eq g w k (by omega), Option.bind_some, if_neg h]
    · unfold impl_MirrorWord.f
      rw [isWord_eq, Option.bind_some, if_neg h]
theorem FnExactMirrorWord : ∀ (a0 : Int) (a1 : ByteArray), (Lit.int .i64 a0).wf = true → a1.size ≤ 140737488351232 → ∃ k, laws_FnExactMirrorWord.f k a0 a1 = some true := by
  intro g w _ _
  obtain ⟨r, hr⟩ := mirror_both g w
  refine ⟨2000, ?_⟩
  unfold laws_FnExactMirrorWord.f
  by_cases h : (w.size : Int) > 1048576
  · rw [if_pos h]
  · rw [if_neg h, (hr 2000 (by omega)).1, (hr 2000 (by omega)).2]
    simp

end Go.Proofs.YtlnjfbnabjgffaaDoor.Q
