/- Words: at most 120 signs, each F, L or R. -/
import Derived.Lib.Strings
import Derived.Test.YtlnjfbnabjgffaaDoorBGridA
import Derived.Test.YtlnjfbnabjgffaaDoorBTrim
import Derived.Test.YtlnjfbnabjgffaaDoorXx1
import Derived.Test.YtlnjfbnabjgffaaDoorXx2
namespace Go.Proofs.YtlnjfbnabjgffaaDoor.Q
open Go.RowKit Go.Proofs.YtlnjfbnabjgffaaDoor.X Go.Proofs.YtlnjfbnabjgffaaDoorW.PrintWords Go.Proofs.YtlnjfbnabjgffaaDoorW.PrintLast Go.Proofs.YtlnjfbnabjgffaaDoorW.PrintMore
set_option linter.unusedVariables false
set_option linter.unusedSimpArgs false

def okB (b : UInt8) : Bool := b == 70 || b == 76 || b == 82
def wordB (w : ByteArray) : Bool := decide (w.size ≤ 120) && w.data.toList.all okB
def askedB (g : Int) (w : ByteArray) : Bool := decide (g = 4 ∨ g = 6) && wordB w
theorem len_data (w : ByteArray) : w.data.toList.length = w.size := by simp
theorem bt_get (w : ByteArray) (i : Nat) (h : i < w.size) : bt w (i : Int) = ((w.data.toList[i]'(by rw [len_data]; exact h)).toNat : Int) := by
  unfold bt
  rw [dif_pos (by simpa using h)]
  rfl
theorem u8_eq (b : UInt8) (n : Nat) (hn : n < 256) : ((b.toNat : Int) = (n : Int)) ↔ b = UInt8.ofNat n := by
  constructor
  · intro h
    apply UInt8.toNat_inj.1
    rw [UInt8.toNat_ofNat']
    omega
  · intro h
    rw [h, UInt8.toNat_ofNat']
    omega
theorem paWord_loop (w : ByteArray) (hw : w.size ≤ 1000) (d : Nat) : ∀ (k i : Nat), i + d = w.size → d < k → spec_paWord.l0 k w (i : Int) = some ((w.data.toList.drop i).all okB) := by
  induction d with
  | zero =>
    intro k i hi hk
    obtain ⟨k, rfl⟩ : ∃ t, k = t + 1 := ⟨k - 1, by omega⟩
    simp only [spec_paWord.l0]
    rw [if_neg (by omega), List.drop_eq_nil_of_le (by rw [len_data]; omega)]
    rfl
  | succ d ih =>
    intro k i hi hk
    obtain ⟨k, rfl⟩ : ∃ t, k = t + 1 := ⟨k - 1, by omega⟩
    have hlt : i < w.data.toList.length := by rw [len_data]; omega
    have e1 : wrap64 ((i : Int) + 1) = ((i + 1 : Nat) : Int) := by rw [wrap64_id (by omega) (by omega)]; rfl
    rw [List.drop_eq_getElem_cons hlt]
    simp only [spec_paWord.l0, List.all_cons]
    rw [if_pos (by omega), if_pos (by omega), e1, ih k (i + 1) (by omega) (by omega), bt_get w i (by omega)]
    generalize w.data.toList[i] = b
    by_cases h1 : (b.toNat : Int) = 70
    · rw [if_pos h1]
      have : b = 70 := (u8_eq b 70 (by omega)).1 h1
      subst this; rfl
    · rw [if_neg h1]
      by_cases h2 : (b.toNat : Int) = 76
      · rw [if_pos h2]
        have : b = 76 := (u8_eq b 76 (by omega)).1 h2
        subst this; rfl
      · rw [if_neg h2]
        by_cases h3 : (b.toNat : Int) = 82
        · rw [if_pos h3]
          have : b = 82 := (u8_eq b 82 (by omega)).1 h3
          subst this; rfl
        · rw [if_neg h3]
          have : okB b = false := by
            unfold okB
            have n1 : b ≠ 70 := fun e => h1 ((u8_eq b 70 (by omega)).2 e)
            have n2 : b ≠ 76 := fun e => h2 ((u8_eq b 76 (by omega)).2 e)
            have n3 : b ≠ 82 := fun e => h3 ((u8_eq b 82 (by omega)).2 e)
            simp [n1, n2, n3]
          rw [this]; rfl
theorem paWord_eq (w : ByteArray) (k : Nat) (hk : 200 ≤ k) : spec_paWord.f k w = some (wordB w) := by
  unfold spec_paWord.f wordB
  by_cases h : (w.size : Int) > 120
  · rw [if_pos h, decide_eq_false (by omega)]; rfl
  · rw [if_neg h, decide_eq_true (by omega)]
    have := paWord_loop w (by omega) w.size k 0 (by omega) (by omega)
    rw [List.drop_zero] at this
    exact this
theorem paAsked_eq (g : Int) (w : ByteArray) (k : Nat) (hk : 200 ≤ k) : spec_paAsked.f k g w = some (askedB g w) := by
  unfold spec_paAsked.f askedB
  rw [paGrid_eq, Option.bind_some]
  by_cases h : g = 4 ∨ g = 6
  · rw [if_pos (decide_eq_true h), paWord_eq w k hk, decide_eq_true h]; rfl
  · rw [if_neg (by simp [h]), decide_eq_false h]; rfl
theorem trim_eq (w : ByteArray) (hw : w.size ≤ 120) : (strings_Trim.f w ⟨#[70, 76, 82]⟩).bind (fun t => some (t.toList == ([] : List UInt8))) = some (w.data.toList.all okB) := by
  unfold strings_Trim.f
  rw [if_pos ⟨by omega, by decide, by decide⟩, Option.bind_some]
  refine congrArg some ?_
  rw [ByteArray.toList_eq]
  show ((Lib.trimS w.data.toList [70, 76, 82]).toArray.toList == []) = _
  rw [List.toList_toArray, Bool.eq_iff_iff, beq_iff_eq, trimS_nil, List.all_eq_true]
  have e : ∀ b : UInt8, ([70, 76, 82] : List UInt8).contains b = okB b := by
    intro b
    unfold okB
    simp only [List.contains_cons, List.contains_nil, Bool.or_false, Bool.or_assoc]
  exact forall_congr' fun b => by rw [e]
theorem isWord_eq (g : Int) (w : ByteArray) : impl_isWord.f g w = some (askedB g w) := by
  unfold impl_isWord.f askedB wordB
  rw [isGrid_eq, Option.bind_some]
  by_cases h : g = 4 ∨ g = 6
  · rw [if_pos (decide_eq_true h), decide_eq_true h]
    by_cases hw : w.size ≤ 120
    · rw [if_pos (by omega), trim_eq w hw, decide_eq_true hw]; rfl
    · rw [if_neg (by omega), decide_eq_false hw]; rfl
  · rw [if_neg (by simp [h]), decide_eq_false h]; rfl
theorem asked_of {g : Int} {w : ByteArray} (h : askedB g w = true) : (g = 4 ∨ g = 6) ∧ w.size ≤ 120 ∧ ∀ b ∈ w.data.toList, okB b = true := by
  simp only [askedB, wordB, Bool.and_eq_true, decide_eq_true_eq, List.all_eq_true] at h
  exact ⟨h.1, h.2.1, h.2.2⟩

end Go.Proofs.YtlnjfbnabjgffaaDoor.Q
