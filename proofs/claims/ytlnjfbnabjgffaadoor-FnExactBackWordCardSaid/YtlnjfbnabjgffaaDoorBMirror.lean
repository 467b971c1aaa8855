/- Signs exchanged, as reference and program do it. -/
import Derived.Test.YtlnjfbnabjgffaaDoorBWrap
import Derived.Test.YtlnjfbnabjgffaaDoorBWord
import Derived.Test.YtlnjfbnabjgffaaDoorXx1
import Derived.Test.YtlnjfbnabjgffaaDoorXx50
namespace Go.Proofs.YtlnjfbnabjgffaaDoor.Q
open Go.RowKit Go.Proofs.YtlnjfbnabjgffaaDoor.X Go.Proofs.YtlnjfbnabjgffaaDoorW.PrintWords Go.Proofs.YtlnjfbnabjgffaaDoorW.PrintLast Go.Proofs.YtlnjfbnabjgffaaDoorW.PrintMore
set_option linter.unusedVariables false
set_option linter.unusedSimpArgs false

/-- The first i of the numbers as bytes. -/
def msS (l : List Int) (i : Nat) : ByteArray := strOfNums (l.take i)
theorem msS_next (l : List Int) (i : Nat) (h : i < l.length) : msS l (i + 1) = msS l i ++ (⟨#[UInt8.ofNat (l.getD i 0).toNat]⟩ : ByteArray) := by
  have e : l.take (i + 1) = l.take i ++ [l[i]] := List.take_succ_eq_append_getElem h
  have e2 : l.getD i 0 = l[i] := by rw [List.getD_eq_getElem?_getD, List.getElem?_eq_getElem h, Option.getD_some]
  unfold msS
  rw [e, e2]
  apply ByteArray.ext
  apply Array.toList_inj.1
  rw [strOfNums_data, List.map_append]
  simp [strOfNums]
theorem msS_size (l : List Int) (i : Nat) : (msS l i).size ≤ i := by
  unfold msS
  rw [strOfNums_size, List.length_take]
  omega
theorem bt_byN (w : ByteArray) (i : Nat) (h : i < w.size) : bt w (i : Int) = (byN w i : Int) := by
  rw [bt_get w i h]
  unfold byN
  have h' : i < w.data.toList.length := by rw [len_data]; exact h
  rw [List.getD_eq_getElem?_getD, List.getElem?_eq_getElem h', Option.getD_some]
theorem other_eq (w : ByteArray) (hb : ∀ b ∈ w.data.toList, okB b = true) (i : Nat) (h : i < w.size) : spec_paOther.f (bt w (i : Int)) = some ⟨#[UInt8.ofNat ((swN (byN w i) : Nat) : Int).toNat]⟩ := by
  rw [bt_byN w i h]
  have h' : i < w.data.toList.length := by rw [len_data]; exact h
  have hm := hb _ (List.getElem_mem h')
  have e : byN w i = (w.data.toList[i]).toNat := by
    unfold byN
    rw [List.getD_eq_getElem?_getD, List.getElem?_eq_getElem h', Option.getD_some]
  generalize w.data.toList[i] = b at hm e
  unfold okB at hm
  simp only [Bool.or_eq_true, beq_iff_eq] at hm
  rw [e]
  rcases hm with (rfl | rfl) | rfl <;> rfl

end Go.Proofs.YtlnjfbnabjgffaaDoor.Q
