/- LeastShift: the least of the words that begin behind so many signs; both tell the same. -/
import Derived.Sort.Walk0
import Derived.Test.YtkbokgpbfpncdaaDoorBWord
import Derived.Test.YtkbokgpbfpncdaaDoorXx50
namespace Go.Proofs.YtkbokgpbfpncdaaDoor.Q
open Go.RowKit Go.Proofs.YtkbokgpbfpncdaaDoor.X Go.Proofs.YtkbokgpbfpncdaaDoorW.PrintWords Go.Proofs.YtkbokgpbfpncdaaDoorW.PrintLast Go.Proofs.YtkbokgpbfpncdaaDoorW.PrintMore
set_option linter.unusedVariables false
set_option linter.unusedSimpArgs false

theorem less_or (x y : List UInt8) : (Op.bytesLess x y || x == y) = !Op.bytesLess y x := by
  induction x generalizing y with
  | nil => cases y <;> simp [Op.bytesLess]
  | cons a x ih =>
    cases y with
    | nil => simp [Op.bytesLess]
    | cons b y =>
      simp only [Op.bytesLess, List.cons_beq_cons]
      by_cases h1 : a < b
      · have h2 : ¬ b < a := fun h => absurd (UInt8.lt_trans h1 h) (UInt8.lt_irrefl a)
        have h3 : a ≠ b := fun h => absurd (h ▸ h1) (UInt8.lt_irrefl _)
        simp [h1, h2, h3, Ne.symm h3]
      · by_cases h3 : a = b
        · subst h3
          simp [UInt8.lt_irrefl, ih y]
        · have h2 : b < a := by
            rcases UInt8.lt_or_lt_of_ne h3 with h | h
            · exact absurd h h1
            · exact h
          simp [h1, h2, h3, Ne.symm h3]
theorem least_same (w : ByteArray) : ∀ i, leastM w i = leastW w i
  | 0 => rfl
  | i + 1 => by
    have ih := least_same w i
    show (if (Op.bytesLess (leastM w i).toList (w.extract i w.size ++ w.extract 0 i).toList || (leastM w i).toList == (w.extract i w.size ++ w.extract 0 i).toList) = true then leastM w i else w.extract i w.size ++ w.extract 0 i) = if Op.bytesLess (shiftW w i).toList (leastW w i).toList = true then shiftW w i else leastW w i
    rw [less_or, ih]
    show (if (!Op.bytesLess (shiftW w i).toList (leastW w i).toList) = true then leastW w i else shiftW w i) = _
    cases Op.bytesLess (shiftW w i).toList (leastW w i).toList <;> rfl
theorem FnExactLeastShift : ∀ (a0 : Int) (a1 : ByteArray), (Lit.int .i64 a0).wf = true → a1.size ≤ 140737488351232 → laws_FnExactLeastShift.f a0 a1 = some true := by
  intro g w _ _
  unfold laws_FnExactLeastShift.f spec_LeastShift.f impl_LeastShift.f
  by_cases hb : (w.size : Int) > 1048576
  · rw [if_pos hb]
  · rw [if_neg hb, paAsked_eq g w 1000 (by omega), isWord_eq]
    simp only [Option.bind_some]
    cases ha : askedB g w with
    | false => simp
    | true =>
      obtain ⟨_, hs, hB⟩ := asked_of ha
      have hall : w.data.toList.all (fun b => decide (b.toNat < 128)) = true := by
        rw [List.all_eq_true]
        intro b hb
        have := hB b hb
        unfold okB at this
        simp only [Bool.or_eq_true, beq_iff_eq] at this
        rcases this with (rfl | rfl) | rfl <;> decide
      have c1 : w.size ≤ 1000 ∧ w.data.toList.all (fun b => decide (b.toNat < 128)) = true := ⟨by omega, hall⟩
      have c2 : w.size ≤ 1000 := by omega
      simp only [if_true, if_pos c1, if_pos c2, Option.bind_some, least_same]
      simp

end Go.Proofs.YtkbokgpbfpncdaaDoor.Q
