/- Slices of pairs of numbers that came in, as the printed contracts want them. -/
import Derived.Test.YtlnjfbnabjgffaaXx0
import Derived.WideShapes
import Derived.ChangeSame
import Derived.OpenShut
import Derived.DataElems
import Derived.ChangeArms
namespace Go.Proofs.Ytlnjfbnabjgffaa.XRow
open Go.ChangeShapes Go.WideShapes Go.RowKit Go.Proofs.Ytlnjfbnabjgffaa.X Go.Proofs.YtlnjfbnabjgffaaW.PrintWords

set_option maxRecDepth 100000 in
/-- A slice of pairs of numbers that came in. -/
theorem open_row_S68 {H : Type} {enc : TypeId × Value → H} {W : World} {r : Reach} {b0 base : Nat} {sp : Nat → Bool} {held : Bool} {v : Value} {d : DataW H} {p : List MemPlace}
    (hval : Value.okWide Try.prog W r b0 37 v) (h : DataW.Trod enc Try.prog W base sp held 37 v d p) :
    ∃ (A : Option Addr) (c : Nat) (l : List S68), v = .slice A l.length c ∧ Kd.C k68 W A l.length l ∧ l.length ≤ c := by
  obtain ⟨A0, len, cap, rfl⟩ := okWide_slice Try.underlying37 hval
  obtain ⟨fuel, hf⟩ := h
  have hf' : DataW.trod enc Try.prog W base sp held fuel 37 [.slice A0 len cap] = some (d, p) := by simpa [Value.cells] using hf
  rcases DataW.trod_slice Try.underlying37 hf' with ⟨hcs, _⟩ | ⟨a, len', cap', elems, rest, n, _, hcs, _, _, hl, hm, hlen, hel, _, _⟩
  · simp only [List.cons.injEq, Value.slice.injEq, and_true] at hcs
    obtain ⟨rfl, rfl, rfl⟩ := hcs
    exact ⟨none, 0, [], rfl, Kd.C_nil _ _, Nat.le_refl _⟩
  · simp only [List.cons.injEq, Value.slice.injEq, and_true] at hcs
    obtain ⟨rfl, rfl, rfl⟩ := hcs
    have hC : Try.prog.cellsOf 68 = 2 := by kernel_rfl
    rw [hC] at hel
    have each : ∀ i, i < len → ∃ x : S68, W.cell? (a.add (i * 2)) = some (.int .i64 x.f0) ∧ W.cell? (a.add (i * 2 + 1)) = some (.int .i64 x.f1) := by
      intro i hi
      have hE := hel i hi
      rw [List.getElem?_eq_getElem (show i < elems.length by omega), Option.bind_eq_some_iff] at hE
      obtain ⟨cs, h1, h2⟩ := hE
      obtain ⟨_, hl2, hcell⟩ := World.cells?_some h1
      obtain ⟨y0, y1, m, _, _, h4, h5⟩ := trod_struct2 Try.underlying68 h2
      match cs, hl2 with
      | [c0, c1], _ =>
        have e0 : [c0, c1].drop 0 = [c0, c1] := rfl
        obtain ⟨n0, e0, _, _⟩ := DataW.trod_int Try.underlying3 h4
        obtain ⟨n1, e1, _, _⟩ := DataW.trod_int Try.underlying3 h5
        have k1 : Try.prog.cellsOf 3 = 1 := by kernel_rfl
        simp only [k1, List.drop_zero, List.drop_succ_cons, List.take_succ_cons, List.take_zero, List.cons.injEq, and_true] at e0 e1
        subst e0; subst e1
        refine ⟨⟨n0, n1⟩, ?_, ?_⟩
        · have := hcell 0 (by omega)
          rw [Addr.add_add] at this
          simpa using this
        · have := hcell 1 (by omega)
          rw [Addr.add_add] at this
          simpa using this
    refine ⟨some a, cap, (List.range len).map (fun i => if h : i < len then Classical.choose (each i h) else z68), by simp, ?_, by simpa using hl⟩
    have hlen2 : ((List.range len).map (fun i => if h : i < len then Classical.choose (each i h) else z68)).length = len := by simp
    rw [hlen2]
    have hmax : maxLen = 9223372036854775807 := by decide
    refine ⟨hlen2, by omega, fun _ => ⟨a, rfl, fun j x hj => ⟨[.int .i64 x.f0, .int .i64 x.f1], rfl, k68_mk W x, fun i u hu => ?_⟩⟩⟩
    have hjl : j < len := by
      have := (List.getElem?_eq_some_iff.1 hj).1
      simpa using this
    rw [List.getElem?_map, List.getElem?_range hjl] at hj
    simp only [Option.map_some, Option.some.injEq, hjl, dif_pos] at hj
    have hs := Classical.choose_spec (each j hjl)
    rw [hj] at hs
    match i, hu with
    | 0, hu => simp only [List.getElem?_cons_zero, Option.some.injEq] at hu; rw [← hu]; exact hs.1
    | 1, hu => simp only [List.getElem?_cons_succ, List.getElem?_cons_zero, Option.some.injEq] at hu; rw [← hu]; exact hs.2
    | i + 2, hu => simp at hu

end Go.Proofs.Ytlnjfbnabjgffaa.XRow
