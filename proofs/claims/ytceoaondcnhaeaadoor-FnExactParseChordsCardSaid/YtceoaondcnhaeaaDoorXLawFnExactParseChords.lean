/- The statement Rows.FnExactParseChordsCardSaid of this seat, proved for every input, without any condition of its own. -/
import Derived.Test.YtceoaondcnhaeaaDoorRows
import Derived.Test.YtceoaondcnhaeaaDoorZFnExactParseChords2
import Derived.Test.YtceoaondcnhaeaaDoorQFnExactParseChords
import Derived.Stop.LaidErr
import Derived.Lib.LaidTab
import Derived.WalkKit
import Derived.ProofKit
import Derived.OpenShut
import Derived.ShutString
import Derived.ChangeOld
import Derived.Below
import Derived.SizedLaws
import Derived.Lib.SmallJoins
import Derived.Test.YtceoaondcnhaeaaDoorCards
import Derived.Test.YtceoaondcnhaeaaDoorTie
import Derived.Lay
import Derived.LaidOnce
import Derived.SevenTiedAt
import Derived.PinnedBridge
import Derived.Handed
namespace Go.Proofs.YtceoaondcnhaeaaDoor.fnExactParseChords
open Go.ChangeShapes Go.WideShapes Go.ChangeAt Go.RowKit
open Go.ChangeMaps (open_string shut_string)
set_option linter.unusedVariables false
set_option linter.unusedSimpArgs false
theorem star_err : "*" ++ "errors.errorString" = "*errors.errorString" := by decide
theorem row_err (u : TypeId) (h : Tryd.prog.typeName? 3 u = some "*errors.errorString") : u = 219 :=
  typeName_ptr_named (nm := "errors.errorString") (by rw [star_err]; kernel_rfl) (by kernel_rfl) (by decide) u (by rw [star_err]; exact h)
theorem gw {W : World} (h : laidMet Tryd.prog Rows.fnExactParseChordsRow.laid W) : X.GW W := by
  obtain ⟨ea0, eat, eav, _, _, _⟩ := laid_sentinel (n := "strconv.ErrSyntax") (g := 1) (((((h.tail).tail).tail).tail).tail) (by kernel_rfl) (by kernel_rfl) Tryd.underlying90 row_err Tryd.underlying219 Tryd.underlying221 rfl rfl Tryd.underlying9 (by kernel_rfl) (by kernel_rfl)
  obtain ⟨eb0, ebt, ebv, _, _, _⟩ := laid_sentinel (n := "strconv.ErrRange") (g := 2) ((((h.tail).tail).tail).tail) (by kernel_rfl) (by kernel_rfl) Tryd.underlying90 row_err Tryd.underlying219 Tryd.underlying221 rfl rfl Tryd.underlying9 (by kernel_rfl) (by kernel_rfl)
  exact ⟨⟨_, ea0, eav⟩, ⟨_, eb0, ebv⟩, Lib.tabIs_of_head (zs := Lib.pow10Tab) (g := 5) (t := 223) (n := 20) (e := 131) (by kernel_rfl) (by kernel_rfl) (by kernel_rfl) (by kernel_rfl) (by kernel_rfl) (by kernel_rfl) ((h.tail).tail)⟩
theorem own : ownKnob Tryd.prog.godebug = none := by kernel_rfl
set_option maxRecDepth 100000 in
theorem lifted (os : Os) (started : os.Started) (H : Type) (enc : TypeId × Value → H) :
    ReturnsInHanded {} Tryd.checked os 9 .any (fun w args => (Rows.fnExactParseChordsSpec.pre enc Tryd.prog Tryd.f9 Rows.fnExactParseChordsRow.domain false w args ∧ laidMetH Tryd.prog Rows.fnExactParseChordsRow.laid w) ∧ sizedMet enc Tryd.prog Tryd.f9 (OpenSpec.ofChange Rows.fnExactParseChordsSpec) false w args) (Rows.fnExactParseChordsSpec.post enc Tryd.prog Tryd.f9 false true false false) := by
  refine returnsInHanded_of_change_and (C := Tryd.checked) (X := (fun w _ => laidMetH Tryd.prog Rows.fnExactParseChordsRow.laid w)) (fun _ _ _ hh h => h.of_heap hh) own started (by kernel_rfl) Tryd.func9
    (ChangeSpec.witness_shaped (enc := enc) (C := Tryd.checked) (os := os) (X := (fun w _ => laidMetH Tryd.prog Rows.fnExactParseChordsRow.laid w)) false (World.laidAll Tryd.prog os Rows.fnExactParseChordsRow.laid) #[.string ByteArray.empty] 8 (World.laidAll_os _ _ _)
      (World.shaped_of_ZipB (by kernel_rfl) (by kernel_rfl)) (by kernel_rfl) (by kernel_rfl) (by kernel_rfl)
      (by rw [MakeChecks.laidMetH_plain _ _ _ (by kernel_rfl)]; exact laidMet_laidAll _ (by kernel_rfl) (by kernel_rfl))) ?_
  intro W base args ds gs before hval0 hW hcnd hsz0 hxa hxb
  have hsz : (DataW.weightsEach Tryd.prog (Tryd.f9.params.toList ++ Rows.fnExactParseChordsSpec.plain.varTypes Tryd.prog) (ds ++ gs)).all (· ≤ reachBytes) = true := hsz0
  have hval : ∀ (j : Nat) t v, Tryd.f9.params[j]? = some t → args[j]? = some v → Value.okWide Tryd.prog W .any base t v := hval0
  have hW' := hW
  obtain ⟨p, q, hA0, hV, rfl, hfz, hnd⟩ := hW
  have hA : DataW.TrodAll enc Tryd.prog W 0 (fun _ => true) true Tryd.f9.params.toList args.toList ds p := hA0
  rw [Tryd.params9] at hA hval hsz
  have hGW : X.GW W := gw (by have h_ : laidMetH Tryd.prog Rows.fnExactParseChordsRow.laid W := (by first | exact hxb | exact hxa); rwa [MakeChecks.laidMetH_plain _ _ _ (by kernel_rfl)] at h_)
  obtain ⟨v0, vs0, d0, ds0, p0, q0, hargs, rfl, rfl, h0, r0⟩ := trodAll_cons hA
  obtain ⟨rfl, rfl, rfl⟩ := trodAll_nil r0
  obtain rfl : args = #[v0] := by cases args; simp_all
  obtain ⟨rfl, rfl⟩ := trodVars_none hV
  obtain ⟨a0, rfl, rfl, rfl, y0⟩ := open_string Tryd.underlying9 (hval 0 9 v0 rfl rfl) h0
  have w0 : a0.size ≤ 140737488351232 := by
    have z := sized_string hsz (j := 0) (t := 9) rfl rfl
    rw [Array.length_toList] at z
    exact z
  clear hA0 hval0 hsz0 hsz
  obtain ⟨kp, hp⟩ := Q.FnExactParseChords a0 w0
  refine (X.laws_FnExactParseChords.calls kp a0 true W hGW hp).mono fun e W' ⟨he, bel0⟩ => ?_
  have bel : Below W.heap.size W W' := bel0
  subst he
  exact ⟨_, rfl, _, _, _, [], _, [], hW', trodAll_mk1 (shut_bool Tryd.underlying4 _), (trodAll_cons_mk (shut_string Tryd.underlying9 y0) trodAll_mk0), rfl, bel.frame _, fun h => by cases h⟩
theorem over : Rows.fnExactParseChordsRow.holds Tryd.pinned (OpenSpec.ofChange Rows.fnExactParseChordsSpec) :=
  OpenClaim.holds_of_wide 9 Tryd.f9 rfl rfl rfl rfl rfl rfl rfl ⟨rfl, rfl, rfl, rfl, rfl⟩ rfl rfl rfl rfl rfl (by kernel_rfl) Tryd.func9 (by kernel_rfl)
    (of_decide_eq_true (by kernel_rfl)) (by unfold Func.isWrapper; first | (rw [if_pos (by decide +kernel)]; kernel_rfl) | (rw [if_neg (by decide +kernel)]; exact ⟨rfl, rfl⟩))
    (fun os started H enc _ => lifted os started H enc)
set_option maxRecDepth 100000 in
theorem proved : Rows.FnExactParseChordsCardSaid :=
  Claim7.holds_tied_plain_at .later [] [.data, .data, .data, .data, .sentinel, .sentinel, .pinned] true (true, "9a13782c125eaf9b55ba599f491b88af5e6809b43a993cb50a7de4393abc84d3") true over (fun _ h => by cases h) (by kernel_rfl) (fun _ h => by cases h) fnExactParseChords_row_tie rfl ⟨rfl, rfl⟩ (by kernel_rfl) rfl
    (fun f fn hf hfn => by
      obtain rfl : f = 9 := Option.some.inj ((show Tryd.prog.funcNamed "loop.example/g01324/laws.FnExactParseChords" = some 9 by kernel_rfl).symm.trans hf) |>.symm
      obtain rfl : fn = Tryd.f9 := (Option.some.inj (Tryd.func9.symm.trans hfn)).symm
      exact ⟨by kernel_rfl, fun j t ht => by
        rw [Tryd.params9] at ht
        have hm : t ∈ [9] := by simpa using Array.mem_of_getElem? ht
        have hall : ([9].all fun u => !Tryd.prog.wantsStandIn u) = true := by kernel_rfl
        exact (show Tryd.prog.wantsStandIn t = false by simpa using List.all_eq_true.1 hall t hm)⟩)
    (by kernel_rfl)
#print axioms proved
end Go.Proofs.YtceoaondcnhaeaaDoor.fnExactParseChords
namespace Go.Proofs.YtceoaondcnhaeaaDoor
/-- The row, under a short name, for the claim. -/
theorem fnExactParseChords_holds : Rows.FnExactParseChordsCardSaid := fnExactParseChords.proved
end Go.Proofs.YtceoaondcnhaeaaDoor
