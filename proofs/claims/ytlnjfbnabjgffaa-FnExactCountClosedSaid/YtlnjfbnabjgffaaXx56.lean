-- Written by a program of this work (wip/tools/xadd.py). Not trusted: it is checked when it is built.
import Derived.Test.YtlnjfbnabjgffaaXx4
import Derived.Test.YtlnjfbnabjgffaaXx5
import Derived.DataShut
import Derived.DeepKeys4
import Derived.Lib.SmallJoins
import Derived.Maps.OwnOps
import Derived.Maps.RangeWalk
import Derived.Maps.Views
import Derived.WideKeyEntry
namespace Go.Proofs.Ytlnjfbnabjgffaa.X
open Go.RowKit Go.Proofs.YtlnjfbnabjgffaaW.PrintWords Go.Proofs.YtlnjfbnabjgffaaW.PrintLast Go.Proofs.YtlnjfbnabjgffaaW.PrintMore
attribute [local go_sem] max2_int min2_int max_two min_two max_three min_three max_four min_four   -- for this text's walks alone
set_option linter.unusedVariables false
set_option linter.unusedSimpArgs false

/-! ### impl_CountClosed: function 9 (given by hand) -/
def mkW (t : Int × Int × Int) : Value := .agg #[.int .i64 t.1, .int .i64 t.2.1, .int .i64 t.2.2]
theorem cc_laid : laidOutB Try.prog = true := by kernel_rfl
theorem cc_row : (57 : TypeId) < Try.prog.types.size := of_decide_eq_true (by kernel_rfl)
theorem cc_law : WideMaps.KeyLaw Try.prog 57 := (deep_law_laid cc_laid (m := 2) (by omega) cc_row (by kernel_rfl) (by rw [Try.underlying57]))
theorem cc_keyed : Maps.Keyed Try.prog 57 := Maps.Keyed.of_law cc_law
theorem cc_cells : Try.prog.cellsOf 57 = 3 := by kernel_rfl
theorem cc_cells3 : Try.prog.cellsOf 3 = 1 := by kernel_rfl
theorem cc_kt : Try.prog.keyType 57 = true := by kernel_rfl
theorem cc_size : ∃ n, Try.prog.types.size = n + 2 := ⟨Try.prog.types.size - 2, by have : 2 ≤ Try.prog.types.size := of_decide_eq_true (by kernel_rfl); omega⟩
theorem cc_formed (t : Int × Int × Int) : (mkW t).formed Try.prog 57 = true := by simp [mkW, Value.formed, Try.underlying57, cc_cells]
theorem cc_one (d : Nat) (c : Value) : Try.prog.keyLits (d + 1) 3 [c] = match c with | .int .i64 n => if (Lit.int .i64 n).wf = true then some [.int .i64 n] else none | _ => none := by
  unfold Program.keyLits
  rw [Try.underlying3]
  cases c with
  | int q n => cases q <;> simp
  | _ => rfl
theorem cc_lits (d : Nat) (a b c : Value) : Try.prog.keyLits (d + 2) 57 [a, b, c] = (Try.prog.keyLits (d + 1) 3 [a]).bind fun x => (Try.prog.keyLits (d + 1) 3 [b]).bind fun y => (Try.prog.keyLits (d + 1) 3 [c]).bind fun z => some (x ++ (y ++ z)) := by
  conv => lhs; unfold Program.keyLits
  simp only [Try.underlying57]
  simp only [List.length_cons, List.length_nil, cc_cells, cc_cells3]
  cases ha : Try.prog.keyLits (d + 1) 3 [a] <;> cases hb : Try.prog.keyLits (d + 1) 3 [b] <;> cases hc : Try.prog.keyLits (d + 1) 3 [c] <;> simp [ha, hb, hc, cc_cells3]
theorem cc_keyOf (v : Value) : keyOf Try.prog 57 v = if v.formed Try.prog 57 = true then (Try.prog.keyLits (Try.prog.types.size + 1) 57 v.cells.toList).map fun ls => .string (keyBytes ls) else none := by
  unfold keyOf
  rw [Try.underlying57, cc_kt, Bool.true_and]
theorem cc_mk (t : Int × Int × Int) (h0 : (Lit.int .i64 t.1).wf = true) (h1 : (Lit.int .i64 t.2.1).wf = true) (h2 : (Lit.int .i64 t.2.2).wf = true) : ∃ kl, keyOf Try.prog 57 (mkW t) = some kl := by
  obtain ⟨n, hn⟩ := cc_size
  rw [cc_keyOf, if_pos (cc_formed t), show (mkW t).cells.toList = [.int .i64 t.1, .int .i64 t.2.1, .int .i64 t.2.2] by simp [mkW, Value.cells], hn, show n + 2 + 1 = (n + 1) + 2 from rfl, cc_lits, cc_one, cc_one, cc_one]
  simp only [h0, h1, h2, if_true]
  exact ⟨_, rfl⟩
theorem cc_one_inv (d : Nat) (c : Value) (x : List Lit) (h : Try.prog.keyLits (d + 1) 3 [c] = some x) : ∃ n, c = .int .i64 n := by
  rw [cc_one] at h
  cases c with
  | int q n => cases q <;> first | exact ⟨n, rfl⟩ | cases h
  | _ => cases h
theorem len3 {α : Type} {l : List α} (h : l.length = 3) : ∃ a b c, l = [a, b, c] := by
  match l, h with
  | [a, b, c], _ => exact ⟨a, b, c, rfl⟩
theorem cc_inv (v : Value) (kl : Lit) (h : keyOf Try.prog 57 v = some kl) : ∃ t, v = mkW t := by
  obtain ⟨n, hn⟩ := cc_size
  rw [cc_keyOf] at h
  by_cases hf : v.formed Try.prog 57 = true
  · rw [if_pos hf] at h
    have e1 : ∀ cs : Array Value, (Value.agg cs).formed Try.prog 57 = (cs.size == 3) := fun cs => by
      unfold Value.formed
      rw [Try.underlying57, cc_cells]
    have e2 : (∃ cs, v = .agg cs) ∨ v.formed Try.prog 57 = false := by
      cases v with
      | agg cs => exact .inl ⟨cs, rfl⟩
      | _ => right; simp [Value.formed, Try.underlying57]
    rcases e2 with ⟨cs, rfl⟩ | e2
    · rw [e1, beq_iff_eq] at hf
      obtain ⟨l, rfl⟩ : ∃ l : List Value, cs = l.toArray := ⟨cs.toList, by simp⟩
      obtain ⟨a, b, c, rfl⟩ : ∃ a b c, l = [a, b, c] := len3 (by simpa using hf)
      rw [show (Value.agg #[a, b, c]).cells.toList = [a, b, c] by simp [Value.cells], hn, show n + 2 + 1 = (n + 1) + 2 from rfl, cc_lits] at h
      obtain ⟨z, hz, _⟩ := Option.map_eq_some_iff.1 h
      obtain ⟨x0, h0, hz⟩ := Option.bind_eq_some_iff.1 hz
      obtain ⟨x1, h1, hz⟩ := Option.bind_eq_some_iff.1 hz
      obtain ⟨x2, h2, hz⟩ := Option.bind_eq_some_iff.1 hz
      obtain ⟨n0, rfl⟩ := cc_one_inv _ _ _ h0
      obtain ⟨n1, rfl⟩ := cc_one_inv _ _ _ h1
      obtain ⟨n2, rfl⟩ := cc_one_inv _ _ _ h2
      exact ⟨(n0, n1, n2), rfl⟩
    · rw [e2] at hf; cases hf
  · rw [if_neg hf] at h; cases h
/-! Sums over a map's entries. -/
abbrev EntL := List (Lit × DataW Unit)
def wtE (F : Lit → Int) (p : Lit × DataW Unit) : Int := match p.2 with
  | .lit (.int _ c) => c * F p.1
  | _ => 0
def sumE (F : Lit → Int) : EntL → Int
  | [] => 0
  | p :: l => wtE F p + sumE F l
theorem sumE_insert (F : Lit → Int) (x : Lit × DataW Unit) : ∀ l : EntL, sumE F (DataW.insert x l) = wtE F x + sumE F l
  | [] => rfl
  | y :: r => by
    unfold DataW.insert
    split
    · rfl
    · show wtE F y + sumE F (DataW.insert x r) = wtE F x + (wtE F y + sumE F r)
      rw [sumE_insert F x r]
      omega
theorem sumE_same (F G : Lit → Int) : ∀ l : EntL, (∀ p ∈ l, wtE F p = wtE G p) → sumE F l = sumE G l
  | [], _ => rfl
  | y :: r, h => by
    show wtE F y + sumE F r = wtE G y + sumE G r
    rw [h y (List.mem_cons_self ..), sumE_same F G r (fun p hp => h p (List.mem_cons_of_mem _ hp))]
/-- What stands at a key, taken out. -/
theorem sumE_strike (F : Lit → Int) (kl : Lit) (hk : WideAt.IsKeyLit kl) : ∀ l : EntL, l.Pairwise (fun p q => p.1 ≠ q.1) →
    (∃ v, (kl, v) ∈ l ∧ sumE F l = wtE F (kl, v) + sumE F (l.filter fun p => !p.1.sameKey kl)) ∨ ((∀ p ∈ l, p.1 ≠ kl) ∧ l.filter (fun p => !p.1.sameKey kl) = l)
  | [], _ => .inr ⟨fun p hp => (List.not_mem_nil hp).elim, rfl⟩
  | y :: r, h => by
    obtain ⟨h1, h2⟩ := List.pairwise_cons.1 h
    by_cases e : y.1 = kl
    · left
      refine ⟨y.2, by rw [← e]; exact List.mem_cons_self .., ?_⟩
      have hs0 : (!y.1.sameKey kl) = false := by
        rw [e, WideAt.sameKey_self hk]
        rfl
      have hr : r.filter (fun p => !p.1.sameKey kl) = r := by
        refine List.filter_eq_self.2 fun p hp => ?_
        have := Maps.sameKey_ne (a := p.1) (b := kl) (fun e2 => h1 p hp (by rw [e, e2]))
        rw [this]
        rfl
      rw [List.filter_cons_of_neg (by intro h0; rw [hs0] at h0; cases h0), hr]
      show wtE F y + sumE F r = wtE F (kl, y.2) + sumE F r
      rw [← e]
    · have hs0 : (!y.1.sameKey kl) = true := by
        rw [Maps.sameKey_ne e]
        rfl
      rw [List.filter_cons_of_pos (p := fun p : Lit × DataW Unit => !p.1.sameKey kl) hs0]
      rcases sumE_strike F kl hk r h2 with ⟨v, hv, hs2⟩ | ⟨hn, hs2⟩
      · left
        refine ⟨v, List.mem_cons_of_mem _ hv, ?_⟩
        show wtE F y + sumE F r = wtE F (kl, v) + (wtE F y + sumE F _)
        rw [hs2]
        omega
      · right
        refine ⟨fun p hp => ?_, by rw [hs2]⟩
        rcases List.mem_cons.1 hp with rfl | hp
        · exact e
        · exact hn p hp
def entsD (D : DataW Unit) : EntL := match D with
  | .map es => es
  | _ => []
def sumD (F : Lit → Int) (D : DataW Unit) : Int := sumE F (entsD D)
def leftD (F : Lit → Int) (D : DataW Unit) (left : Lit → Bool) : Int := sumE F ((entsD D).filter fun p => left p.1)
def OkD (G : Lit → Prop) (D : DataW Unit) : Prop := ∀ p ∈ entsD D, G p.1
def NiceD (D : DataW Unit) : Prop := ∃ es, D = .map es ∧ es.Pairwise (fun p q => p.1 ≠ q.1) ∧ ∀ p ∈ es, WideAt.IsKeyLit p.1
theorem at_cons (y : Lit × DataW Unit) (r : EntL) (kl : Lit) (z : DataW Unit) : (DataW.map (y :: r)).atKey kl z = if y.1.sameKey kl then y.2 else (DataW.map r).atKey kl z := by
  unfold DataW.atKey
  simp only [List.find?_cons]
  cases y.1.sameKey kl <;> rfl
theorem at_none (kl : Lit) (z : DataW Unit) : ∀ es : EntL, (∀ p ∈ es, p.1 ≠ kl) → (DataW.map es).atKey kl z = z
  | [], _ => rfl
  | y :: r, h => by
    rw [at_cons, Maps.sameKey_ne (h y (List.mem_cons_self ..)), if_neg (by decide)]
    exact at_none kl z r (fun p hp => h p (List.mem_cons_of_mem _ hp))
theorem at_mem (kl : Lit) (hk : WideAt.IsKeyLit kl) (z v : DataW Unit) : ∀ es : EntL, es.Pairwise (fun p q => p.1 ≠ q.1) → (kl, v) ∈ es → (DataW.map es).atKey kl z = v
  | [], _, h => (List.not_mem_nil h).elim
  | y :: r, h, hm => by
    obtain ⟨h1, h2⟩ := List.pairwise_cons.1 h
    rw [at_cons]
    rcases List.mem_cons.1 hm with e | hm
    · rw [← e, WideAt.sameKey_self hk]; rfl
    · rw [Maps.sameKey_ne (h1 _ hm), if_neg (by decide)]
      exact at_mem kl hk z v r h2 hm
theorem insert_mem (x p : Lit × DataW Unit) : ∀ l : EntL, p ∈ DataW.insert x l → p = x ∨ p ∈ l
  | [], h => .inl (by simpa [DataW.insert] using h)
  | y :: r, h => by
    unfold DataW.insert at h
    split at h
    · rcases List.mem_cons.1 h with h | h
      · exact .inl h
      · exact .inr h
    · rcases List.mem_cons.1 h with h | h
      · exact .inr (by rw [h]; exact List.mem_cons_self ..)
      · rcases insert_mem x p r h with h | h
        · exact .inl h
        · exact .inr (List.mem_cons_of_mem _ h)
theorem ok_put {G : Lit → Prop} {D : DataW Unit} (h : OkD G D) (hD : NiceD D) {kl : Lit} (hk : G kl) (d : DataW Unit) : OkD G (D.put kl d) := by
  obtain ⟨es, rfl, _, _⟩ := hD
  intro p hp
  rcases insert_mem _ p _ hp with rfl | hp
  · exact hk
  · exact h p (List.mem_filter.1 hp).1
theorem sum_put (F : Lit → Int) {D : DataW Unit} (hD : NiceD D) {kl : Lit} (hk : WideAt.IsKeyLit kl) {c c' : Int} (hat : D.atKey kl (.lit (.int .i64 0)) = .lit (.int .i64 c)) : sumD F (D.put kl (.lit (.int .i64 c'))) = sumD F D + (c' - c) * F kl := by
  obtain ⟨es, rfl, hp, hks⟩ := hD
  have e1 : sumD F ((DataW.map es).put kl (.lit (.int .i64 c'))) = c' * F kl + sumE F (es.filter fun p => !p.1.sameKey kl) := sumE_insert F _ _
  rw [e1]
  show _ = sumE F es + _
  rw [Int.sub_mul]
  rcases sumE_strike F kl hk es hp with ⟨v, hv, hs⟩ | ⟨hn, hs⟩
  · rw [at_mem kl hk _ v es hp hv] at hat
    subst hat
    rw [hs]
    show _ = c * F kl + _ + _
    omega
  · rw [at_none kl _ es hn] at hat
    have : c = 0 := by injection hat with h; injection h with _ h; exact h.symm
    rw [hs, this]
    omega
theorem sum_left (F : Lit → Int) {D : DataW Unit} (hD : NiceD D) {kl : Lit} (hk : WideAt.IsKeyLit kl) {c : Int} {left : Lit → Bool} (hl : left kl = true) (hat : ∀ z, D.atKey kl z = .lit (.int .i64 c)) :
    leftD F D left = c * F kl + leftD F D (fun z => left z && !z.sameKey kl) ∧ ∀ G, OkD G D → G kl := by
  obtain ⟨es, rfl, hp, hks⟩ := hD
  have hmem : ∃ v, (kl, v) ∈ es := by
    rcases sumE_strike F kl hk es hp with ⟨v, hv, _⟩ | ⟨hn, _⟩
    · exact ⟨v, hv⟩
    · exfalso
      have := hat .nil
      rw [at_none kl _ es hn] at this
      cases this
  obtain ⟨v, hv⟩ := hmem
  have ev : v = .lit (.int .i64 c) := by rw [← hat .nil, at_mem kl hk _ v es hp hv]
  subst ev
  refine ⟨?_, fun G hG => hG _ hv⟩
  have hv2 : (kl, (.lit (.int .i64 c) : DataW Unit)) ∈ es.filter (fun p => left p.1) := List.mem_filter.2 ⟨hv, hl⟩
  have hp2 : (es.filter (fun p => left p.1)).Pairwise (fun p q => p.1 ≠ q.1) := hp.filter _
  have ef : es.filter (fun p => left p.1 && !p.1.sameKey kl) = (es.filter (fun p => left p.1)).filter (fun p => !p.1.sameKey kl) := by
    rw [List.filter_filter]
    refine List.filter_congr fun p _ => ?_
    rw [Bool.and_comm]
  show sumE F (es.filter (fun p => left p.1)) = _ + sumE F (es.filter (fun p => left p.1 && !p.1.sameKey kl))
  rw [ef]
  rcases sumE_strike F kl hk _ hp2 with ⟨v, hv3, hs⟩ | ⟨hn, _⟩
  · have e2 : v = .lit (.int .i64 c) := by rw [← at_mem kl hk .nil v _ hp2 hv3, at_mem kl hk .nil _ _ hp2 hv2]
    subst e2
    exact hs
  · exact absurd rfl (hn _ hv2)
theorem left_none (F : Lit → Int) (D : DataW Unit) (left : Lit → Bool) (h : ∀ kl, left kl = false) : leftD F D left = 0 := by
  unfold leftD
  have : (entsD D).filter (fun p => left p.1) = [] := List.filter_eq_nil_iff.2 fun p _ => by rw [h]; decide
  rw [this]
  rfl
theorem left_all (F : Lit → Int) {D : DataW Unit} (hD : NiceD D) : leftD F D (Maps.has D) = sumD F D := by
  obtain ⟨es, rfl, hp, hks⟩ := hD
  have : es.filter (fun p => Maps.has (.map es) p.1) = es := List.filter_eq_self.2 fun p hp => by
    rw [Maps.has_eq]
    exact List.any_eq_true.2 ⟨p, hp, WideAt.sameKey_self (hks p hp)⟩
  show sumE F (es.filter (fun p => Maps.has (.map es) p.1)) = sumE F es
  rw [this]
open Go.Maps in
theorem own_heap {H : Type} {P : Program} {k : TypeId} {R : Value → Option (DataW H × List MemPlace)} {w w' : World} {b n : Nat} {D : DataW H} (h : w.ownsMap P k R b n D) (e : w'.heap[b]? = w.heap[b]?) : w'.ownsMap P k R b n D := by
  obtain ⟨es, clock, hb, F⟩ := h
  exact ⟨es, clock, e.trans hb, F⟩
open Go.Maps in
/-- 'm[k] op= x' AT A MAP OF THE CALL'S OWN: its three operations. -/
theorem own_entry {P : Program} {k t e : TypeId} {w : World} {b n : Nat} {D : DataW Unit} (K0 : WideMaps.KeyLaw P k) (ht : P.underlying t = some (.map k e)) (he : P.underlying e = some (.int .i64)) (hz : ∀ u : World, (zeroValue e).run P u = .ok (.int .i64 0) u)
    (h : w.ownsMap P k (plainElem P e) b n D) (hn : n < maxLen) {key : Value} {kl : Lit} (hkey : keyOf P k key = some kl) :
    ∃ (c : Int) (st : Nat) (w1 : World), D.atKey kl (.lit (.int .i64 0)) = .lit (.int .i64 c) ∧ (Lit.int .i64 c).wf = true ∧ (Instr.lookup t (.map (some b)) key false).run P w = .ok (.int .i64 c) w ∧
      (Instr.mapEntry t (.map (some b)) key).run P w = .ok (.tuple #[.int .i64 c, goInt st]) w1 ∧ (Instr.lookup t (.map (some b)) key false).run P w1 = .ok (.int .i64 c) w1 ∧ w.grownBy w1 (some b) ∧ w1.heap.size = w.heap.size ∧
      ∀ c' : Int, (Lit.int .i64 c').wf = true → ∃ w2, (Instr.entryStore t (.map (some b)) (goInt st) (.int .i64 c')).run P w1 = .ok () w2 ∧ w2.ownsMap P k (plainElem P e) b (n + 1) (D.put kl (.lit (.int .i64 c'))) ∧ w.grownBy w2 (some b) ∧ w2.heap.size = w.heap.size := by
  have K : Maps.Keyed P k := Maps.Keyed.of_law K0
  obtain ⟨c, hrun, hat, hwc⟩ := h.lookup_int K ht he (hz w) hkey
  have h' := h
  obtain ⟨es, clock, hb, F, hsz, hD⟩ := h'
  obtain ⟨v0, st, es1, clock1, hE, hor, hS⟩ := WideElems.entry_then_store K0 ht hz hb F hkey
  have hgr : ∀ o, w.grownBy (ChangeMaps.setBlock w b o) (some b) := fun o => ⟨rfl, rfl, rfl, by simp [ChangeMaps.setBlock], fun i _ hi => ChangeMaps.heap_setBlock_other hb _ (fun e => hi (by rw [e]))⟩
  have hss : ∀ o, (ChangeMaps.setBlock w b o).heap.size = w.heap.size := fun o => by simp [ChangeMaps.setBlock]
  have hfin : ∀ c' : Int, (Lit.int .i64 c').wf = true → ∃ w2, (Instr.entryStore t (.map (some b)) (goInt st) (.int .i64 c')).run P (ChangeMaps.setBlock w b (.map es1 clock1)) = .ok () w2 ∧ w2.ownsMap P k (plainElem P e) b (n + 1) (D.put kl (.lit (.int .i64 c'))) ∧ w.grownBy w2 (some b) ∧ w2.heap.size = w.heap.size := by
    intro c' hw'
    obtain ⟨es', clock', hs1, hs2⟩ := hS _ (.int .i64 c') (ChangeMaps.heap_setBlock_same hb _)
    obtain ⟨w', hu, ho, _⟩ := h.update K ht hn hkey (plainElem_int he hw')
    have e0 := hs2.symm.trans hu
    injection e0 with _ e0
    subst e0
    have e1 : ChangeMaps.setBlock (ChangeMaps.setBlock w b (.map es1 clock1)) b (.map es' clock') = ChangeMaps.setBlock w b (.map es' clock') := by simp [ChangeMaps.setBlock]
    rw [e1] at hs1
    exact ⟨_, hs1, ho, hgr _, hss _⟩
  have hw0 : (Lit.int .i64 0).wf = true := by decide
  rcases K.find w hkey es.toList F.keys with ⟨h1, h2⟩ | ⟨j, e0, h1, h2, h3⟩
  · have hE0 : (Instr.mapEntry t (.map (some b)) key).run P w = .ok (.tuple #[.int .i64 0, goInt clock]) (ChangeMaps.setBlock w b (.map (es.push ⟨key, .int .i64 0, clock⟩) (clock + 1))) := by
      simp [Instr.mapEntry, run_underlying ht, MapKept.run_getObj_map hb, K.check w false hkey, h1, hz, MapKept.run_setObj_map _ hb, Result.andThen, ChangeMaps.setBlock]
    have hU0 : (Instr.mapUpdate t (.map (some b)) key (.int .i64 0)).run P w = .ok () (ChangeMaps.setBlock w b (.map (es.push ⟨key, .int .i64 0, clock⟩) (clock + 1))) := by
      simp [Instr.mapUpdate, run_underlying ht, MapKept.run_getObj_map hb, K.check w false hkey, h1, MapKept.run_setObj_map _ hb, Result.andThen, ChangeMaps.setBlock]
    have hL0 : (Instr.lookup t (.map (some b)) key false).run P w = .ok (.int .i64 0) w := by
      simp [Instr.lookup, run_underlying ht, MapKept.run_getObj_map hb, K.check w _ hkey, h1, hz, Result.andThen]
    have ec := hrun.symm.trans hL0
    injection ec with ec _
    injection ec with _ ec
    subst ec
    have ee := hE0.symm.trans hE
    injection ee with ee ew
    injection ee with ee
    have ev : v0 = .int .i64 0 := by
      have := congrArg (fun a : Array Value => a[0]?) ee
      simpa using this.symm
    subst ev
    obtain ⟨w', hu, ho, _⟩ := h.update K ht hn hkey (plainElem_int he hw0)
    have e0 := hU0.symm.trans hu
    injection e0 with _ e0
    rw [← e0, ew] at ho
    obtain ⟨c2, hl2, hat2, _⟩ := ho.lookup_int K ht he (hz _) hkey
    have hD' : IsMap D := ⟨_, hD⟩
    rw [Maps.atKey_put_same hD' (K.key hkey)] at hat2
    injection hat2 with hat2
    injection hat2 with _ hat2
    subst hat2
    exact ⟨0, st, _, hat, hwc, hrun, hE, hl2, hgr _, hss _, hfin⟩
  · have hj : es[j]? = some e0 := by simpa using h2
    have hsame : es.modify j (fun e => { e with key := key }) = es := by
      apply Array.ext_getElem?
      intro i
      rw [Array.getElem?_modify]
      by_cases ei : j = i
      · subst ei
        rw [if_pos rfl, hj, ← h3]
        rfl
      · rw [if_neg ei]
    have hE0 : (Instr.mapEntry t (.map (some b)) key).run P w = .ok (.tuple #[e0.val, goInt e0.born]) (ChangeMaps.setBlock w b (.map es clock)) := by
      simp [Instr.mapEntry, run_underlying ht, MapKept.run_getObj_map hb, K.check w false hkey, h1, hj, h3, K.stays w hkey, hsame, MapKept.run_setObj_map _ hb, Result.andThen, ChangeMaps.setBlock]
    have hL0 : (Instr.lookup t (.map (some b)) key false).run P w = .ok e0.val w := by
      simp [Instr.lookup, run_underlying ht, MapKept.run_getObj_map hb, K.check w _ hkey, h1, Result.andThen]
    have ec := hrun.symm.trans hL0
    injection ec with ec _
    have ee := hE0.symm.trans hE
    injection ee with ee ew
    injection ee with ee
    have ev : v0 = .int .i64 c := by
      have := congrArg (fun a : Array Value => a[0]?) ee
      rw [ec]
      simpa using this.symm
    subst ev
    have ho : (ChangeMaps.setBlock w b (.map es1 clock1)).ownsMap P k (plainElem P e) b n D := own_heap h (by rw [← ew, ChangeMaps.heap_setBlock_same hb, hb])
    obtain ⟨c2, hl2, hat2, _⟩ := ho.lookup_int K ht he (hz _) hkey
    have e2 := hat2.symm.trans hat
    injection e2 with e2
    injection e2 with _ e2
    subst e2
    exact ⟨c2, st, _, hat, hwc, hrun, hE, hl2, hgr _, hss _, hfin⟩
theorem cc_zero (u : World) : (zeroValue 3).run Try.prog u = .ok (.int .i64 0) u := by kernel_rfl
def dW (g : Int) (t : Int × Int × Int) (s : Int) : Int × Int × Int := (impl_walker_do.f t.1 t.2.1 t.2.2 g s).getD t
/-- The walks of so many signs that lead back, counted. -/
def pcN (g : Int) : Nat → Int × Int × Int → Int
  | 0, t => if t = (0, 0, 0) then 1 else 0
  | l + 1, t => wrap64 (wrap64 (pcN g l (dW g t 70) + pcN g l (dW g t 76)) + pcN g l (dW g t 82))
open Classical in
noncomputable def wOf (kl : Lit) : Int × Int × Int := Classical.epsilon fun t => keyOf Try.prog 57 (mkW t) = some kl
theorem mkW_inj {t u : Int × Int × Int} (h : mkW t = mkW u) : t = u := by
  obtain ⟨a, b, c⟩ := t
  obtain ⟨x, y, z⟩ := u
  simpa [mkW] using h
theorem wOf_eq {t : Int × Int × Int} {kl : Lit} (h : keyOf Try.prog 57 (mkW t) = some kl) : wOf kl = t :=
  mkW_inj (cc_keyed.inj (Classical.epsilon_spec (p := fun t => keyOf Try.prog 57 (mkW t) = some kl) ⟨t, h⟩) h)
noncomputable def FN (g : Int) (l : Nat) (kl : Lit) : Int := pcN g l (wOf kl)
def GW3 (g : Int) (t : Int × Int × Int) : Prop := (Lit.int .i64 t.1).wf = true ∧ (Lit.int .i64 t.2.1).wf = true ∧ 0 ≤ t.2.2 ∧ t.2.2 < g
def GK (g : Int) (kl : Lit) : Prop := ∃ t, keyOf Try.prog 57 (mkW t) = some kl ∧ GW3 g t
theorem wf_of (n : Int) (h0 : 0 ≤ n) (h1 : n < 100) : (Lit.int .i64 n).wf = true := by
  exact WalkArith.wf_i64 (by omega)
theorem do_step (g : Int) (hg : g = 4 ∨ g = 6) (t : Int × Int × Int) (h : GW3 g t) (s : Int) (hs : s = 70 ∨ s = 76 ∨ s = 82) : impl_walker_do.f t.1 t.2.1 t.2.2 g s = some (dW g t s) ∧ GW3 g (dW g t s) := by
  obtain ⟨h1, h2, h3, h4⟩ := h
  have hl : ((wayL g).length : Int) = g := by rcases hg with rfl | rfl <;> rfl
  have hm1 := Int.tmod_lt_of_pos (wrap64 (t.2.2 + 1)) (show 0 < g by omega)
  have e1 : wrap64 (t.2.2 + 1) = t.2.2 + 1 := by unfold wrap64; omega
  have e2 : wrap64 (wrap64 (t.2.2 + g) - 1) = t.2.2 + g - 1 := by unfold wrap64; omega
  have hm2 := Int.tmod_lt_of_pos (wrap64 (wrap64 (t.2.2 + g) - 1)) (show 0 < g by omega)
  have hm3 : 0 ≤ Int.tmod (wrap64 (t.2.2 + 1)) g := by rw [e1]; exact Int.tmod_nonneg _ (by omega)
  have hm4 : 0 ≤ Int.tmod (wrap64 (wrap64 (t.2.2 + g) - 1)) g := by rw [e2]; exact Int.tmod_nonneg _ (by omega)
  have key : ∀ r, impl_walker_do.f t.1 t.2.1 t.2.2 g s = some r → GW3 g r → impl_walker_do.f t.1 t.2.1 t.2.2 g s = some (dW g t s) ∧ GW3 g (dW g t s) := by
    intro r hr hG
    have : dW g t s = r := by unfold dW; rw [hr]; rfl
    rw [this]
    exact ⟨hr, hG⟩
  rcases hs with rfl | rfl | rfl
  · exact key (wrap64 (t.1 + rd ((wayL g).getD t.2.2.toNat ([] : List Int)) 0), wrap64 (t.2.1 + rd ((wayL g).getD t.2.2.toNat ([] : List Int)) 1), t.2.2) (by unfold impl_walker_do.f; rw [if_pos rfl, if_pos ⟨h3, by omega⟩]) ⟨wrap64_wf _, wrap64_wf _, h3, h4⟩
  · exact key (t.1, t.2.1, Int.tmod (wrap64 (t.2.2 + 1)) g) (by unfold impl_walker_do.f; rw [if_neg (by decide), if_pos rfl, if_neg (by omega)]) ⟨h1, h2, hm3, hm1⟩
  · exact key (t.1, t.2.1, Int.tmod (wrap64 (wrap64 (t.2.2 + g) - 1)) g) (by unfold impl_walker_do.f; rw [if_neg (by decide), if_neg (by decide), if_pos rfl, if_neg (by omega)]) ⟨h1, h2, hm4, hm2⟩
theorem gk_mk (g : Int) (hg : g = 4 ∨ g = 6) (t : Int × Int × Int) (h : GW3 g t) : ∃ kl, keyOf Try.prog 57 (mkW t) = some kl ∧ GK g kl ∧ wOf kl = t := by
  obtain ⟨kl, hk⟩ := cc_mk t h.1 h.2.1 (wf_of _ h.2.2.1 (by have := h.2.2.2; omega))
  exact ⟨kl, hk, ⟨t, hk, h⟩, wOf_eq hk⟩
def Cg (a b : Int) : Prop := ∃ z : Int, a = b + z * 18446744073709551616
theorem cg_wrap (x : Int) : ∃ z : Int, wrap64 x = x + z * 18446744073709551616 := ⟨(wrap64 x - x) / 18446744073709551616, by unfold wrap64; omega⟩
theorem cg_step (S L c a b d T : Int) (h : Cg (S + (c * wrap64 (wrap64 (a + b) + d) + L)) T) : Cg (S + (c * a + c * b + c * d) + L) T := by
  obtain ⟨z, hz⟩ := h
  obtain ⟨z1, h1⟩ := cg_wrap (a + b)
  obtain ⟨z2, h2⟩ := cg_wrap (wrap64 (a + b) + d)
  refine ⟨z - c * (z1 + z2), ?_⟩
  rw [h2, h1] at hz
  have e : c * (a + b + z1 * 18446744073709551616 + d + z2 * 18446744073709551616) = c * a + c * b + c * d + c * (z1 + z2) * 18446744073709551616 := by
    simp only [Int.mul_add, Int.add_mul, ← Int.mul_assoc]
    omega
  rw [e] at hz
  rw [Int.sub_mul]
  omega
theorem cg_put (S S' R L c0 c a T : Int) (hS : S' = S + (wrap64 (c0 + c) - c0) * a) (h : Cg (S + (c * a + R) + L) T) : Cg (S' + R + L) T := by
  obtain ⟨z, hz⟩ := h
  obtain ⟨z1, h1⟩ := cg_wrap (c0 + c)
  refine ⟨z + z1 * a, ?_⟩
  have e : (c0 + c + z1 * 18446744073709551616 - c0) * a = c * a + z1 * a * 18446744073709551616 := by
    rw [show c0 + c + z1 * 18446744073709551616 - c0 = c + z1 * 18446744073709551616 by omega, Int.add_mul, Int.mul_right_comm z1]
  rw [h1, e] at hS
  rw [hS, Int.add_mul]
  omega
theorem sum_last (g : Int) {D : DataW Unit} (hD : NiceD D) (hO : OkD (GK g) D) {kz : Lit} (hz : keyOf Try.prog 57 (mkW (0, 0, 0)) = some kz) {c : Int} (hat : D.atKey kz (.lit (.int .i64 0)) = .lit (.int .i64 c)) : sumD (FN g 0) D = c := by
  have hk := cc_keyed.key hz
  obtain ⟨es, rfl, hp, hks⟩ := hD
  have hF : FN g 0 kz = 1 := by unfold FN; rw [wOf_eq hz]; rfl
  have h0 : ∀ l : EntL, (∀ p ∈ l, GK g p.1) → (∀ p ∈ l, p.1 ≠ kz) → sumE (FN g 0) l = 0 := by
    intro l h1 h2
    have : sumE (FN g 0) l = sumE (fun _ => 0) l := sumE_same _ _ l fun p hp => by
      obtain ⟨t, ht, _⟩ := h1 p hp
      have e : FN g 0 p.1 = 0 := by
        unfold FN
        rw [wOf_eq ht]
        show (if t = (0, 0, 0) then (1 : Int) else 0) = 0
        rw [if_neg]
        rintro rfl
        rw [hz] at ht
        exact h2 p hp (Option.some.inj ht).symm
      unfold wtE
      rw [e]
    rw [this]
    clear this h1 h2
    induction l with
    | nil => rfl
    | cons y r ih =>
      show wtE _ y + sumE _ r = 0
      rw [ih]
      unfold wtE
      split
      · show _ * (0 : Int) + 0 = 0
        omega
      · rfl
  show sumE (FN g 0) es = c
  rcases sumE_strike (FN g 0) kz hk es hp with ⟨v, hv, hs⟩ | ⟨hn, hs⟩
  · rw [at_mem kz hk _ v es hp hv] at hat
    subst hat
    rw [hs, h0 (es.filter fun p => !p.1.sameKey kz) (fun p hp => hO p (List.mem_filter.1 hp).1) (fun p hp e => by
      have := (List.mem_filter.1 hp).2
      rw [e, WideAt.sameKey_self hk] at this
      cases this)]
    show c * FN g 0 kz + 0 = c
    rw [hF]
    omega
  · rw [at_none kz _ es hn] at hat
    have : c = 0 := by
      have h := hat
      simp only [DataW.lit.injEq, Lit.int.injEq, true_and] at h
      exact h.symm
    rw [this]
    exact h0 es (fun p hp => hO p hp) hn
theorem pcN_wf (g : Int) (l : Nat) (t : Int × Int × Int) : (Lit.int .i64 (pcN g l t)).wf = true := by
  cases l with
  | zero =>
    show (Lit.int .i64 (if t = (0, 0, 0) then (1 : Int) else 0)).wf = true
    by_cases h : t = (0, 0, 0)
    · rw [if_pos h]; exact WalkArith.wf_i64 (by omega)
    · rw [if_neg h]; exact WalkArith.wf_i64 (by omega)
  | succ l =>
    have e : pcN g (l + 1) t = wrap64 (wrap64 (pcN g l (dW g t 70) + pcN g l (dW g t 76)) + pcN g l (dW g t 82)) := rfl
    rw [e]
    exact wrap64_wf _
theorem cg_eq {c T : Int} (h : Cg c T) (hc : (Lit.int .i64 c).wf = true) (hT : (Lit.int .i64 T).wf = true) : c = T := by
  obtain ⟨z, hz⟩ := h
  have h1 := (Lit.wf_int_iff .i64 c).1 hc
  have h2 := (Lit.wf_int_iff .i64 T).1 hT
  have e1 : IntKind.i64.min = -9223372036854775808 := rfl
  have e2 : IntKind.i64.max = 9223372036854775807 := rfl
  rw [e1, e2] at h1 h2
  omega
def remJ (c a b d : Int) : Nat → Int
  | 0 => c * a + c * b + c * d
  | 1 => c * b + c * d
  | 2 => c * d
  | _ => 0
def sgnJ : Nat → Int
  | 0 => 70
  | 1 => 76
  | _ => 82
theorem sgnJ_or (j : Nat) : sgnJ j = 70 ∨ sgnJ j = 76 ∨ sgnJ j = 82 := by
  match j with
  | 0 => exact .inl rfl
  | 1 => exact .inr (.inl rfl)
  | _ + 2 => exact .inr (.inr rfl)
theorem sgnJ_cell (j : Nat) (h : j < 3) : (#[.int .u8 70, .int .u8 76, .int .u8 82] : Array Value)[j]? = some (.int .u8 (sgnJ j)) := by
  match j, h with
  | 0, _ => rfl
  | 1, _ => rfl
  | 2, _ => rfl
theorem remJ_step (g c : Int) (l : Nat) (t : Int × Int × Int) (j : Nat) (h : j < 3) : remJ c (pcN g l (dW g t 70)) (pcN g l (dW g t 76)) (pcN g l (dW g t 82)) j = c * pcN g l (dW g t (sgnJ j)) + remJ c (pcN g l (dW g t 70)) (pcN g l (dW g t 76)) (pcN g l (dW g t 82)) (j + 1) := by
  match j, h with
  | 0, _ => exact Int.add_assoc _ _ _
  | 1, _ => rfl
  | 2, _ => exact (Int.add_zero _).symm
set_option maxHeartbeats 1000000 in
set_option maxRecDepth 100000 in
theorem cc_walk (g n : Int) (w : World) (hg : impl_isGrid.f g = some true) (hgg : g = 4 ∨ g = 6) (hn : impl_within.f n 0 10 = some true) (hn0 : 0 ≤ n ∧ n ≤ 10) :
    Calls Try.prog 9 #[.int .i64 g, .int .i64 n] w fun e w' => e = .returned (.tuple #[.int .i64 (pcN g n.toNat (0, 0, 0)), .bool true]) ∧ Below w.heap.size w w' := by
  have hmm := @run_makeMap Try.prog
  have HG := Aside0.mk hg
  have HN := Aside0.mk hn
  have HGG := Aside0.mk hgg
  obtain ⟨N, rfl⟩ : ∃ N : Nat, n = N := ⟨n.toNat, by omega⟩
  have HN10 := Aside0.mk (show N ≤ 10 by omega)
  rw [Int.toNat_natCast]
  clear hg hn hgg hn0
  obtain ⟨kz, hkz, hGz, hwz⟩ := gk_mk g HGG.out (0, 0, 0) ⟨wf_of 0 (by omega) (by omega), wf_of 0 (by omega) (by omega), Int.le_refl _, by rcases HGG.out with h | h <;> (rw [h]; decide)⟩
  have HKZ := Aside0.mk hkz
  have HGZ := Aside0.mk hGz
  have HWZ := Aside0.mk hwz
  clear hkz hGz hwz
  obtain ⟨T, hT⟩ : ∃ T, T = pcN g N (0, 0, 0) := ⟨_, rfl⟩
  rw [← hT]
  have HT := Aside0.mk hT
  clear hT
  go_enter Try.func9, Try.ntmps9
  go_wp2_with fail
  refine (impl_isGrid.calls g true _ HG.out).mono ?_
  rintro e w1 ⟨rfl, hb⟩
  have HB := Aside0.mk hb.below
  clear hb
  go_wp2_with fail
  refine (impl_within.calls N 0 10 true _ HN.out).mono ?_
  rintro e w2 ⟨rfl, hb⟩
  have HB2 := Aside0.mk (below_step HB.out hb.below)
  clear hb HB
  have hmz := (World.ownsMap_made (H := Unit) w2 Try.prog 57 (plainElem Try.prog 3)).update cc_keyed Try.underlying58 (by decide) HKZ.out (plainElem_int Try.underlying3 (wf_of 1 (by omega) (by omega)))
  obtain ⟨w3, hrun, hown, hgr⟩ := hmz
  have hrun' : (Instr.mapUpdate 58 (.map (some w2.heap.size)) (.agg #[.int .i64 0, .int .i64 0, .int .i64 0]) (.int .i64 1)).run Try.prog (w2.alloc (.map #[] 0)) = .ok () w3 := hrun
  have HOWN := Aside0.mk hown
  have HB3 := Aside0.mk (show Below w.heap.size w w3 from (below_alloc HB2.out (.map #[] 0)).grown hgr (Nat.le_trans HB2.out.size (by simp)) (fun j hj => by cases hj; exact HB2.out.size))
  have HSZ := Aside0.mk (show w.heap.size ≤ w2.heap.size from HB2.out.size)
  clear hown hgr hrun
  obtain ⟨B0, hB0⟩ : ∃ B, B = w2.heap.size := ⟨_, rfl⟩
  rw [← hB0] at HOWN HSZ
  have HSUM := Aside0.mk (show Cg (sumD (FN g N) ((DataW.map []).put kz (.lit (.int .i64 1)))) T by
    have hnice : NiceD (.map []) := ⟨[], rfl, List.Pairwise.nil, fun p hp => (List.not_mem_nil hp).elim⟩
    rw [sum_put (FN g N) hnice (cc_keyed.key HKZ.out) (c := 0) rfl, HT.out]
    refine ⟨0, ?_⟩
    show 0 + (1 - 0) * FN g N kz = _
    unfold FN
    rw [HWZ.out]
    omega)
  have HOK := Aside0.mk (show OkD (GK g) ((DataW.map []).put kz (.lit (.int .i64 1))) from ok_put (fun p hp => (List.not_mem_nil hp).elim) ⟨[], rfl, List.Pairwise.nil, fun p hp => (List.not_mem_nil hp).elim⟩ HGZ.out _)
  go_wp2_with fail
  go_loopg [6, 24] N (fun gg v6 v24 wr => ∃ (i B n : Nat) (D : DataW Unit), v6 = .map (some B) ∧ v24 = .int .i64 (i : Int) ∧ i ≤ N ∧ N - i ≤ gg ∧ Aside0 (wr.ownsMap Try.prog 57 (plainElem Try.prog 3) B n D ∧ w.heap.size ≤ B ∧ n ≤ 3 ^ i ∧ OkD (GK g) D ∧ Cg (sumD (FN g (N - i)) D) T) ∧ Aside0 (Below w.heap.size w wr))
  case atStart => exact ⟨0, B0, 1, _, by rw [hB0], rfl, Nat.zero_le _, Nat.le_refl _, ⟨HOWN.out, HSZ.out, by decide, HOK.out, by rw [Nat.sub_zero]; exact HSUM.out⟩, HB3⟩
  case round =>
    clear HOWN HB3 HSUM HOK
    obtain ⟨i, B, n, D, rfl, rfl, hi, hgi, HO, HB⟩ := hrel
    by_cases hlt : i < N
    · have c0 : ((i : Int) < (N : Int)) = True := eq_true (by omega)
      obtain ⟨w0, hrun0, hrg0, hg0, hs0⟩ := (HO.out.1.alloc (.map #[] 0)).range cc_keyed Try.underlying58
      have e1 : (wr.alloc (.map #[] 0)).heap.size = wr.heap.size + 1 := by simp
      rw [e1] at hrun0 hrg0 hs0
      have hme := (World.ownsMap_made (H := Unit) wr Try.prog 57 (plainElem Try.prog 3)).kept hg0 (by simp)
      have hBlt := HO.out.1.lt
      have HBB := Aside0.mk (show Below w.heap.size w w0 from (below_alloc HB.out (.map #[] 0)).grown hg0 (Nat.le_trans HB.out.size (by simp)) (fun j hj => by cases hj))
      have HRG := Aside0.mk hrg0
      have HME := Aside0.mk hme
      have HS0 := Aside0.mk (show w0.heap.size = wr.heap.size + 2 from hs0)
      have HLT := Aside0.mk (show B < wr.heap.size from hBlt)
      have HNB := Aside0.mk (HO.out.1.entries cc_keyed)
      have HCN := Aside0.mk (World.ownsMap.size_le hrg0.owns)
      have HN59 := Aside0.mk (show n ≤ 59049 from Nat.le_trans HO.out.2.2.1 (Nat.pow_le_pow_right (n := 3) (by omega) (show i ≤ 10 by have := HN10.out; omega)))
      have HL := Aside0.mk (show ∃ l, N - i = l + 1 from ⟨N - i - 1, by omega⟩)
      obtain ⟨l, hl⟩ := HL.out
      have HLL := Aside0.mk hl
      have HBS := Aside0.mk (show w.heap.size ≤ wr.heap.size from HB.out.size)
      clear hrg0 hme hs0 hBlt hl HL hg0 e1
      go_wp2_with fail
      clear hrun0
      obtain ⟨B2, hB2⟩ : ∃ B, wr.heap.size = B := ⟨_, rfl⟩
      rw [hB2] at HRG HME HS0 HLT HBS ⊢
      clear hB2
      go_loopg [29] (Maps.size D) (fun gg v29 wx => ∃ (left : Lit → Bool) (cnt n2 : Nat) (D2 : DataW Unit), cnt ≤ gg ∧ n2 + 3 * cnt ≤ 3 * n ∧ Aside0 (wx.ranges Try.prog 57 (plainElem Try.prog 3) B (B2 + 1) n D left cnt) ∧
        Aside0 (wx.ownsMap Try.prog 57 (plainElem Try.prog 3) B2 n2 D2 ∧ OkD (GK g) D2 ∧ Cg (sumD (FN g l) D2 + leftD (FN g (l + 1)) D left) T) ∧ Aside0 (Below w.heap.size w wx ∧ B2 + 2 ≤ wx.heap.size))
      case atStart =>
        exact ⟨_, _, 0, .map [], Nat.le_refl _, by have := HCN.out; omega, HRG, ⟨HME.out, fun p hp => (List.not_mem_nil hp).elim, by
          rw [left_all _ HNB.out, ← HLL.out]
          have h := HO.out.2.2.2.2
          show Cg (0 + _) T
          rw [Int.zero_add]
          exact h⟩, ⟨HBB.out, Nat.le_of_eq HS0.out.symm⟩⟩
      case round =>
        clear HRG HME HS0 HBB
        obtain ⟨left, cnt, n2, D2, hcg, hn2, HRG, HO2, HB⟩ := hrel
        rcases HRG.out.next cc_keyed 0 with ⟨h0, hl, hrun⟩ | ⟨key, v, kl, y, w', cnt', hkey, hlk, hv, hat, hrun, hrg, hlt, hgr, hsz, hen⟩
        · have HSE := Aside0.mk (show w.heap.size ≤ B2 ∧ n2 ≤ 3 ^ (i + 1) ∧ OkD (GK g) D2 ∧ Cg (sumD (FN g (N - (i + 1))) D2) T from ⟨HBS.out, by
              have h := HO.out.2.2.1
              rw [Nat.pow_succ]
              omega, HO2.out.2.1, by
              have h := HO2.out.2.2
              rw [left_none _ _ _ hl, Int.add_zero] at h
              have e : N - (i + 1) = l := by have := HLL.out; omega
              rw [e]
              exact h⟩)
          clear hl h0
          go_wp2_with fail
          go_roundg (N - (i + 1))
          case measure => omega
          case rel => exact ⟨i + 1, B2, n2, D2, rfl, by rw [show wrap64 ((i : Int) + 1) = ((i + 1 : Nat) : Int) from by (have := HN10.out; unfold wrap64; omega)], by omega, Nat.le_refl _, ⟨HO2.out.1, HSE.out⟩, ⟨HB.out.1⟩⟩
        · have HNI := Aside0.mk (show NiceD D from HNB.out)
          obtain ⟨cc, rfl, hy, hwc⟩ := plainElem_int_inv Try.underlying3 hv
          subst hy
          obtain ⟨hsl, hgk⟩ := sum_left (FN g (l + 1)) HNI.out (cc_keyed.key hkey) hlk hat
          obtain ⟨t, ht, hgt⟩ := hgk (GK g) HO.out.2.2.2.1
          obtain rfl := cc_keyed.inj hkey ht
          have hFt : FN g (l + 1) kl = wrap64 (wrap64 (pcN g l (dW g t 70) + pcN g l (dW g t 76)) + pcN g l (dW g t 82)) := by unfold FN; rw [wOf_eq ht]; rfl
          rw [hFt] at hsl
          have HSL := Aside0.mk (show Cg (sumD (FN g l) D2 + (cc * pcN g l (dW g t 70) + cc * pcN g l (dW g t 76) + cc * pcN g l (dW g t 82)) + leftD (FN g (l + 1)) D (fun z => left z && !z.sameKey kl)) T from cg_step _ _ _ _ _ _ _ (by rw [← hsl]; exact HO2.out.2.2))
          have HGT := Aside0.mk hgt
          have HRG2 := Aside0.mk hrg
          have HGR := Aside0.mk hgr
          have HSZ2 := Aside0.mk hsz
          have HWC := Aside0.mk hwc
          have HOK2 := Aside0.mk HO2.out.2.1
          have HO3 := Aside0.mk (HO2.out.1.kept hgr (fun e => by injection e with e; omega))
          have HB3 := Aside0.mk (show Below w.heap.size w w' from HB.out.1.grown hgr HB.out.1.size (fun j hj => by cases hj; exact Nat.le_succ_of_le HBS.out))
          have HCC := Aside0.mk (show cnt' < cnt ∧ cnt ≤ gk ∧ n2 + 3 * cnt ≤ 3 * n from ⟨hlt, hcg, hn2⟩)
          have HB4 := Aside0.mk (show B2 + 2 ≤ w'.heap.size by rw [hsz]; exact HB.out.2)
          obtain ⟨left2, hleft2⟩ : ∃ f, f = (fun z => left z && !z.sameKey kl) := ⟨_, rfl⟩
          rw [← hleft2] at HSL HRG2
          obtain ⟨x, y, d⟩ := t
          have hrun' : (Instr.next (.pointer (some ⟨B2 + 1, 0, none⟩)) false 0).run Try.prog wr = .ok (.tuple #[.bool true, .agg #[.int .i64 x, .int .i64 y, .int .i64 d], .int .i64 cc]) w' := hrun
          have hen' : (Instr.entry (.pointer (some ⟨B2 + 1, 0, none⟩))).run Try.prog w' = .ok (.tuple #[.agg #[.int .i64 x, .int .i64 y, .int .i64 d], .int .i64 cc]) w' := hen
          clear hleft2 hrun hen hrg hgr hsz hwc hFt hsl hkey ht hgt hgk hat hlk hlt hcg hn2 HRG HO2 HB hv
          have hcv := Go.Joins.run_convert_bytes_const_at (P := Try.prog) (w'.alloc (.cells #[.int .i64 x, .int .i64 y, .int .i64 d] 57)) 59 5 #[.int .u8 70, .int .u8 76, .int .u8 82] 3 3 (w'.heap.size + 1) (by simp) Try.underlying59 Try.underlying5
          have HAB := Aside0.mk (show ((w'.alloc (.cells #[.int .i64 x, .int .i64 y, .int .i64 d] 57)).alloc (.cells #[.int .u8 70, .int .u8 76, .int .u8 82] 5 (3, 4))).heap[w'.heap.size]? = some (.cells #[.int .i64 x, .int .i64 y, .int .i64 d] 57 (0, 0)) from blk_alloc (MapKept.heap_alloc w' _).1 _)
          have e1 : (w'.alloc (.cells #[.int .i64 x, .int .i64 y, .int .i64 d] 57)).heap.size = w'.heap.size + 1 := by simp
          have HBS2 := Aside0.mk (show ((w'.alloc (.cells #[.int .i64 x, .int .i64 y, .int .i64 d] 57)).alloc (.cells #[.int .u8 70, .int .u8 76, .int .u8 82] 5 (3, 4))).heap[w'.heap.size + 1]? = some (.cells #[.int .u8 70, .int .u8 76, .int .u8 82] 5 (3, 4)) by rw [← e1]; exact (MapKept.heap_alloc _ _).1)
          have HRG3 := Aside0.mk ((HRG2.out.alloc (.cells #[.int .i64 x, .int .i64 y, .int .i64 d] 57)).alloc (.cells #[.int .u8 70, .int .u8 76, .int .u8 82] 5 (3, 4)))
          have HO4 := Aside0.mk ((HO3.out.alloc (.cells #[.int .i64 x, .int .i64 y, .int .i64 d] 57)).alloc (.cells #[.int .u8 70, .int .u8 76, .int .u8 82] 5 (3, 4)))
          have HB5 := Aside0.mk (below_alloc (below_alloc HB3.out (.cells #[.int .i64 x, .int .i64 y, .int .i64 d] 57)) (.cells #[.int .u8 70, .int .u8 76, .int .u8 82] 5 (3, 4)))
          have HZ5 := Aside0.mk (show ((w'.alloc (.cells #[.int .i64 x, .int .i64 y, .int .i64 d] 57)).alloc (.cells #[.int .u8 70, .int .u8 76, .int .u8 82] 5 (3, 4))).heap.size = w'.heap.size + 2 by simp)
          clear e1
          go_wp2_with fail
          clear hcv hrun' hen'
          obtain ⟨W5, hW5⟩ : ∃ W, (w'.alloc (.cells #[.int .i64 x, .int .i64 y, .int .i64 d] 57)).alloc (.cells #[.int .u8 70, .int .u8 76, .int .u8 82] 5 (3, 4)) = W := ⟨_, rfl⟩
          obtain ⟨ab, hab⟩ : ∃ a, w'.heap.size = a := ⟨_, rfl⟩
          rw [hW5] at HAB HBS2 HRG3 HO4 HB5 HZ5 ⊢
          rw [hab] at HAB HBS2 HB4 HZ5 ⊢
          clear hab hW5 HRG2 HO3 HB3
          go_loopg [37] 3 (fun gg v37 wx => ∃ (j n3 : Nat) (D3 : DataW Unit), v37 = .int .i64 (j : Int) ∧ j ≤ 3 ∧ 3 - j ≤ gg ∧ n3 + 3 * cnt' + (3 - j) ≤ 3 * n ∧ Aside0 (wx.heap[ab]? = some (.cells #[.int .i64 x, .int .i64 y, .int .i64 d] 57 (0, 0))) ∧ Aside0 (wx.heap[ab + 1]? = some (.cells #[.int .u8 70, .int .u8 76, .int .u8 82] 5 (3, 4))) ∧
            Aside0 (wx.ranges Try.prog 57 (plainElem Try.prog 3) B (B2 + 1) n D left2 cnt') ∧ Aside0 (wx.ownsMap Try.prog 57 (plainElem Try.prog 3) B2 n3 D3 ∧ OkD (GK g) D3 ∧ Cg (sumD (FN g l) D3 + remJ cc (pcN g l (dW g (x, y, d) 70)) (pcN g l (dW g (x, y, d) 76)) (pcN g l (dW g (x, y, d) 82)) j + leftD (FN g (l + 1)) D left2) T) ∧ Aside0 (Below w.heap.size w wx ∧ ab + 2 ≤ wx.heap.size))
          case atStart => exact ⟨0, n2, D2, rfl, Nat.zero_le _, Nat.le_refl _, by have := HCC.out; omega, HAB, HBS2, HRG3, ⟨HO4.out, HOK2.out, HSL.out⟩, ⟨HB5.out, Nat.le_of_eq HZ5.out.symm⟩⟩
          case round =>
            clear HAB HBS2 HRG3 HO4 HSL HB5 HZ5
            obtain ⟨j, n3, D3, rfl, hj, hgj, hn3, HAB, HBY, HRG, HO3, HB⟩ := hrel
            have HABL := HB4
            clear HB4
            by_cases hj3 : j < 3
            · obtain ⟨s, hs⟩ : ∃ s, s = sgnJ j := ⟨_, rfl⟩
              have hcs : wr.cell? ⟨ab + 1, j, none⟩ = some (.int .u8 s) := by rw [cell_of_row _ _ _ _ _ _ HBY.out, hs]; exact sgnJ_cell j hj3
              have HS := Aside0.mk hs
              clear hs
              go_wp2_with fail
              obtain ⟨hdo, hgw⟩ := do_step g HGG.out (x, y, d) HGT.out s (by rw [HS.out]; exact sgnJ_or j)
              obtain ⟨kl2, hk2, hG2, hw2⟩ := gk_mk g HGG.out _ hgw
              obtain ⟨c0, hlk, hat, hwc0⟩ := (show (wr.drew).ownsMap Try.prog 57 (plainElem Try.prog 3) B2 n3 D3 from HO3.out.1).lookup_int cc_keyed Try.underlying58 Try.underlying3 (cc_zero _) hk2
              have HSM := Aside0.mk (sum_put (FN g l) (HO3.out.1.entries cc_keyed) (cc_keyed.key hk2) (c' := wrap64 (c0 + cc)) hat)
              have HOK3 := Aside0.mk (ok_put HO3.out.2.1 (HO3.out.1.entries cc_keyed) hG2 (.lit (.int .i64 (wrap64 (c0 + cc)))))
              have hF2 : FN g l kl2 = pcN g l (dW g (x, y, d) s) := by unfold FN; rw [hw2]
              have HCG := Aside0.mk (show Cg (sumD (FN g l) (D3.put kl2 (.lit (.int .i64 (wrap64 (c0 + cc))))) + remJ cc (pcN g l (dW g (x, y, d) 70)) (pcN g l (dW g (x, y, d) 76)) (pcN g l (dW g (x, y, d) 82)) (j + 1) + leftD (FN g (l + 1)) D left2) T from
                cg_put _ _ _ _ c0 cc (pcN g l (dW g (x, y, d) s)) _ (by rw [HSM.out, hF2]) (by rw [HS.out, ← remJ_step g cc l (x, y, d) j hj3]; exact HO3.out.2.2))
              have HMX := Aside0.mk (show n3 < maxLen by have := HN59.out; unfold maxLen; omega)
              have HAT := Aside0.mk hat
              obtain ⟨⟨x', y', d'⟩, hd⟩ : ∃ r, r = dW g (x, y, d) s := ⟨_, rfl⟩
              rw [← hd] at hdo hk2
              have HDO := Aside0.mk (show impl_walker_do.f x y d g s = some (x', y', d') from hdo)
              have HKEY := Aside0.mk (show keyOf Try.prog 57 (.agg #[.int .i64 x', .int .i64 y', .int .i64 d']) = some kl2 from hk2)
              have HLK := Aside0.mk (show (Instr.lookup 58 (.map (some B2)) (.agg #[.int .i64 x', .int .i64 y', .int .i64 d']) false).run Try.prog wr.drew = .ok (.int .i64 c0) wr.drew by
                have e : Value.agg #[.int .i64 x', .int .i64 y', .int .i64 d'] = mkW (dW g (x, y, d) s) := by rw [← hd]; rfl
                rw [e]
                exact hlk)
              clear hdo hgw hk2 hG2 hw2 hlk hat hwc0 hF2 hd hcs
              refine start_ (n := 11) (S := fun w' => w'.cell? ⟨ab, 0, none⟩ = some (.int .i64 x) ∧ w'.cell? ⟨ab, 1, none⟩ = some (.int .i64 y) ∧ w'.cell? ⟨ab, 2, none⟩ = some (.int .i64 d) ∧ (Instr.lookup 58 (.map (some B2)) (.agg #[.int .i64 x', .int .i64 y', .int .i64 d']) false).run Try.prog w' = .ok (.int .i64 c0) w') (ds := [10]) #[false, false, false, false, false, false, false, false, false, false, false] (by kernel_rfl) rfl rfl ⟨(blk_cell HAB.out 0), (blk_cell HAB.out 1), (blk_cell HAB.out 2), HLK.out⟩ (fun hHeld => ?_)
              refine pure_ (i := 0) (N := some 41) (v := ?_) (a' := ?_) #[true, false, false, false, false, false, false, false, false, false, false] rfl rfl (by kernel_rfl) (fun _ _ _ h => h) (Or.inl ⟨by rfl, ?_⟩) ?_ ?_
              rotate_left
              · intro w'
                go_simp
                with_reducible rfl
              rotate_left
              · simp only [Act.put, List.setIfInBounds_toArray, List.set_cons_zero, List.set_cons_succ, i64_w, i32_w]
                rfl
              refine pure_ (i := 2) (N := some 43) (v := ?_) (a' := ?_) #[true, false, true, false, false, false, false, false, false, false, false] rfl rfl (by kernel_rfl) (fun _ _ _ h => h) (Or.inl ⟨by rfl, ?_⟩) ?_ ?_
              rotate_left
              · intro w'
                go_simp
                with_reducible rfl
              rotate_left
              · simp only [Act.put, List.setIfInBounds_toArray, List.set_cons_zero, List.set_cons_succ, i64_w, i32_w]
                rfl
              refine pure_ (i := 3) (N := some 44) (v := ?_) (a' := ?_) #[true, false, true, true, false, false, false, false, false, false, false] rfl rfl (by kernel_rfl) (fun _ _ _ h => h) (Or.inl ⟨by rfl, ?_⟩) ?_ ?_
              rotate_left
              · intro w'
                go_simp
                with_reducible rfl
              rotate_left
              · simp only [Act.put, List.setIfInBounds_toArray, List.set_cons_zero, List.set_cons_succ, i64_w, i32_w]
                rfl
              refine pure_ (i := 6) (N := some 47) (v := ?_) (a' := ?_) #[true, false, true, true, false, false, true, false, false, false, false] rfl rfl (by kernel_rfl) (fun _ _ _ h => h) (Or.inl ⟨by rfl, ?_⟩) ?_ ?_
              rotate_left
              · intro w'
                go_simp
                with_reducible rfl
              rotate_left
              · simp only [Act.put, List.setIfInBounds_toArray, List.set_cons_zero, List.set_cons_succ, i64_w, i32_w]
                rfl
              refine take_ (i := 1) (N := some 42) (v := ?_) (a' := ?_) #[true, true, true, true, false, false, true, false, false, false, false] rfl rfl (by kernel_rfl) (fun _ _ _ h => h) (Or.inl ⟨by rfl, ?_⟩) hHeld ?_ ?_
              rotate_left
              · rintro w' ⟨s0, s1, s2, s3⟩
                go_simp
                with_reducible rfl
              rotate_left
              · simp only [Act.put, List.setIfInBounds_toArray, List.set_cons_zero, List.set_cons_succ, i64_w, i32_w]
                rfl
              refine one_ (i := 4) (N := some 45) #[true, true, true, true, true, false, true, false, false, false, false] rfl rfl (by kernel_rfl) (by decide) (fun K hK => ?_)
              refine goes_ Try.func35 (by kernel_rfl) rfl #[.agg #[.int .i64 x, .int .i64 y, .int .i64 d], .int .i64 g, .int .u8 s] (by rfl) rfl rfl (by simp only [List.map_toArray, List.map_cons, List.map_nil]; rfl) ?_
              with_reducible refine (impl_walker_do.calls x y d g s x' y' d' _ HDO.out).mono ?_
              rintro e w4 ⟨rfl, hb⟩
              refine ⟨_, rfl, ?_⟩
              have HAB4 := Aside0.mk (show w4.heap[ab]? = _ from (hb.block ab (blk_lt HAB.out)).trans HAB.out)
              have HBY4 := Aside0.mk (show w4.heap[ab + 1]? = _ from (hb.block (ab + 1) (blk_lt HBY.out)).trans HBY.out)
              have hg4 : (wr.drew).grownBy w4 none := ⟨hb.os, hb.tape, hb.output, hb.size, fun k hk _ => hb.block k hk⟩
              have HRG4 := Aside0.mk ((show (wr.drew).ranges Try.prog 57 (plainElem Try.prog 3) B (B2 + 1) n D left2 cnt' from HRG.out).kept hg4 (by simp) (by simp))
              have HO4 := Aside0.mk ((HO3.out.1.drew).kept hg4 (by simp))
              have HB4 := Aside0.mk (show Below w.heap.size w w4 ∧ ab + 2 ≤ w4.heap.size from ⟨below_step (below_drew HB.out.1) hb, Nat.le_trans HB.out.2 hb.size⟩)
              clear hb hg4
              obtain ⟨c1, st, w5, hat1, hwc1, hl1, hme, hl5, hg5, hs5, hes⟩ := own_entry cc_law Try.underlying58 Try.underlying3 cc_zero HO4.out HMX.out HKEY.out
              obtain rfl : c0 = c1 := by have e := HAT.out.symm.trans hat1; simp only [DataW.lit.injEq, Lit.int.injEq, true_and] at e; exact e
              obtain ⟨w6, hes6, ho6, hg6, hs6⟩ := hes (wrap64 (c0 + cc)) (wrap64_wf _)
              have HL4 := Aside0.mk hl1
              have HL5 := Aside0.mk hl5
              have HG5 := Aside0.mk hg5
              have HG6 := Aside0.mk hg6
              have HO6 := Aside0.mk ho6
              have HS6 := Aside0.mk hs6
              have HME := Aside0.mk hme
              have HES := Aside0.mk hes6
              have HAB5 := Aside0.mk (show w5.heap[ab]? = _ from (hg5.block ab (blk_lt HAB4.out) (fun e => by injection e with e; have := HABL.out; omega)).trans HAB4.out)
              clear hl1 hl5 hg5 hg6 ho6 hs6 hme hes6 hes hat1 hwc1 hs5
              refine hK.out _ _ ⟨(blk_cell HAB4.out 0), (blk_cell HAB4.out 1), (blk_cell HAB4.out 2), HL4.out⟩ (fun hHeld => ?_)
              clear hK K
              refine norm_ (a' := ?_) ?_ ?_
              rotate_left
              · show Act.put _ (some 45) _ = _
                simp only [Act.put, List.setIfInBounds_toArray, List.set_cons_zero, List.set_cons_succ, i64_w, i32_w]
                rfl
              refine take_ (i := 5) (N := some 46) (v := ?_) (a' := ?_) #[true, true, true, true, true, true, true, false, false, false, false] rfl rfl (by kernel_rfl) (fun _ _ _ h => h) (Or.inl ⟨by rfl, ?_⟩) hHeld ?_ ?_
              rotate_left
              · rintro w' ⟨s0, s1, s2, s3⟩
                go_simp
                with_reducible rfl
              rotate_left
              · simp only [Act.put, List.setIfInBounds_toArray, List.set_cons_zero, List.set_cons_succ, i64_w, i32_w]
                rfl
              refine pure_ (i := 7) (N := some 48) (v := ?_) (a' := ?_) #[true, true, true, true, true, true, true, true, false, false, false] rfl rfl (by kernel_rfl) (fun _ _ _ h => h) (Or.inl ⟨by rfl, ?_⟩) ?_ ?_
              rotate_left
              · intro w'
                go_simp
                with_reducible rfl
              rotate_left
              · simp only [Act.put, List.setIfInBounds_toArray, List.set_cons_zero, List.set_cons_succ, i64_w, i32_w]
                rfl
              refine one_ (i := 8) (N := some 49) #[true, true, true, true, true, true, true, true, true, false, false] rfl rfl (by kernel_rfl) (by decide) (fun K hK => ?_)
              have hme : (Instr.mapEntry 58 (.map (some B2)) (.agg #[.int .i64 x', .int .i64 y', .int .i64 d'])).run Try.prog w4 = .ok (.tuple #[.int .i64 c0, .int .i64 (st : Int)]) w5 := HME.out
              refine value_ (w1 := ?_) (v := ?_) (by rfl) rfl ?_ ?_
              rotate_left 2
              · go_simp
                constructor
                · rfl
                · rfl
              clear hme
              refine hK.out _ _ ⟨(blk_cell HAB5.out 0), (blk_cell HAB5.out 1), (blk_cell HAB5.out 2), HL5.out⟩ (fun hHeld => ?_)
              clear hK K
              refine norm_ (a' := ?_) ?_ ?_
              rotate_left
              · show Act.put _ (some 49) _ = _
                simp only [Act.put, List.setIfInBounds_toArray, List.set_cons_zero, List.set_cons_succ, i64_w, i32_w]
                rfl
              refine pure_ (i := 9) (N := some 50) (v := ?_) (a' := ?_) #[true, true, true, true, true, true, true, true, true, true, false] rfl rfl (by kernel_rfl) (fun _ _ _ h => h) (Or.inl ⟨by rfl, ?_⟩) ?_ ?_
              rotate_left
              · intro w'
                go_simp
                with_reducible rfl
              rotate_left
              · simp only [Act.put, List.setIfInBounds_toArray, List.set_cons_zero, List.set_cons_succ, i64_w, i32_w]
                rfl
              refine last_ (i := 10) (N := none) #[true, true, true, true, true, true, true, true, true, true, true] rfl rfl (by kernel_rfl) (by decide) (fun K hK => ?_)
              have hes6 : (Instr.entryStore 58 (.map (some B2)) (.int .i64 (st : Int)) (.int .i64 (wrap64 (c0 + cc)))).run Try.prog w5 = .ok () w6 := HES.out
              refine skip_ (w1 := ?_) (by rfl) rfl ?_ ?_
              rotate_left
              · go_simp
                rfl
              clear hes6
              refine hK.out _ _ ?_
              clear hK K
              refine done_ (by kernel_rfl) ?_

              have HBN := Aside0.mk (show w.heap.size ≤ B2 ∧ B < B2 ∧ B2 + 2 ≤ ab from ⟨HBS.out, HLT.out, HABL.out⟩)
              have HAB6 := Aside0.mk (show w6.heap[ab]? = _ from (HG6.out.block ab (blk_lt HAB4.out) (fun e => by injection e with e; have := HABL.out; omega)).trans HAB4.out)
              have HBY6 := Aside0.mk (show w6.heap[ab + 1]? = _ from (HG6.out.block (ab + 1) (blk_lt HBY4.out) (fun e => by injection e with e; have := HABL.out; omega)).trans HBY4.out)
              have HRG6 := Aside0.mk (HRG4.out.kept HG6.out (fun e => by injection e with e; have := HLT.out; omega) (fun e => by injection e with e; omega))
              have HB6 := Aside0.mk (show Below w.heap.size w w6 ∧ ab + 2 ≤ w6.heap.size from ⟨HB4.out.1.grown HG6.out HB4.out.1.size (fun j hj => by cases hj; exact HBS.out), by rw [HS6.out]; exact HB4.out.2⟩)
              go_wp2_with fail
              go_roundg (3 - (j + 1))
              case measure => omega
              case rel => exact ⟨j + 1, n3 + 1, _, by go_num, by omega, Nat.le_refl _, by omega, HAB6, HBY6, HRG6, ⟨HO6.out, HOK3.out, HCG.out⟩, HB6⟩
            · obtain rfl : j = 3 := by omega
              have HBN := Aside0.mk (show w.heap.size ≤ B2 ∧ B < B2 ∧ B2 + 2 ≤ ab from ⟨HBS.out, HLT.out, HABL.out⟩)
              have HCG := Aside0.mk (show Cg (sumD (FN g l) D3 + leftD (FN g (l + 1)) D left2) T by
                have h := HO3.out.2.2
                have e : remJ cc (pcN g l (dW g (x, y, d) 70)) (pcN g l (dW g (x, y, d) 76)) (pcN g l (dW g (x, y, d) 82)) 3 = 0 := rfl
                rw [e, Int.add_zero] at h
                exact h)
              go_wp2_with fail
              go_roundg cnt'
              case measure => have := HCC.out; omega
              case rel => exact ⟨left2, cnt', n3, D3, Nat.le_refl _, by omega, HRG, ⟨HO3.out.1, HO3.out.2.1, HCG.out⟩, ⟨HB.out.1, by have := HB.out.2; have := HABL.out; omega⟩⟩
    · obtain rfl : i = N := by omega
      have c0 : ((i : Int) < (i : Int)) = False := eq_false (by omega)
      obtain ⟨c, hlk, hat, hwc⟩ := HO.out.1.lookup_int cc_keyed Try.underlying58 Try.underlying3 (cc_zero _) HKZ.out
      have hlk' : (Instr.lookup 58 (.map (some B)) (.agg #[.int .i64 0, .int .i64 0, .int .i64 0]) false).run Try.prog wr = .ok (.int .i64 c) wr := hlk
      have hcT : c = T := by
        have h := HO.out.2.2.2.2
        rw [Nat.sub_self, sum_last g (HO.out.1.entries cc_keyed) HO.out.2.2.2.1 HKZ.out hat] at h
        exact cg_eq h hwc (by rw [HT.out]; exact pcN_wf g i _)
      subst hcT
      clear hlk hat hwc
      go_wp2_with fail
      go_ret2
      exact ⟨rfl, HB.out⟩
set_option maxHeartbeats 1000000 in
set_option maxRecDepth 100000 in
theorem cc_walk_no (g n : Int) (w : World) (hg : impl_isGrid.f g = some false) :
    Calls Try.prog 9 #[.int .i64 g, .int .i64 n] w fun e w' => e = .returned (.tuple #[.int .i64 0, .bool false]) ∧ Below w.heap.size w w' := by
  have HG := Aside0.mk hg
  clear hg
  go_enter Try.func9, Try.ntmps9
  go_wp2_with fail
  refine (impl_isGrid.calls g false _ HG.out).mono ?_
  rintro e w1 ⟨rfl, hb⟩
  have HB := Aside0.mk hb.below
  clear hb
  go_wp2_with fail
  go_ret2
  exact ⟨rfl, HB.out⟩
set_option maxHeartbeats 1000000 in
set_option maxRecDepth 100000 in
theorem cc_walk_no2 (g n : Int) (w : World) (hg : impl_isGrid.f g = some true) (hn : impl_within.f n 0 10 = some false) :
    Calls Try.prog 9 #[.int .i64 g, .int .i64 n] w fun e w' => e = .returned (.tuple #[.int .i64 0, .bool false]) ∧ Below w.heap.size w w' := by
  have HG := Aside0.mk hg
  have HN := Aside0.mk hn
  clear hg hn
  go_enter Try.func9, Try.ntmps9
  go_wp2_with fail
  refine (impl_isGrid.calls g true _ HG.out).mono ?_
  rintro e w1 ⟨rfl, hb⟩
  have HB := Aside0.mk hb.below
  clear hb
  go_wp2_with fail
  refine (impl_within.calls n 0 10 false _ HN.out).mono ?_
  rintro e w2 ⟨rfl, hb⟩
  have HB2 := Aside0.mk (below_step HB.out hb.below)
  clear hb HB
  go_wp2_with fail
  go_ret2
  exact ⟨rfl, HB2.out⟩
def impl_CountClosed.f (a0 : Int) (a1 : Int) : Option (Int × Bool) := (impl_isGrid.f a0).bind fun q => if q = true then (if a0 = 4 ∨ a0 = 6 then ((impl_within.f a1 0 10).bind fun p => if p = true then (if 0 ≤ a1 ∧ a1 ≤ 10 then some (pcN a0 a1.toNat (0, 0, 0), true) else none) else some (0, false)) else none) else some (0, false)
theorem impl_CountClosed.calls (a0 : Int) (a1 : Int) (r1 : Int) (r2 : Bool) (w : World) (h : impl_CountClosed.f a0 a1 = some (r1, r2)) :
    Calls Try.prog 9 #[.int .i64 a0, .int .i64 a1] w fun e w' => e = .returned (.tuple #[.int .i64 r1, .bool r2]) ∧ Below w.heap.size w w' := by
  unfold impl_CountClosed.f at h
  obtain ⟨q, hq, h⟩ := Option.bind_eq_some_iff.1 h
  cases q with
  | true =>
    rw [if_pos rfl] at h
    by_cases hg : a0 = 4 ∨ a0 = 6
    · rw [if_pos hg] at h
      obtain ⟨p, hp, h⟩ := Option.bind_eq_some_iff.1 h
      cases p with
      | true =>
        rw [if_pos rfl] at h
        by_cases hs : 0 ≤ a1 ∧ a1 ≤ 10
        · rw [if_pos hs] at h
          cases Option.some.inj h
          exact cc_walk a0 a1 w hq hg hp hs
        · rw [if_neg hs] at h
          cases h
      | false =>
        rw [if_neg (by decide)] at h
        cases Option.some.inj h
        exact cc_walk_no2 a0 a1 w hq hp
    · rw [if_neg hg] at h
      cases h
  | false =>
    rw [if_neg (by decide)] at h
    cases Option.some.inj h
    exact cc_walk_no a0 a1 w hq

/-! ### laws_FnExactCountClosed: function 3 -/
def laws_FnExactCountClosed.f (k : Nat) (a0 : Int) (a1 : Int) : Option (Bool) := (spec_CountClosed.f k a0 a1).bind fun bt150 => ((impl_CountClosed.f a0 a1).bind fun bt152 => (if bt152.1 = bt150.1 then (if (bt152.2 != bt150.2) = true then (some false) else (some true)) else (some false)))
theorem laws_FnExactCountClosed.mono : ∀ a0 a1 k, LeO (laws_FnExactCountClosed.f k a0 a1) (laws_FnExactCountClosed.f (k + 1) a0 a1) := by
  intro a0 a1 k
  unfold laws_FnExactCountClosed.f
  repeat' first
      | (with_reducible exact spec_CountClosed.mono _ _ _)
      | (with_reducible exact LeO.refl _)
      | (with_reducible exact LeO.none _)
      | (with_reducible refine LeO.ite ?_ ?_)
      | (with_reducible refine LeO.bind ?_ (fun _ => ?_))
      | exact spec_CountClosed.mono _ _ _
      | exact LeO.none _
      | refine LeO.ite ?_ ?_
      | refine LeO.bind ?_ (fun _ => ?_)
set_option maxHeartbeats 8000000 in
set_option maxRecDepth 100000 in
theorem laws_FnExactCountClosed.calls (k : Nat) (a0 : Int) (a1 : Int) (r : Bool) (w : World) (h : laws_FnExactCountClosed.f k a0 a1 = some r) :
    Calls Try.prog 3 #[.int .i64 a0, .int .i64 a1] w fun e w' => e = .returned (.bool r) ∧ Below w.heap.size w w' := by
  have HB := Aside0.mk (Below.refl w.heap.size w)
  have H : ((spec_CountClosed.f k a0 a1).bind fun bt150 => ((impl_CountClosed.f a0 a1).bind fun bt152 => (if bt152.1 = bt150.1 then (if (bt152.2 != bt150.2) = true then (some false) else (some true)) else (some false)))) = some r := h
  clear h
  replace H := Option.bind_eq_some_iff.mp H
  obtain ⟨⟨t150, t151⟩, A30, H⟩ := H
  replace H : ((impl_CountClosed.f a0 a1).bind fun bt152 => (if bt152.1 = t150 then (if (bt152.2 != t151) = true then (some false) else (some true)) else (some false))) = some r := H
  have A3 := Aside0.mk A30
  clear A30
  replace H := Option.bind_eq_some_iff.mp H
  obtain ⟨⟨t152, t153⟩, A40, H⟩ := H
  replace H : (if t152 = t150 then (if (t153 != t151) = true then (some false) else (some true)) else (some false)) = some r := H
  have A4 := Aside0.mk A40
  clear A40
  by_cases c5 : t152 = t150
  · rw [if_pos c5] at H
    have c5b0 : (t152 == t150) = true := beq_iff_eq.mpr c5
    have c5b1 : (t152 != t150) = false := bne_eq_false_iff_eq.mpr c5
    clear c5
    by_cases c6 : (t153 != t151) = true
    · rw [if_pos c6] at H
      have c6b0 : (t153 != t151) = true := c6
      (try (have c6b1 : decide (t153 = t151) = false := by simpa using c6))
      (try (have c6b2 : (t153 == t151) = false := by simpa using c6))
      (try (have c6b3 : ¬ (t153 = t151) := by simpa using c6))
      clear c6
      obtain rfl := Option.some.inj H
      go_enter Try.func3, Try.ntmps3
      go_wp2_with (first | ((with_reducible refine gate_callee (f := 8) rfl ?_); refine goesL_ (some 12) rfl rfl Try.func8 (by kernel_rfl) rfl #[.int .i64 a0, .int .i64 a1] rfl (by (try simp only [List.map_toArray, List.map_cons, List.map_nil]); first | done | rfl | (simp only [List.length_drop, List.length_take]; rfl)) ?_; (with_reducible refine (spec_CountClosed.calls k a0 a1 t150 t151 _ A3.out).mono ?_); rintro e w7 ⟨rfl, hb⟩; refine ⟨_, rfl, ?_⟩; have n0_ := Aside0.mk (below_step (by repeat (first | (with_reducible first | exact HB.out | apply below_alloc | apply pw_below_drewN | apply below_drew1) | exact HB.out)) hb); clear HB; have HB := n0_; clear n0_; (try clear hb); (try clear hb2); (try clear hk); (try clear hi)) | ((with_reducible refine gate_callee (f := 9) rfl ?_); refine goesL_ (some 18) rfl rfl Try.func9 (by kernel_rfl) rfl #[.int .i64 a0, .int .i64 a1] rfl (by (try simp only [List.map_toArray, List.map_cons, List.map_nil]); first | done | rfl | (simp only [List.length_drop, List.length_take]; rfl)) ?_; (with_reducible refine (impl_CountClosed.calls a0 a1 t152 t153 _ A4.out).mono ?_); rintro e w8 ⟨rfl, hb⟩; refine ⟨_, rfl, ?_⟩; have n0_ := Aside0.mk (below_step (by repeat (first | (with_reducible first | exact HB.out | apply below_alloc | apply pw_below_drewN | apply below_drew1) | exact HB.out)) hb); clear HB; have HB := n0_; clear n0_; (try clear hb); (try clear hb2); (try clear hk); (try clear hi)))
      go_ret
      exact ⟨by first | rfl | (simp [errW_none, errW_some] <;> rfl) | (simp [*, errW_none, errW_some] <;> rfl), by repeat (first | (with_reducible first | exact HB.out | apply below_alloc | apply pw_below_drewN | apply below_drew1) | exact HB.out)⟩
    · rw [if_neg c6] at H
      have c6b0 : (t153 != t151) = false := by simpa using c6
      (try (have c6b1 : decide (t153 = t151) = true := by simpa using c6))
      (try (have c6b2 : (t153 == t151) = true := by simpa using c6))
      clear c6
      obtain rfl := Option.some.inj H
      go_enter Try.func3, Try.ntmps3
      go_wp2_with (first | ((with_reducible refine gate_callee (f := 8) rfl ?_); refine goesL_ (some 12) rfl rfl Try.func8 (by kernel_rfl) rfl #[.int .i64 a0, .int .i64 a1] rfl (by (try simp only [List.map_toArray, List.map_cons, List.map_nil]); first | done | rfl | (simp only [List.length_drop, List.length_take]; rfl)) ?_; (with_reducible refine (spec_CountClosed.calls k a0 a1 t150 t151 _ A3.out).mono ?_); rintro e w9 ⟨rfl, hb⟩; refine ⟨_, rfl, ?_⟩; have n0_ := Aside0.mk (below_step (by repeat (first | (with_reducible first | exact HB.out | apply below_alloc | apply pw_below_drewN | apply below_drew1) | exact HB.out)) hb); clear HB; have HB := n0_; clear n0_; (try clear hb); (try clear hb2); (try clear hk); (try clear hi)) | ((with_reducible refine gate_callee (f := 9) rfl ?_); refine goesL_ (some 18) rfl rfl Try.func9 (by kernel_rfl) rfl #[.int .i64 a0, .int .i64 a1] rfl (by (try simp only [List.map_toArray, List.map_cons, List.map_nil]); first | done | rfl | (simp only [List.length_drop, List.length_take]; rfl)) ?_; (with_reducible refine (impl_CountClosed.calls a0 a1 t152 t153 _ A4.out).mono ?_); rintro e w10 ⟨rfl, hb⟩; refine ⟨_, rfl, ?_⟩; have n0_ := Aside0.mk (below_step (by repeat (first | (with_reducible first | exact HB.out | apply below_alloc | apply pw_below_drewN | apply below_drew1) | exact HB.out)) hb); clear HB; have HB := n0_; clear n0_; (try clear hb); (try clear hb2); (try clear hk); (try clear hi)))
      go_ret
      exact ⟨by first | rfl | (simp [errW_none, errW_some] <;> rfl) | (simp [*, errW_none, errW_some] <;> rfl), by repeat (first | (with_reducible first | exact HB.out | apply below_alloc | apply pw_below_drewN | apply below_drew1) | exact HB.out)⟩
  · rw [if_neg c5] at H
    have c5b0 : (t152 == t150) = false := beq_eq_false_iff_ne.mpr c5
    have c5b1 : (t152 != t150) = true := bne_iff_ne.mpr c5
    obtain rfl := Option.some.inj H
    go_enter Try.func3, Try.ntmps3
    go_wp2_with (first | ((with_reducible refine gate_callee (f := 8) rfl ?_); refine goesL_ (some 12) rfl rfl Try.func8 (by kernel_rfl) rfl #[.int .i64 a0, .int .i64 a1] rfl (by (try simp only [List.map_toArray, List.map_cons, List.map_nil]); first | done | rfl | (simp only [List.length_drop, List.length_take]; rfl)) ?_; (with_reducible refine (spec_CountClosed.calls k a0 a1 t150 t151 _ A3.out).mono ?_); rintro e w11 ⟨rfl, hb⟩; refine ⟨_, rfl, ?_⟩; have n0_ := Aside0.mk (below_step (by repeat (first | (with_reducible first | exact HB.out | apply below_alloc | apply pw_below_drewN | apply below_drew1) | exact HB.out)) hb); clear HB; have HB := n0_; clear n0_; (try clear hb); (try clear hb2); (try clear hk); (try clear hi)) | ((with_reducible refine gate_callee (f := 9) rfl ?_); refine goesL_ (some 18) rfl rfl Try.func9 (by kernel_rfl) rfl #[.int .i64 a0, .int .i64 a1] rfl (by (try simp only [List.map_toArray, List.map_cons, List.map_nil]); first | done | rfl | (simp only [List.length_drop, List.length_take]; rfl)) ?_; (with_reducible refine (impl_CountClosed.calls a0 a1 t152 t153 _ A4.out).mono ?_); rintro e w12 ⟨rfl, hb⟩; refine ⟨_, rfl, ?_⟩; have n0_ := Aside0.mk (below_step (by repeat (first | (with_reducible first | exact HB.out | apply below_alloc | apply pw_below_drewN | apply below_drew1) | exact HB.out)) hb); clear HB; have HB := n0_; clear n0_; (try clear hb); (try clear hb2); (try clear hk); (try clear hi)))
    go_ret
    exact ⟨by first | rfl | (simp [errW_none, errW_some] <;> rfl) | (simp [*, errW_none, errW_some] <;> rfl), by repeat (first | (with_reducible first | exact HB.out | apply below_alloc | apply pw_below_drewN | apply below_drew1) | exact HB.out)⟩

/-- THE ONE PURE STATEMENT of laws_FnExactCountClosed: yours. -/
def laws_FnExactCountClosed.Pure : Prop := ∀ (a0 : Int) (a1 : Int), (Lit.int .i64 a0).wf = true → (Lit.int .i64 a1).wf = true → ∃ k, laws_FnExactCountClosed.f k a0 a1 = some true
theorem laws_FnExactCountClosed.walk (P : laws_FnExactCountClosed.Pure) (a0 : Int) (a1 : Int) (w : World) (w0 : (Lit.int .i64 a0).wf = true) (w1 : (Lit.int .i64 a1).wf = true) :
    Calls Try.prog 3 #[.int .i64 a0, .int .i64 a1] w fun e w' => e = .returned (.bool true) ∧ Below w.heap.size w w' := by
  obtain ⟨k, h⟩ := P a0 a1 w0 w1
  refine (laws_FnExactCountClosed.calls k a0 a1 true w h).mono ?_
  rintro e w' ⟨rfl, hd⟩
  exact ⟨rfl, hd⟩


end Go.Proofs.Ytlnjfbnabjgffaa.X
