-- Written by a program of this work. Not trusted: it is checked when it is built.
import Derived.Test.YtkbokgpbfpncdaaDoorXx3
import Derived.Lib.OthersKept
import Derived.Laws.RangeAny
namespace Go.Proofs.YtkbokgpbfpncdaaDoor.X
open Go.RowKit Go.Proofs.YtkbokgpbfpncdaaDoorW.PrintWords Go.Proofs.YtkbokgpbfpncdaaDoorW.PrintLast Go.Proofs.YtkbokgpbfpncdaaDoorW.PrintMore
attribute [local go_sem] max2_int min2_int max_two min_two max_three min_three max_four min_four   -- for this text's walks alone
set_option linter.unusedVariables false
set_option linter.unusedSimpArgs false

/-! ### spec_LeastShift: function 18 (given by hand) -/
/-- The word that begins behind i signs. -/
def shiftW (w : ByteArray) (i : Nat) : ByteArray := w.extract i w.size ++ w.extract 0 i
/-- The least of the first i of them. -/
def leastW (w : ByteArray) : Nat → ByteArray
  | 0 => w
  | i + 1 => if Op.bytesLess (shiftW w i).toList (leastW w i).toList = true then shiftW w i else leastW w i
set_option maxHeartbeats 4000000 in
set_option maxRecDepth 100000 in
theorem specLeast_walk (g : Int) (s : ByteArray) (w : World) (hs : s.size ≤ 1000) (ha : ∀ (j : Nat) (h : j < s.size), (s[j]'h).toNat < 128)
    (HA : Aside0 (∀ W, Calls Tryd.prog 46 #[.int .i64 g, .string s] W fun e w' => e = .returned (.bool true) ∧ Drawn0 W w')) :
    Calls Tryd.prog 18 #[.int .i64 g, .string s] w fun e w' => e = .returned (.tuple #[.string (leastW s s.size), .bool true]) ∧ Below w.heap.size w w' := by
  have HS := Aside0.mk ha
  clear ha
  go_enter Tryd.func18, Tryd.ntmps18
  go_wp2_with (go_at_call 46; refine (HA.out _).mono ?_; rintro e w1 ⟨rfl, hd⟩)
  have HD := Aside0.mk hd
  clear hd
  go_loopg [6] s.size (fun gg s6 wr => ∃ pos : Nat, pos ≤ s.size ∧ s.size - pos ≤ gg ∧ s6 = .string (leastW s pos) ∧ Aside0 (wr.heap[w1.heap.size]? = some (.stringIter s pos)) ∧ Aside0 (Below w.heap.size w wr))
  case atStart =>
    refine ⟨0, Nat.zero_le _, by omega, rfl, ⟨?_⟩, ⟨?_⟩⟩
    · exact World.iter_heap w1 s 0
    · obtain ⟨n, rfl⟩ := HD.out
      have b0 : Below w.heap.size w (w.drewN n) := ⟨rfl, rfl, rfl, Nat.le_refl _, fun _ _ => rfl⟩
      exact b0.alloc (Nat.le_refl _) _
  case round =>
    obtain ⟨pos, hp, hg, rfl, HI, HB⟩ := hrel
    by_cases hlt : pos < s.size
    · have hnx : ∀ ty, (Instr.next (.pointer (some ⟨w1.heap.size, 0, none⟩)) true ty).run Tryd.prog wr = _ := fun ty => Lib.run_next_ascii_at wr w1.heap.size s pos ty HI.out hlt (HS.out pos hlt)
      go_wp2_with fail
      have q1 : (s.extract pos s.size).size + (s.extract 0 pos).size ≤ 9223372036854775807 := by simp; omega
      have q2 : (pos : Int) ≤ (s.size : Int) := by omega
      have q3 : ((pos : Int).toNat) = pos := rfl
      clear hnx
      have hst : leastW s (pos + 1) = if Op.bytesLess (s.extract pos s.size ++ s.extract 0 pos).toList (leastW s pos).toList = true then s.extract pos s.size ++ s.extract 0 pos else leastW s pos := rfl
      have nI := Lib.iterAt_heap wr w1.heap.size s pos (pos + 1) HI.out
      have nB := Lib.below_iterAt HB.out (k := w1.heap.size) (by obtain ⟨n, rfl⟩ := HD.out; exact Nat.le_refl _) s (pos + 1)
      have NI := Aside0.mk nI
      have NB := Aside0.mk nB
      have HST := Aside0.mk hst
      clear nI nB hst HI HB
      go_quiet (fail)
      by_cases hb : Op.bytesLess (s.extract pos s.size ++ s.extract 0 pos).toList (leastW s pos).toList = true
      · have hst2 : leastW s (pos + 1) = s.extract pos s.size ++ s.extract 0 pos := by rw [HST.out, if_pos hb]
        go_wp2
        go_roundg (s.size - (pos + 1))
        (case measure => omega)
        (case rel => exact ⟨pos + 1, by omega, Nat.le_refl _, by rw [hst2], ⟨NI.out⟩, ⟨⟨NB.out.os, NB.out.tape, NB.out.output, NB.out.size, NB.out.block⟩⟩⟩)
      · have hst2 : leastW s (pos + 1) = leastW s pos := by rw [HST.out, if_neg hb]
        rw [Bool.not_eq_true] at hb
        go_wp2
        go_roundg (s.size - (pos + 1))
        (case measure => omega)
        (case rel => exact ⟨pos + 1, by omega, Nat.le_refl _, by rw [hst2], ⟨NI.out⟩, ⟨⟨NB.out.os, NB.out.tape, NB.out.output, NB.out.size, NB.out.block⟩⟩⟩)
    · have hnx : ∀ ty, (Instr.next (.pointer (some ⟨w1.heap.size, 0, none⟩)) true ty).run Tryd.prog wr = _ := fun ty => Lib.run_next_end_at wr w1.heap.size s pos ty HI.out hlt
      go_wp2_with fail
      go_ret2
      obtain rfl : pos = s.size := by omega
      exact ⟨rfl, HB.out⟩
set_option maxHeartbeats 4000000 in
theorem specLeast_no (g : Int) (s : ByteArray) (w : World)
    (HA : Aside0 (∀ W, Calls Tryd.prog 46 #[.int .i64 g, .string s] W fun e w' => e = .returned (.bool false) ∧ Drawn0 W w')) :
    Calls Tryd.prog 18 #[.int .i64 g, .string s] w fun e w' => e = .returned (.tuple #[.string ⟨#[]⟩, .bool false]) ∧ Below w.heap.size w w' := by
  go_enter Tryd.func18, Tryd.ntmps18
  go_wp2_with (go_at_call 46; refine (HA.out _).mono ?_; rintro e w1 ⟨rfl, hd⟩)
  go_ret2
  exact ⟨rfl, hd.below⟩
def spec_LeastShift.f (a0 : Int) (a1 : ByteArray) : Option (ByteArray × Bool) := (spec_paAsked.f 1000 a0 a1).bind fun t => if t = true then (if a1.size ≤ 1000 ∧ a1.data.toList.all (fun b => decide (b.toNat < 128)) = true then some (leastW a1 a1.size, true) else none) else some (⟨#[]⟩, false)
theorem spec_LeastShift.calls (a0 : Int) (a1 : ByteArray) (r1 : ByteArray) (r2 : Bool) (w : World) (h : spec_LeastShift.f a0 a1 = some (r1, r2)) :
    Calls Tryd.prog 18 #[.int .i64 a0, .string a1] w fun e w' => e = .returned (.tuple #[.string r1, .bool r2]) ∧ Below w.heap.size w w' := by
  unfold spec_LeastShift.f at h
  obtain ⟨t, ht, h⟩ := Option.bind_eq_some_iff.mp h
  have HA := fun W => spec_paAsked.calls 1000 a0 a1 t W ht
  cases t with
  | false =>
    rw [if_neg (by decide)] at h
    injection h with h; injection h with e1 e2; subst e1; subst e2
    exact specLeast_no a0 a1 w ⟨HA⟩
  | true =>
    rw [if_pos rfl] at h
    split at h
    · rename_i hc
      injection h with h; injection h with e1 e2; subst e1; subst e2
      refine specLeast_walk a0 a1 w hc.1 (fun j hj => ?_) ⟨HA⟩
      have := List.all_eq_true.1 hc.2 (a1[j]'hj) (by
        show a1.data[j] ∈ _
        exact Array.mem_toList_iff.2 (Array.getElem_mem hj))
      exact of_decide_eq_true this
    · cases h

/-! ### impl_LeastShift: function 19 (given by hand) -/
/-- The least of the first i of them. -/
def leastM (w : ByteArray) : Nat → ByteArray
  | 0 => w
  | i + 1 => if (Op.bytesLess (leastM w i).toList ((w.extract i w.size ++ w.extract 0 i)).toList || (leastM w i).toList == ((w.extract i w.size ++ w.extract 0 i)).toList) = true then leastM w i else (w.extract i w.size ++ w.extract 0 i)
theorem run_min_str (x y : ByteArray) (W : World) : (Builtin.min2 (.string x) (.string y)).run Tryd.prog W = .ok (.string (if (Op.bytesLess x.toList y.toList || x.toList == y.toList) = true then x else y)) W := by
  cases h : Op.bytesLess x.toList y.toList <;> simp [Builtin.min2, Op.stringOp, asBool, h, Sem.run]
set_option maxHeartbeats 4000000 in
set_option maxRecDepth 100000 in
theorem implLeast_walk (g : Int) (s : ByteArray) (w : World) (hs : s.size ≤ 1000)
    (HA : Aside0 (∀ W, Calls Tryd.prog 44 #[.int .i64 g, .string s] W fun e w' => e = .returned (.bool true) ∧ Below W.heap.size W w')) :
    Calls Tryd.prog 19 #[.int .i64 g, .string s] w fun e w' => e = .returned (.tuple #[.string (leastM s s.size), .bool true]) ∧ Below w.heap.size w w' := by
  go_enter Tryd.func19, Tryd.ntmps19
  go_wp2_with (go_at_call 44; refine (HA.out _).mono ?_; rintro e w1 ⟨rfl, hd⟩)
  have HD := Aside0.mk hd
  clear hd
  go_loopg [6, 15] s.size (fun gg s6 s15 wr => ∃ pos : Nat, pos ≤ s.size ∧ s.size - pos ≤ gg ∧ s6 = .string (leastM s pos) ∧ s15 = .int .i64 (pos : Int) ∧ Aside0 (Below w.heap.size w wr))
  case atStart =>
    exact ⟨0, Nat.zero_le _, by omega, rfl, rfl, HD⟩
  case round =>
    obtain ⟨pos, hp, hg, rfl, rfl, HB⟩ := hrel
    by_cases hlt : pos < s.size
    · have q0 : (pos : Int) < (s.size : Int) := by omega
      have q1 : (s.extract pos s.size).size + (s.extract 0 pos).size ≤ 9223372036854775807 := by simp; omega
      have q4 : (9223372036854775807 < s.size) = False := eq_false (by omega)
      have q2 : (pos : Int) ≤ (s.size : Int) := by omega
      have hst : leastM s (pos + 1) = if (Op.bytesLess (leastM s pos).toList (s.extract pos s.size ++ s.extract 0 pos).toList || (leastM s pos).toList == (s.extract pos s.size ++ s.extract 0 pos).toList) = true then leastM s pos else s.extract pos s.size ++ s.extract 0 pos := rfl
      have HST := Aside0.mk hst
      clear hst
      have hm : ∀ W, (Builtin.min2 (.string (leastM s pos)) (.string (s.extract pos s.size ++ s.extract 0 pos))).run Tryd.prog W = _ := fun W => run_min_str _ _ W
      rw [← HST.out] at hm
      go_wp2_with fail
      go_quiet (fail)
      go_wp2
      go_roundg (s.size - (pos + 1))
      (case measure => omega)
      (case rel => exact ⟨pos + 1, by omega, Nat.le_refl _, rfl, by go_num, ⟨⟨HB.out.os, HB.out.tape, HB.out.output, HB.out.size, HB.out.block⟩⟩⟩)
    · have q0 : ¬ (pos : Int) < (s.size : Int) := by omega
      go_wp2_with fail
      go_ret2
      obtain rfl : pos = s.size := by omega
      exact ⟨rfl, HB.out⟩
set_option maxHeartbeats 4000000 in
theorem implLeast_no (g : Int) (s : ByteArray) (w : World)
    (HA : Aside0 (∀ W, Calls Tryd.prog 44 #[.int .i64 g, .string s] W fun e w' => e = .returned (.bool false) ∧ Below W.heap.size W w')) :
    Calls Tryd.prog 19 #[.int .i64 g, .string s] w fun e w' => e = .returned (.tuple #[.string ⟨#[]⟩, .bool false]) ∧ Below w.heap.size w w' := by
  go_enter Tryd.func19, Tryd.ntmps19
  go_wp2_with (go_at_call 44; refine (HA.out _).mono ?_; rintro e w1 ⟨rfl, hd⟩)
  go_ret2
  exact ⟨rfl, hd⟩
def impl_LeastShift.f (a0 : Int) (a1 : ByteArray) : Option (ByteArray × Bool) := (impl_isWord.f a0 a1).bind fun t => if t = true then (if a1.size ≤ 1000 then some (leastM a1 a1.size, true) else none) else some (⟨#[]⟩, false)
theorem impl_LeastShift.calls (a0 : Int) (a1 : ByteArray) (r1 : ByteArray) (r2 : Bool) (w : World) (h : impl_LeastShift.f a0 a1 = some (r1, r2)) :
    Calls Tryd.prog 19 #[.int .i64 a0, .string a1] w fun e w' => e = .returned (.tuple #[.string r1, .bool r2]) ∧ Below w.heap.size w w' := by
  unfold impl_LeastShift.f at h
  obtain ⟨t, ht, h⟩ := Option.bind_eq_some_iff.mp h
  have HA := fun W => impl_isWord.calls a0 a1 t W ht
  cases t with
  | false =>
    rw [if_neg (by decide)] at h
    injection h with h; injection h with e1 e2; subst e1; subst e2
    exact implLeast_no a0 a1 w ⟨HA⟩
  | true =>
    rw [if_pos rfl] at h
    split at h
    · rename_i hc
      injection h with h; injection h with e1 e2; subst e1; subst e2
      exact implLeast_walk a0 a1 w hc ⟨HA⟩
    · cases h

/-! ### laws_FnExactLeastShift: function 5 -/
def laws_FnExactLeastShift.f (a0 : Int) (a1 : ByteArray) : Option (Bool) := if (a1.size : Int) > 1048576 then (some true) else ((spec_LeastShift.f a0 a1).bind fun bt121 => ((impl_LeastShift.f a0 a1).bind fun bt123 => (if bt123.1.toList = bt121.1.toList then (if (bt123.2 != bt121.2) = true then (some false) else (some true)) else (some false))))
set_option maxHeartbeats 8000000 in
set_option maxRecDepth 100000 in
theorem laws_FnExactLeastShift.calls (a0 : Int) (a1 : ByteArray) (r : Bool) (w : World) (h : laws_FnExactLeastShift.f a0 a1 = some r) :
    Calls Tryd.prog 5 #[.int .i64 a0, .string a1] w fun e w' => e = .returned (.bool r) ∧ Below w.heap.size w w' := by
  have HB := Aside0.mk (Below.refl w.heap.size w)
  have H : (if (a1.size : Int) > 1048576 then (some true) else ((spec_LeastShift.f a0 a1).bind fun bt121 => ((impl_LeastShift.f a0 a1).bind fun bt123 => (if bt123.1.toList = bt121.1.toList then (if (bt123.2 != bt121.2) = true then (some false) else (some true)) else (some false))))) = some r := h
  clear h
  by_cases c3 : (a1.size : Int) > 1048576
  · rw [if_pos c3] at H
    have c3b0 : decide (1048576 < (a1.size : Int)) = true := decide_eq_true c3
    have c3b1 : decide (1048576 < a1.size) = true := decide_eq_true (by omega)
    clear c3
    obtain rfl := Option.some.inj H
    go_enter Tryd.func5, Tryd.ntmps5
    go_wp2
    go_ret
    exact ⟨by first | rfl | (simp [errW_none, errW_some] <;> rfl) | (simp [*, errW_none, errW_some] <;> rfl), by repeat (first | (with_reducible first | exact HB.out | apply below_alloc | apply pw_below_drewN | apply below_drew1) | exact HB.out)⟩
  · rw [if_neg c3] at H
    have c3b0 : decide (1048576 < (a1.size : Int)) = false := decide_eq_false c3
    have c3b1 : decide (1048576 < a1.size) = false := decide_eq_false (by omega)
    clear c3
    replace H := Option.bind_eq_some_iff.mp H
    obtain ⟨⟨t121, t122⟩, A40, H⟩ := H
    replace H : ((impl_LeastShift.f a0 a1).bind fun bt123 => (if bt123.1.toList = t121.toList then (if (bt123.2 != t122) = true then (some false) else (some true)) else (some false))) = some r := H
    have A4 := Aside0.mk A40
    clear A40
    replace H := Option.bind_eq_some_iff.mp H
    obtain ⟨⟨t123, t124⟩, A50, H⟩ := H
    replace H : (if t123.toList = t121.toList then (if (t124 != t122) = true then (some false) else (some true)) else (some false)) = some r := H
    have A5 := Aside0.mk A50
    clear A50
    by_cases c6 : t123.toList = t121.toList
    · rw [if_pos c6] at H
      have c6b0 : (t123.toList == t121.toList) = true := beq_iff_eq.mpr c6
      have c6b1 : (t123.toList != t121.toList) = false := bne_eq_false_iff_eq.mpr c6
      clear c6
      by_cases c7 : (t124 != t122) = true
      · rw [if_pos c7] at H
        have c7b0 : (t124 != t122) = true := c7
        (try (have c7b1 : decide (t124 = t122) = false := by simpa using c7))
        (try (have c7b2 : (t124 == t122) = false := by simpa using c7))
        (try (have c7b3 : ¬ (t124 = t122) := by simpa using c7))
        clear c7
        obtain rfl := Option.some.inj H
        go_enter Tryd.func5, Tryd.ntmps5
        go_wp2_with (first | ((with_reducible refine gate_callee (f := 18) rfl ?_); refine goesL_ (some 15) rfl rfl Tryd.func18 (by kernel_rfl) rfl #[.int .i64 a0, .string a1] rfl (by (try simp only [List.map_toArray, List.map_cons, List.map_nil]); first | done | rfl | (simp only [List.length_drop, List.length_take]; rfl)) ?_; (with_reducible refine (spec_LeastShift.calls a0 a1 t121 t122 _ A4.out).mono ?_); rintro e w8 ⟨rfl, hb⟩; refine ⟨_, rfl, ?_⟩; have n0_ := Aside0.mk (below_step (by repeat (first | (with_reducible first | exact HB.out | apply below_alloc | apply pw_below_drewN | apply below_drew1) | exact HB.out)) hb); clear HB; have HB := n0_; clear n0_; (try clear hb); (try clear hb2); (try clear hk); (try clear hi)) | ((with_reducible refine gate_callee (f := 19) rfl ?_); refine goesL_ (some 21) rfl rfl Tryd.func19 (by kernel_rfl) rfl #[.int .i64 a0, .string a1] rfl (by (try simp only [List.map_toArray, List.map_cons, List.map_nil]); first | done | rfl | (simp only [List.length_drop, List.length_take]; rfl)) ?_; (with_reducible refine (impl_LeastShift.calls a0 a1 t123 t124 _ A5.out).mono ?_); rintro e w9 ⟨rfl, hb⟩; refine ⟨_, rfl, ?_⟩; have n0_ := Aside0.mk (below_step (by repeat (first | (with_reducible first | exact HB.out | apply below_alloc | apply pw_below_drewN | apply below_drew1) | exact HB.out)) hb); clear HB; have HB := n0_; clear n0_; (try clear hb); (try clear hb2); (try clear hk); (try clear hi)))
        go_ret
        exact ⟨by first | rfl | (simp [errW_none, errW_some] <;> rfl) | (simp [*, errW_none, errW_some] <;> rfl), by repeat (first | (with_reducible first | exact HB.out | apply below_alloc | apply pw_below_drewN | apply below_drew1) | exact HB.out)⟩
      · rw [if_neg c7] at H
        have c7b0 : (t124 != t122) = false := by simpa using c7
        (try (have c7b1 : decide (t124 = t122) = true := by simpa using c7))
        (try (have c7b2 : (t124 == t122) = true := by simpa using c7))
        clear c7
        obtain rfl := Option.some.inj H
        go_enter Tryd.func5, Tryd.ntmps5
        go_wp2_with (first | ((with_reducible refine gate_callee (f := 18) rfl ?_); refine goesL_ (some 15) rfl rfl Tryd.func18 (by kernel_rfl) rfl #[.int .i64 a0, .string a1] rfl (by (try simp only [List.map_toArray, List.map_cons, List.map_nil]); first | done | rfl | (simp only [List.length_drop, List.length_take]; rfl)) ?_; (with_reducible refine (spec_LeastShift.calls a0 a1 t121 t122 _ A4.out).mono ?_); rintro e w10 ⟨rfl, hb⟩; refine ⟨_, rfl, ?_⟩; have n0_ := Aside0.mk (below_step (by repeat (first | (with_reducible first | exact HB.out | apply below_alloc | apply pw_below_drewN | apply below_drew1) | exact HB.out)) hb); clear HB; have HB := n0_; clear n0_; (try clear hb); (try clear hb2); (try clear hk); (try clear hi)) | ((with_reducible refine gate_callee (f := 19) rfl ?_); refine goesL_ (some 21) rfl rfl Tryd.func19 (by kernel_rfl) rfl #[.int .i64 a0, .string a1] rfl (by (try simp only [List.map_toArray, List.map_cons, List.map_nil]); first | done | rfl | (simp only [List.length_drop, List.length_take]; rfl)) ?_; (with_reducible refine (impl_LeastShift.calls a0 a1 t123 t124 _ A5.out).mono ?_); rintro e w11 ⟨rfl, hb⟩; refine ⟨_, rfl, ?_⟩; have n0_ := Aside0.mk (below_step (by repeat (first | (with_reducible first | exact HB.out | apply below_alloc | apply pw_below_drewN | apply below_drew1) | exact HB.out)) hb); clear HB; have HB := n0_; clear n0_; (try clear hb); (try clear hb2); (try clear hk); (try clear hi)))
        go_ret
        exact ⟨by first | rfl | (simp [errW_none, errW_some] <;> rfl) | (simp [*, errW_none, errW_some] <;> rfl), by repeat (first | (with_reducible first | exact HB.out | apply below_alloc | apply pw_below_drewN | apply below_drew1) | exact HB.out)⟩
    · rw [if_neg c6] at H
      have c6b0 : (t123.toList == t121.toList) = false := beq_eq_false_iff_ne.mpr c6
      have c6b1 : (t123.toList != t121.toList) = true := bne_iff_ne.mpr c6
      obtain rfl := Option.some.inj H
      go_enter Tryd.func5, Tryd.ntmps5
      go_wp2_with (first | ((with_reducible refine gate_callee (f := 18) rfl ?_); refine goesL_ (some 15) rfl rfl Tryd.func18 (by kernel_rfl) rfl #[.int .i64 a0, .string a1] rfl (by (try simp only [List.map_toArray, List.map_cons, List.map_nil]); first | done | rfl | (simp only [List.length_drop, List.length_take]; rfl)) ?_; (with_reducible refine (spec_LeastShift.calls a0 a1 t121 t122 _ A4.out).mono ?_); rintro e w12 ⟨rfl, hb⟩; refine ⟨_, rfl, ?_⟩; have n0_ := Aside0.mk (below_step (by repeat (first | (with_reducible first | exact HB.out | apply below_alloc | apply pw_below_drewN | apply below_drew1) | exact HB.out)) hb); clear HB; have HB := n0_; clear n0_; (try clear hb); (try clear hb2); (try clear hk); (try clear hi)) | ((with_reducible refine gate_callee (f := 19) rfl ?_); refine goesL_ (some 21) rfl rfl Tryd.func19 (by kernel_rfl) rfl #[.int .i64 a0, .string a1] rfl (by (try simp only [List.map_toArray, List.map_cons, List.map_nil]); first | done | rfl | (simp only [List.length_drop, List.length_take]; rfl)) ?_; (with_reducible refine (impl_LeastShift.calls a0 a1 t123 t124 _ A5.out).mono ?_); rintro e w13 ⟨rfl, hb⟩; refine ⟨_, rfl, ?_⟩; have n0_ := Aside0.mk (below_step (by repeat (first | (with_reducible first | exact HB.out | apply below_alloc | apply pw_below_drewN | apply below_drew1) | exact HB.out)) hb); clear HB; have HB := n0_; clear n0_; (try clear hb); (try clear hb2); (try clear hk); (try clear hi)))
      go_ret
      exact ⟨by first | rfl | (simp [errW_none, errW_some] <;> rfl) | (simp [*, errW_none, errW_some] <;> rfl), by repeat (first | (with_reducible first | exact HB.out | apply below_alloc | apply pw_below_drewN | apply below_drew1) | exact HB.out)⟩

/-- THE ONE PURE STATEMENT of laws_FnExactLeastShift: yours. -/
def laws_FnExactLeastShift.Pure : Prop := ∀ (a0 : Int) (a1 : ByteArray), (Lit.int .i64 a0).wf = true → a1.size ≤ 140737488351232 → laws_FnExactLeastShift.f a0 a1 = some true
theorem laws_FnExactLeastShift.walk (P : laws_FnExactLeastShift.Pure) (a0 : Int) (a1 : ByteArray) (w : World) (w0 : (Lit.int .i64 a0).wf = true) (w1 : a1.size ≤ 140737488351232) :
    Calls Tryd.prog 5 #[.int .i64 a0, .string a1] w fun e w' => e = .returned (.bool true) ∧ Below w.heap.size w w' := by
  have h := P a0 a1 w0 w1
  refine (laws_FnExactLeastShift.calls a0 a1 true w h).mono ?_
  rintro e w' ⟨rfl, hd⟩
  exact ⟨rfl, hd⟩


end Go.Proofs.YtkbokgpbfpncdaaDoor.X
