/- ChordsText: both tell chords as numbers in decimal. -/
import Derived.Lib.Join
import Derived.Test.YtkogmefbmedceaaDoorBWrap
import Derived.Test.YtkogmefbmedceaaDoorBOrd0
import Derived.Test.YtkogmefbmedceaaDoorBSetA
import Derived.Test.YtkogmefbmedceaaDoorBToC
import Derived.Test.YtkogmefbmedceaaDoorBEqC
import Derived.Test.YtkogmefbmedceaaDoorBNum
import Derived.Test.YtkogmefbmedceaaDoorXx4
import Derived.Test.YtkogmefbmedceaaDoorXx5
import Derived.Test.YtkogmefbmedceaaDoorXx8
import Derived.Test.YtkogmefbmedceaaDoorXx10
namespace Go.Proofs.YtkogmefbmedceaaDoor.Q
open Go.RowKit Go.Proofs.YtkogmefbmedceaaDoor.X Go.Proofs.YtkogmefbmedceaaDoorW.PrintWords Go.Proofs.YtkogmefbmedceaaDoorW.PrintLast Go.Proofs.YtkogmefbmedceaaDoorW.PrintMore
set_option linter.unusedVariables false
set_option linter.unusedSimpArgs false

/-- A chord's text. -/
def ct (c : S33) : ByteArray := (nt c.f0 ++ (⟨#[45]⟩ : ByteArray)) ++ nt c.f1
theorem lit1 (b : UInt8) : (⟨#[b]⟩ : ByteArray).size = 1 := rfl
theorem ct_size (c : S33) : (ct c).size ≤ 5 := by
  unfold ct
  have h1 := nt_size c.f0
  have h2 := nt_size c.f1
  rw [ByteArray.size_append, ByteArray.size_append, lit1]
  omega
def joinB (l : List S33) : List UInt8 := Lib.join ((l.map ct).map (·.data.toList)) [44]
theorem joinB_snoc (l : List S33) (x : S33) : joinB (l ++ [x]) = joinB l ++ (if l = [] then [] else [44]) ++ (ct x).data.toList := by
  unfold joinB
  cases l with
  | nil => simp [Lib.join_nil, Lib.join_one]
  | cons y l =>
    rw [if_neg (by simp)]
    simp only [List.cons_append, List.map_cons, List.map_append, List.map_nil, Lib.join_cons, Lib.joinTail, List.flatten_append, List.flatten_cons, List.flatten_nil, List.append_nil, List.append_assoc]
theorem tail_len : ∀ l : List S33, (Lib.joinTail [44] ((l.map ct).map (·.data.toList))).length ≤ 6 * l.length
  | [] => by simp [Lib.joinTail]
  | x :: l => by
    have ih := tail_len l
    have h := ct_size x
    have h2 : (ct x).data.toList.length = (ct x).size := by simp
    have e : Lib.joinTail [44] (((x :: l).map ct).map (·.data.toList)) = ([44] ++ (ct x).data.toList) ++ Lib.joinTail [44] ((l.map ct).map (·.data.toList)) := by simp [Lib.joinTail]
    rw [e, List.length_append, List.length_append, h2]
    simp only [List.length_cons, List.length_nil]
    omega
theorem joinB_len : ∀ (l : List S33) , (joinB l).length ≤ 6 * l.length
  | [] => by simp [joinB, Lib.join_nil]
  | x :: l => by
    have ih := tail_len l
    have h := ct_size x
    have h2 : (ct x).data.toList.length = (ct x).size := by simp
    unfold joinB
    rw [List.map_cons, List.map_cons, Lib.join_cons, List.length_append, h2, List.length_cons]
    omega
/-- The text of the chords so far. -/
def jb (l : List S33) : ByteArray := ⟨(joinB l).toArray⟩
theorem jb_size (l : List S33) : (jb l).size ≤ 6 * l.length := by
  show (joinB l).toArray.size ≤ _
  rw [List.size_toArray]
  exact joinB_len l
theorem jb_first (x : S33) : jb [x] = jb [] ++ ct x := by
  apply ByteArray.ext
  apply Array.toList_inj.1
  rw [ByteArray.data_append, Array.toList_append]
  have := joinB_snoc [] x
  simp only [List.nil_append, if_true] at this
  show joinB [x] = (joinB []) ++ _
  rw [this]
  simp
theorem jb_next (l : List S33) (x : S33) (h : l ≠ []) : jb (l ++ [x]) = (jb l ++ (⟨#[44]⟩ : ByteArray)) ++ ct x := by
  apply ByteArray.ext
  apply Array.toList_inj.1
  rw [ByteArray.data_append, ByteArray.data_append, Array.toList_append, Array.toList_append]
  show joinB (l ++ [x]) = (joinB l ++ [44]) ++ _
  rw [joinB_snoc, if_neg h]
theorem cdText_loop (l : List S33) (hl : l.length ≤ 1000) (hP : ∀ x ∈ l, Proper 60 x) (m : List S33) : ∀ (k : Nat) (pre : List S33), pre ++ m = l → m.length + 20 < k →
    spec_cdText.l0 k (jb pre) l (l.length : Int) (pre.length : Int) = some (jb l) := by
  induction m with
  | nil =>
    intro k pre e hk
    obtain ⟨k, rfl⟩ : ∃ t, k = t + 1 := ⟨k - 1, by omega⟩
    rw [List.append_nil] at e
    subst e
    simp only [spec_cdText.l0]
    rw [if_neg (by omega)]
  | cons x m ih =>
    intro k pre e hk
    obtain ⟨k, rfl⟩ : ∃ t, k = t + 1 := ⟨k - 1, by omega⟩
    simp only [List.length_cons] at hk
    have hlen : (l.length : Int) = pre.length + m.length + 1 := by rw [← e]; simp; omega
    have hx : rd_T33 l (pre.length : Int) = x := by rw [← e]; exact rdC_append pre m x
    have hp := hP x (by rw [← e]; simp)
    unfold Proper at hp
    have n1 := num_eq x.f0 (by omega) k (by omega)
    have n2 := num_eq x.f1 (by omega) k (by omega)
    have s1 := nt_size x.f0
    have s2 := nt_size x.f1
    have sj := jb_size pre
    have IH := ih k (pre ++ [x]) (by simpa using e) (by omega)
    rw [show (((pre ++ [x]).length : Nat) : Int) = (pre.length : Int) + 1 by simp] at IH
    have g1 : (pre.length : Int) < (l.length : Int) := by omega
    have g2 : (0 : Int) ≤ (pre.length : Int) := by omega
    have g3 : (nt x.f0).size + 1 ≤ 9223372036854775807 := by omega
    have g4 : (nt x.f0 ++ (⟨#[45]⟩ : ByteArray)).size + (nt x.f1).size ≤ 9223372036854775807 := by rw [ByteArray.size_append, lit1]; omega
    have hw := Aside0.mk (show wrap64 ((pre.length : Int) + 1) = (pre.length : Int) + 1 from wrap64_id (by omega) (by omega))
    have hcs := ct_size x
    have hct : (nt x.f0 ++ (⟨#[45]⟩ : ByteArray)) ++ nt x.f1 = ct x := rfl
    simp only [spec_cdText.l0]
    rw [if_pos g1, if_pos g2, if_pos g1, hx]
    by_cases hpre : pre = []
    · subst hpre
      rw [if_neg (by simp), n1]
      simp only [Option.bind_some]
      rw [if_pos g3, n2]
      simp only [Option.bind_some]
      have g6 : (jb []).size + (ct x).size ≤ 9223372036854775807 := by omega
      rw [if_pos g4, hct, if_pos g6, hw.out, ← jb_first]
      exact IH
    · have g0 : (pre.length : Int) > 0 := by
        have : 0 < pre.length := List.length_pos_iff.2 hpre
        omega
      have g5 : (jb pre).size + 1 ≤ 9223372036854775807 := by omega
      have g6 : (jb pre ++ (⟨#[44]⟩ : ByteArray)).size + (ct x).size ≤ 9223372036854775807 := by rw [ByteArray.size_append, lit1]; omega
      rw [if_pos g0, if_pos g5, n1]
      simp only [Option.bind_some]
      rw [if_pos g3, n2]
      simp only [Option.bind_some]
      rw [if_pos g4, hct, if_pos g6, hw.out, ← jb_next pre x hpre]
      exact IH
theorem implText_loop (l : List S33) (hl : l.length ≤ 1000) (hP : ∀ x ∈ l, Proper 60 x) (m : List S33) : ∀ (k : Nat) (pre : List S33), pre ++ m = l → m.length + 20 < k →
    impl_ChordsText.l0 k (pre.map ct) l (l.length : Int) (pre.length : Int) = some (jb l, true) := by
  induction m with
  | nil =>
    intro k pre e hk
    obtain ⟨k, rfl⟩ : ∃ t, k = t + 1 := ⟨k - 1, by omega⟩
    rw [List.append_nil] at e
    subst e
    simp only [impl_ChordsText.l0]
    rw [if_neg (by omega)]
    unfold strings_Join.f
    have hj := joinB_len pre
    rw [if_pos ⟨by simpa using hl, by
      show (joinB pre).length ≤ 1000000
      omega⟩]
    rfl
  | cons x m ih =>
    intro k pre e hk
    obtain ⟨k, rfl⟩ : ∃ t, k = t + 1 := ⟨k - 1, by omega⟩
    simp only [List.length_cons] at hk
    have hlen : (l.length : Int) = pre.length + m.length + 1 := by rw [← e]; simp; omega
    have hx : rd_T33 l (pre.length : Int) = x := by rw [← e]; exact rdC_append pre m x
    have hp := hP x (by rw [← e]; simp)
    unfold Proper at hp
    have n1 := itoa_eq x.f0 (by omega)
    have n2 := itoa_eq x.f1 (by omega)
    have s1 := nt_size x.f0
    have s2 := nt_size x.f1
    have IH := ih k (pre ++ [x]) (by simpa using e) (by omega)
    rw [show (((pre ++ [x]).length : Nat) : Int) = (pre.length : Int) + 1 by simp, List.map_append, List.map_singleton] at IH
    have g1 : (pre.length : Int) < (l.length : Int) := by omega
    have g2 : (0 : Int) ≤ (pre.length : Int) := by omega
    have g3 : (nt x.f0).size + 1 ≤ 9223372036854775807 := by omega
    have g4 : (nt x.f0 ++ (⟨#[45]⟩ : ByteArray)).size + (nt x.f1).size ≤ 9223372036854775807 := by rw [ByteArray.size_append, lit1]; omega
    have g5 : (pre.map ct).length < 8796093022208 := by simp; omega
    have hw := Aside0.mk (show wrap64 ((pre.length : Int) + 1) = (pre.length : Int) + 1 from wrap64_id (by omega) (by omega))
    have hct : (nt x.f0 ++ (⟨#[45]⟩ : ByteArray)) ++ nt x.f1 = ct x := rfl
    simp only [impl_ChordsText.l0]
    rw [if_pos g1, if_pos g2, if_pos g1, hx, n1]
    simp only [Option.bind_some]
    rw [if_pos g3, n2]
    simp only [Option.bind_some]
    rw [if_pos g4, hct, if_pos g5, hw.out]
    exact IH
theorem chordsText_both (l : List S33) (hl : l.length ≤ 1048576) : ∃ r : ByteArray × Bool, ∀ k, l.length + 1000 ≤ k → spec_ChordsText.f k l = some r ∧ impl_ChordsText.f k l = some r := by
  by_cases h : goodB 60 l = true
  · obtain ⟨h1, h2, h3, h4⟩ := good_spec 60 l h
    refine ⟨(jb l, true), fun k hk => ?_⟩
    have e1 : spec_cdText.l0 k ⟨#[]⟩ l (l.length : Int) 0 = some (jb l) := cdText_loop l (by omega) h4 l k [] rfl (by omega)
    have e2 : impl_ChordsText.l0 k [] l (l.length : Int) 0 = some (jb l, true) := implText_loop l (by omega) h4 l k [] rfl (by omega)
    unfold spec_ChordsText.f impl_ChordsText.f spec_cdText.f
    simp only [cdGood_eq 60 l (by omega) k (by omega), areChords_eq 60 l (by omega) k (by omega), Option.bind_some, if_pos h, e1, e2]
    exact ⟨trivial, trivial⟩
  · refine ⟨(⟨#[]⟩, false), fun k hk => ?_⟩
    unfold spec_ChordsText.f impl_ChordsText.f
    simp only [cdGood_eq 60 l (by omega) k (by omega), areChords_eq 60 l (by omega) k (by omega), Option.bind_some, if_neg h]
    exact ⟨trivial, trivial⟩
theorem FnExactChordsText : ∀ (l0 : List S35), l0.length ≤ 9223372036854775807 → ∃ k, laws_FnExactChordsText.f k l0 = some true := by
  intro l hl
  refine ⟨l.length + 1001, ?_⟩
  unfold laws_FnExactChordsText.f
  rw [szChordS_eq l hl]
  simp only [Option.bind_some]
  by_cases h : l.length ≤ 1048576
  · have hc := conv_len l
    rw [if_pos h, if_neg (by omega)]
    obtain ⟨⟨r, b⟩, hr⟩ := chordsText_both (conv l) (by omega)
    simp only [toChordS_eq l (by omega) (l.length + 1001) (by omega), (hr (l.length + 1001) (by omega)).1, (hr (l.length + 1001) (by omega)).2, Option.bind_some]
    simp only [bne_self_eq_false, if_true, laws_FnExactChordsText.j0, Bool.false_eq_true, if_false, toChordS_eq l (by omega) (l.length + 1000) (by omega), eqChordS_self (l.length + 1000) (conv l) (by omega) (by omega), Option.bind_some]
  · rw [if_neg h]
    rfl

end Go.Proofs.YtkogmefbmedceaaDoor.Q
