/- ParseStar: reference and program read the same stars. -/
import Derived.Test.YtceoaondcnhaeaaDoorBStar
import Derived.Test.YtceoaondcnhaeaaDoorBRead
import Derived.Test.YtceoaondcnhaeaaDoorBCut
import Derived.Test.YtceoaondcnhaeaaDoorBSplitR
import Derived.Test.YtceoaondcnhaeaaDoorXx12
import Derived.Test.YtceoaondcnhaeaaDoorXx13
import Derived.Test.YtceoaondcnhaeaaDoorXx14
import Derived.Test.YtceoaondcnhaeaaDoorXx15
namespace Go.Proofs.YtceoaondcnhaeaaDoor.Q
open Go.RowKit Go.Proofs.YtceoaondcnhaeaaDoor.X Go.Proofs.YtceoaondcnhaeaaDoorW.PrintWords Go.Proofs.YtceoaondcnhaeaaDoorW.PrintLast Go.Proofs.YtceoaondcnhaeaaDoorW.PrintMore
set_option linter.unusedVariables false
set_option linter.unusedSimpArgs false

/-- What the middle of the text tells: two numbers with one slash between. -/
theorem nt_min (n : Nat) : 1 ≤ (dd n).length := by unfold dd; split <;> simp
theorem dd_clean : ∀ n : Nat, n < 100 → (dd n).count 47 = 0 := by decide +kernel
theorem numV_nil : numV [] = -1 := rfl
theorem num_f (l : List UInt8) (h : l.length ≤ 1000000) : impl_number.f (mkB l) = some (numV l) := by
  unfold impl_number.f
  rw [if_pos (by rw [mkB_size]; omega), mkB_data]
/-- The star that a text tells. -/
def starV (l : List UInt8) : Int × Int × Bool := match l with
  | [] => (0, 0, false)
  | b :: r => if b = 123 ∧ r.getLast? = some 125 then (match splitL 47 r.dropLast with
      | [x, y] => if isStar (numV x) (numV y) then (numV x, numV y, true) else (0, 0, false)
      | _ => (0, 0, false)) else (0, 0, false)
theorem star_small (x y : List UInt8) (h : isStar (numV x) (numV y)) : (∃ p : Nat, p < 100 ∧ x = dd p) ∧ ∃ q : Nat, q < 100 ∧ y = dd q := by
  unfold isStar at h
  exact ⟨⟨(numV x).toNat, by omega, numV_dd x _ (by omega) rfl⟩, ⟨(numV y).toNat, by omega, numV_dd y _ (by omega) rfl⟩⟩
theorem star_same (x y : List UInt8) : isStar (readV x) (readV y) ↔ isStar (numV x) (numV y) := by
  unfold isStar
  constructor
  · intro h
    have h1 := (read_num x (readV x) (by omega)).1 rfl
    have h2 := (read_num y (readV y) (by omega)).1 rfl
    rw [h1, h2]; exact h
  · intro h
    have h1 := (read_num x (numV x) (by omega)).2 rfl
    have h2 := (read_num y (numV y) (by omega)).2 rfl
    rw [h1, h2]; exact h
theorem impl_parse (s : ByteArray) (hs : s.size ≤ 1048576) : impl_ParseStar.f s = some (starV s.data.toList) := by
  have hn : ∀ t : ByteArray, t.size ≤ 1000000000 → impl_number.f t = some (numV t.data.toList) := fun t ht => by unfold impl_number.f; rw [if_pos (by omega)]
  unfold impl_ParseStar.f
  by_cases h1 : s.data.toList.head? = some 123
  · obtain ⟨r, hr⟩ : ∃ r, s.data.toList = 123 :: r := by
      cases hd : s.data.toList with
      | nil => rw [hd] at h1; simp at h1
      | cons x l => rw [hd] at h1; simp at h1; subst h1; exact ⟨l, rfl⟩
    have hl : s.size = r.length + 1 := by rw [← len_data, hr]; rfl
    rw [cutPrefix_yes s 123 r hr (by omega)]
    simp only [Option.bind_some]
    by_cases h2 : r.getLast? = some 125
    · obtain ⟨m, hm⟩ : ∃ m, r = m ++ [125] := by
        rcases List.eq_nil_or_concat r with e | ⟨l, x, e⟩
        · rw [e] at h2; simp at h2
        · rw [List.concat_eq_append] at e
          rw [e] at h2
          simp at h2
          exact ⟨l, by rw [e, h2]⟩
      have hml : m.length ≤ 1048576 := by rw [hm] at hl; simp at hl; omega
      rw [cutSuffix_yes (mkB r) 125 m (by rw [mkB_data]; exact hm) (by rw [mkB_size]; omega)]
      simp only [Option.bind_some]
      have hV : starV s.data.toList = (match splitL 47 m with
        | [x, y] => if isStar (numV x) (numV y) then (numV x, numV y, true) else (0, 0, false)
        | _ => (0, 0, false)) := by
        rw [hr]
        simp only [starV]
        rw [if_pos ⟨trivial, h2⟩, hm, List.dropLast_concat]
      rw [hV]
      rcases indexByte_cases 47 m with ⟨c1, _⟩ | ⟨a, b, c1, c2, _⟩
      · rw [cut_no (mkB m) 47 (by rw [mkB_data]; exact c1), splitL_none 47 m c1]
        simp only [Option.bind_some]
        rw [hn _ (by rw [mkB_size]; omega), show impl_number.f ⟨#[]⟩ = some (-1) from rfl]
        simp only [Option.bind_some]
        rw [implIsStar_eq, decide_eq_false (fun h => by unfold isStar at h; omega)]
        simp
      · have hal : m.length = a.length + (b.length + 1) := by rw [c1]; simp
        rw [cut_yes (mkB m) 47 a b (by rw [mkB_data]; exact c1) c2 (by rw [mkB_size]; omega)]
        simp only [Option.bind_some]
        rw [hn _ (by rw [mkB_size]; omega), hn _ (by rw [mkB_size]; omega), mkB_data, mkB_data]
        simp only [Option.bind_some, if_true]
        rw [implIsStar_eq, c1, splitL_at 47 a b c2]
        simp only [Option.bind_some]
        by_cases hst : isStar (numV a) (numV b)
        · obtain ⟨_, q, hq, e⟩ := star_small a b hst
          have hb0 : b.count 47 = 0 := by rw [e]; exact dd_clean q hq
          rw [decide_eq_true hst, splitL_none 47 b hb0]
          simp only [if_true]
          rw [if_pos hst]
        · rw [decide_eq_false hst]
          simp only [Bool.false_eq_true, if_false]
          cases hsp : splitL 47 b with
          | nil => rfl
          | cons q qs =>
            cases qs with
            | cons _ _ => rfl
            | nil =>
              have hq : q = b := by
                have hc := splitL_len 47 b
                rw [hsp] at hc
                have h0 : b.count 47 = 0 := by simpa using hc.symm
                have := splitL_none 47 b h0
                rw [hsp] at this
                injection this
              subst hq
              simp only
              rw [if_neg hst]
    · rw [cutSuffix_no (mkB r) 125 (by rw [mkB_data]; exact h2) (by rw [mkB_size]; omega)]
      simp only [Option.bind_some]
      have hV : starV s.data.toList = (0, 0, false) := by
        rw [hr]
        simp only [starV]
        rw [if_neg (fun q => h2 q.2)]
      rw [hV]
      rcases indexByte_cases 47 r with ⟨c1, _⟩ | ⟨a, b, c1, c2, _⟩
      · rw [cut_no (mkB r) 47 (by rw [mkB_data]; exact c1)]
        simp only [Option.bind_some]
        rw [hn _ (by rw [mkB_size]; omega), show impl_number.f ⟨#[]⟩ = some (-1) from rfl]
        simp only [Option.bind_some]
        rw [implIsStar_eq]
        simp
      · have hal : r.length = a.length + (b.length + 1) := by rw [c1]; simp
        rw [cut_yes (mkB r) 47 a b (by rw [mkB_data]; exact c1) c2 (by rw [mkB_size]; omega)]
        simp only [Option.bind_some]
        rw [hn _ (by rw [mkB_size]; omega), hn _ (by rw [mkB_size]; omega)]
        simp only [Option.bind_some]
        rw [implIsStar_eq]
        simp
  · rw [cutPrefix_no s 123 h1 (by omega)]
    simp only [Option.bind_some]
    have hV : starV s.data.toList = (0, 0, false) := by
      cases hd : s.data.toList with
      | nil => rfl
      | cons x l =>
        rw [hd] at h1
        simp only [starV]
        rw [if_neg (fun q => h1 (by rw [q.1]; rfl))]
    rw [hV]
    have hsuf : ∃ t : ByteArray × Bool, strings_CutSuffix.f s ⟨#[125]⟩ = some t ∧ t.1.size ≤ 1048576 := by
      by_cases h2 : s.data.toList.getLast? = some 125
      · rcases List.eq_nil_or_concat s.data.toList with e | ⟨l, x, e⟩
        · rw [e] at h2; simp at h2
        · rw [List.concat_eq_append] at e
          have h3 := h2
          rw [e] at h3
          simp at h3
          have hl := len_data s
          rw [e] at hl
          simp at hl
          exact ⟨_, cutSuffix_yes s 125 l (by rw [e, h3]) (by omega), by simp only; rw [mkB_size]; omega⟩
      · exact ⟨_, cutSuffix_no s 125 h2 (by omega), hs⟩
    obtain ⟨⟨t, tb⟩, ht, hts⟩ := hsuf
    rw [ht]
    simp only [Option.bind_some]
    simp only at hts
    rcases indexByte_cases 47 t.data.toList with ⟨c1, _⟩ | ⟨a, b, c1, c2, _⟩
    · rw [cut_no t 47 c1]
      simp only [Option.bind_some]
      rw [hn _ (by omega), show impl_number.f ⟨#[]⟩ = some (-1) from rfl]
      simp only [Option.bind_some]
      rw [implIsStar_eq]
      simp
    · have hal : t.size = a.length + (b.length + 1) := by rw [← len_data, c1]; simp
      rw [cut_yes t 47 a b c1 c2 (by omega)]
      simp only [Option.bind_some]
      rw [hn _ (by rw [mkB_size]; omega), hn _ (by rw [mkB_size]; omega)]
      simp only [Option.bind_some]
      rw [implIsStar_eq]
      simp
theorem splitL_two (c : UInt8) (l x y : List UInt8) (h : splitL c l = [x, y]) : l = x ++ c :: y ∧ y.count c = 0 := by
  rcases indexByte_cases c l with ⟨c1, _⟩ | ⟨a, b, c1, c2, _⟩
  · rw [splitL_none c l c1] at h
    simp at h
  · rw [c1, splitL_at c a b c2] at h
    injection h with e1 e2
    have hc := splitL_len c b
    rw [e2] at hc
    have h0 : b.count c = 0 := by simpa using hc.symm
    have := splitL_none c b h0
    rw [e2] at this
    injection this with e3
    subst e1; subst e3
    exact ⟨c1, h0⟩
theorem starV_len (l : List UInt8) : (5 ≤ l.length ∧ l.length ≤ 7) ∨ starV l = (0, 0, false) := by
  cases l with
  | nil => exact .inr rfl
  | cons b r =>
    by_cases h : b = 123 ∧ r.getLast? = some 125
    · have hne : r ≠ [] := fun e => by rw [e] at h; simp at h
      have hdl : r.dropLast.length = r.length - 1 := by simp
      have hpos : 0 < r.length := List.length_pos_iff.2 hne
      simp only [starV]
      rw [if_pos h]
      split
      · rename_i x y hsp
        split
        · rename_i hst
          left
          obtain ⟨⟨p, hp, ex⟩, q, hq, ey⟩ := star_small x y hst
          obtain ⟨e, _⟩ := splitL_two 47 _ x y hsp
          have hl := congrArg List.length e
          rw [List.length_append, List.length_cons] at hl
          have l1 := dd_len p
          have l2 := dd_len q
          have l3 := nt_min p
          have l4 := nt_min q
          rw [← ex] at l1 l3
          rw [← ey] at l2 l4
          rw [List.length_cons]
          omega
        · exact .inr rfl
      · exact .inr rfl
    · right
      simp only [starV]
      rw [if_neg h]
theorem spec_parse (s : ByteArray) (hs : s.size ≤ 1048576) (k : Nat) (hk : 60 ≤ k) : spec_ParseStar.f k s = some (starV s.data.toList) := by
  obtain ⟨k, rfl⟩ : ∃ t, k = t + 1 := ⟨k - 1, by omega⟩
  have hfin : ∀ r : Int × Int × Bool, spec_srParse.f (k + 1) s = some r → spec_ParseStar.f (k + 1) s = some r := fun r h => by
    unfold spec_ParseStar.f
    rw [h]
    rfl
  refine hfin _ ?_
  unfold spec_srParse.f
  rw [l1In_eq]
  simp only [Option.bind_some]
  by_cases h57 : 5 ≤ s.size ∧ s.size ≤ 7
  · rw [if_pos (decide_eq_true (by omega)), if_pos (by omega)]
    obtain ⟨b, r, hr⟩ : ∃ b r, s.data.toList = b :: r := by
      cases hd : s.data.toList with
      | nil => have := len_data s; rw [hd] at this; simp at this; omega
      | cons x l => exact ⟨x, l, rfl⟩
    have hl : s.size = r.length + 1 := by rw [← len_data, hr]; rfl
    have hb0 : bt s 0 = (b.toNat : Int) := by
      have := bt_get s 0 (by omega)
      simp only [hr, List.getElem_cons_zero] at this
      exact this
    obtain ⟨m, z, hm⟩ : ∃ m z, r = m ++ [z] := by
      rcases List.eq_nil_or_concat r with e | ⟨l, x, e⟩
      · rw [e] at hl; simp at hl; omega
      · rw [List.concat_eq_append] at e; exact ⟨l, x, e⟩
    have hml : r.length = m.length + 1 := by rw [hm]; simp
    have e0 : (s.size : Int) - 1 = ((m.length + 1 : Nat) : Int) := by omega
    have hbz : bt s ((m.length + 1 : Nat) : Int) = (z.toNat : Int) := by
      have := bt_get s (m.length + 1) (by omega)
      rw [this]
      congr 2
      simp only [hr, hm, List.getElem_cons_succ]
      rw [List.getElem_append_right (Nat.le_refl _)]
      simp
    rw [hb0]
    by_cases hb : b = 123
    · subst hb
      rw [if_pos (by decide), e0, wrap64_id (x := ((m.length + 1 : Nat) : Int)) (by omega) (by omega), if_pos (by omega), if_pos (by omega), hbz]
      simp only [spec_srParse.j0]
      by_cases hz : z = 125
      · subst hz
        have hV : starV s.data.toList = (match splitL 47 m with
          | [x, y] => if isStar (numV x) (numV y) then (numV x, numV y, true) else (0, 0, false)
          | _ => (0, 0, false)) := by
          rw [hr]
          simp only [starV]
          rw [if_pos ⟨trivial, by rw [hm]; simp⟩, hm, List.dropLast_concat]
        have ex : s.extract 1 (m.length + 1) = mkB m := by
          rw [mkB_extract s 1 (m.length + 1) (by omega), hr, hm]
          simp
        rw [if_neg (by decide), e0, wrap64_id (x := ((m.length + 1 : Nat) : Int)) (by omega) (by omega), if_pos (by omega), if_pos (by omega), Int.toNat_natCast, ex, show (47 : Int) = ((47 : UInt8).toNat : Int) from rfl, l1Split_eq (mkB m) 47 (by rw [mkB_size]; omega) k (by rw [mkB_size]; omega), mkB_data, hV]
        simp only [Option.bind_some]
        cases hsp : splitL 47 m with
        | nil => exact absurd hsp (splitL_ne 47 m)
        | cons x xs =>
          cases xs with
          | nil => rw [if_neg (by simp)]
          | cons y ys =>
            cases ys with
            | cons u us => rw [if_neg (by simp; omega)]
            | nil =>
              obtain ⟨e, _⟩ := splitL_two 47 m x y hsp
              have hxy : m.length = x.length + (y.length + 1) := by rw [e]; simp
              rw [if_pos (by simp), if_pos (by simp)]
              have g0 : rdOf ByteArray.empty ([x, y].map mkB) 0 = mkB x := rfl
              have g1 : rdOf ByteArray.empty ([x, y].map mkB) 1 = mkB y := rfl
              rw [g0, g1, l1Read_eq (mkB x) (by rw [mkB_size]; omega) k (by omega), l1Read_eq (mkB y) (by rw [mkB_size]; omega) k (by omega), mkB_data, mkB_data]
              simp only [Option.bind_some]
              rw [if_pos (by simp), srGood_eq]
              simp only [Option.bind_some]
              by_cases hst : isStar (readV x) (readV y)
              · have hst2 := (star_same x y).1 hst
                have h1 := (read_num x (readV x) (by unfold isStar at hst; omega)).1 rfl
                have h2 := (read_num y (readV y) (by unfold isStar at hst; omega)).1 rfl
                rw [if_pos (decide_eq_true hst), if_pos hst2, h1, h2]
              · have hst2 : ¬ isStar (numV x) (numV y) := fun h => hst ((star_same x y).2 h)
                rw [if_neg (by simpa using hst), if_neg hst2]
      · have hzb : ((z.toNat : Int) != 125) = true := by
          have : ¬ (z.toNat : Int) = 125 := fun e => hz ((u8_eq z 125 (by omega)).1 e)
          simpa using this
        rw [hzb, if_pos rfl, hr]
        simp only [starV]
        rw [if_neg (fun q => hz (by have h := q.2; rw [hm] at h; simpa using h))]
    · have hbb : ¬ (b.toNat : Int) = 123 := fun e => hb ((u8_eq b 123 (by omega)).1 e)
      rw [if_neg hbb]
      simp only [spec_srParse.j0]
      rw [if_pos trivial, hr]
      simp only [starV]
      rw [if_neg (fun q => hb q.1)]
  · rw [if_neg (by simp; omega)]
    simp only [spec_srParse.j0]
    rcases starV_len s.data.toList with h | h
    · rw [len_data] at h; exact absurd h h57
    · rw [h]; rfl
theorem FnExactParseStar : ∀ (a0 : ByteArray), a0.size ≤ 140737488351232 → ∃ k, laws_FnExactParseStar.f k a0 = some true := by
  intro s _
  refine ⟨100, ?_⟩
  unfold laws_FnExactParseStar.f
  by_cases h : s.size ≤ 1048576
  · rw [if_pos h, spec_parse s h 100 (by omega), impl_parse s h]
    simp
  · rw [if_neg h]

end Go.Proofs.YtceoaondcnhaeaaDoor.Q
