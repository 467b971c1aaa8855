/- ShortWord: reference and program leave the same turns between the steps. -/
import Derived.Lib.Join
import Derived.Test.YtceoaondcnhaeaaDoorBWord
import Derived.Test.YtceoaondcnhaeaaDoorBTimes
import Derived.Test.YtceoaondcnhaeaaDoorBSplit
import Derived.Test.YtceoaondcnhaeaaDoorXx8
import Derived.Test.YtceoaondcnhaeaaDoorXx9
import Derived.Test.YtceoaondcnhaeaaDoorXx10
import Derived.Test.YtceoaondcnhaeaaDoorXx11
namespace Go.Proofs.YtceoaondcnhaeaaDoor.Q
open Go.RowKit Go.Proofs.YtceoaondcnhaeaaDoor.X Go.Proofs.YtceoaondcnhaeaaDoorW.PrintWords Go.Proofs.YtceoaondcnhaeaaDoorW.PrintLast Go.Proofs.YtceoaondcnhaeaaDoorW.PrintMore
set_option linter.unusedVariables false
set_option linter.unusedSimpArgs false

/-- The sign of the turns that are left, as often as they are left. -/
def segT (g t : Int) : List UInt8 := if t > 0 then List.replicate (t % g).toNat 76 else List.replicate ((-t) % g).toNat 82
/-- The word from here on, t turns being made behind the last step. -/
def render (g : Int) : Int → List UInt8 → List UInt8
  | t, [] => segT g t
  | t, b :: l => if b = 76 then render g (t + 1) l else if b = 82 then render g (t - 1) l else segT g t ++ 70 :: render g 0 l
def turnsP (p : List UInt8) : Int := (p.count 76 : Int) - (p.count 82 : Int)
def joinT (g t : Int) : List (List UInt8) → List UInt8
  | [] => []
  | [p] => segT g (t + turnsP p)
  | p :: q :: ps => segT g (t + turnsP p) ++ 70 :: joinT g 0 (q :: ps)
theorem joinT_cons (g t : Int) (b : UInt8) (p : List UInt8) (ps : List (List UInt8)) (d : Int) (hd : turnsP (b :: p) = turnsP p + d) : joinT g t ((b :: p) :: ps) = joinT g (t + d) (p :: ps) := by
  cases ps with
  | nil => simp only [joinT]; rw [hd, show t + (turnsP p + d) = t + d + turnsP p by omega]
  | cons q qs => simp only [joinT]; rw [hd, show t + (turnsP p + d) = t + d + turnsP p by omega]
theorem joinT_render (g : Int) : ∀ (l : List UInt8) (t : Int), (∀ b ∈ l, okB b = true) → joinT g t (splitL 70 l) = render g t l
  | [], t, _ => by simp [splitL, joinT, render, turnsP]
  | b :: l, t, h => by
    have hb := h b (by simp)
    have hl := fun x hx => h x (List.mem_cons_of_mem b hx)
    unfold okB at hb
    simp only [Bool.or_eq_true, beq_iff_eq] at hb
    rcases hb with (rfl | rfl) | rfl
    · rw [splitL, if_pos rfl]
      cases hs : splitL 70 l with
      | nil => exact absurd hs (splitL_ne 70 l)
      | cons q ps =>
        simp only [joinT, render]
        rw [if_neg (by decide), if_neg (by decide), ← joinT_render g l 0 hl, hs]
        simp [turnsP]
    · rw [splitL, if_neg (by decide)]
      cases hs : splitL 70 l with
      | nil => exact absurd hs (splitL_ne 70 l)
      | cons q ps =>
        have ih := joinT_render g l (t + 1) hl
        rw [hs] at ih
        simp only [render, if_true]
        rw [← ih]
        exact joinT_cons g t 76 q ps 1 (by unfold turnsP; rw [List.count_cons_self, List.count_cons_of_ne (by decide)]; omega)
    · rw [splitL, if_neg (by decide)]
      cases hs : splitL 70 l with
      | nil => exact absurd hs (splitL_ne 70 l)
      | cons q ps =>
        have ih := joinT_render g l (t - 1) hl
        rw [hs] at ih
        simp only [render]
        rw [if_neg (by decide), if_pos trivial, ← ih]
        exact joinT_cons g t 82 q ps (-1) (by unfold turnsP; rw [List.count_cons_self, List.count_cons_of_ne (by decide)]; omega)
theorem rep_one (b : UInt8) (n : Nat) : rep ⟨#[b]⟩ n = mkB (List.replicate n b) := by
  unfold rep mkB
  congr 2
  induction n with
  | zero => rfl
  | succ n ih => simp only [Lib.repeatL, List.replicate_succ]; rw [ih]; rfl
theorem segT_len (g t : Int) (hg : g = 4 ∨ g = 6) : (segT g t).length ≤ 5 := by
  unfold segT
  have h1 := Int.emod_nonneg t (show g ≠ 0 by omega)
  have h2 := Int.emod_lt_of_pos t (show 0 < g by omega)
  have h3 := Int.emod_nonneg (-t) (show g ≠ 0 by omega)
  have h4 := Int.emod_lt_of_pos (-t) (show 0 < g by omega)
  split <;> (rw [List.length_replicate]; omega)
theorem render_len (g : Int) (hg : g = 4 ∨ g = 6) : ∀ (l : List UInt8) (t : Int), (render g t l).length ≤ 6 * l.length + 5
  | [], t => by simpa [render] using segT_len g t hg
  | b :: l, t => by
    simp only [render, List.length_cons]
    have h1 := render_len g hg l (t + 1)
    have h2 := render_len g hg l (t - 1)
    have h3 := render_len g hg l 0
    have h4 := segT_len g t hg
    split
    · omega
    · split
      · omega
      · simp only [List.length_append, List.length_cons]; omega
theorem mkB_app (a b : List UInt8) : mkB a ++ mkB b = mkB (a ++ b) := by
  refine ByteArray.ext ?_
  apply Array.toList_inj.1
  simp [mkB, ByteArray.data_append]
theorem app_mkB (o : ByteArray) (b : List UInt8) : o ++ mkB b = mkB (o.data.toList ++ b) := by
  conv => lhs; rw [← mkB_of o]
  exact mkB_app _ _
theorem seg_pos (g t : Int) (hg : g = 4 ∨ g = 6) (ht : t > 0) (ht2 : t ≤ 1000) (k : Nat) (hk : 6 < k) : spec_paTimes.f k ⟨#[76]⟩ (Int.tmod t g) = some (mkB (segT g t)) := by
  have h1 := Int.emod_nonneg t (show g ≠ 0 by omega)
  have h2 := Int.emod_lt_of_pos t (show 0 < g by omega)
  rw [Int.tmod_eq_emod_of_nonneg (by omega)]
  obtain ⟨n, hn⟩ : ∃ n : Nat, t % g = (n : Int) := ⟨(t % g).toNat, by omega⟩
  unfold segT
  rw [if_pos ht, hn, timesW_eq ⟨#[76]⟩ n (by omega) (by show 1 * n ≤ _; omega) k (by omega), rep_one, Int.toNat_natCast]
theorem seg_neg (g t : Int) (hg : g = 4 ∨ g = 6) (ht : ¬ t > 0) (ht2 : -1000 ≤ t) (k : Nat) (hk : 6 < k) : spec_paTimes.f k ⟨#[82]⟩ (Int.tmod (wrap64 (-t)) g) = some (mkB (segT g t)) := by
  have h1 := Int.emod_nonneg (-t) (show g ≠ 0 by omega)
  have h2 := Int.emod_lt_of_pos (-t) (show 0 < g by omega)
  rw [wrap64_id (by omega) (by omega), Int.tmod_eq_emod_of_nonneg (by omega)]
  obtain ⟨n, hn⟩ : ∃ n : Nat, (-t) % g = (n : Int) := ⟨((-t) % g).toNat, by omega⟩
  unfold segT
  rw [if_neg ht, hn, timesW_eq ⟨#[82]⟩ n (by omega) (by show 1 * n ≤ _; omega) k (by omega), rep_one, Int.toNat_natCast]
theorem j2_end (g : Int) (w out : ByteArray) (t x : Int) (hg : g = 4 ∨ g = 6) (h1 : -1000 ≤ t) (h2 : t ≤ 1000) (ho : out.size ≤ 100000) (k : Nat) (hk : 6 < k) :
    spec_ShortWord.j2 (k + 1) g w out t x false = if x < (w.size : Int) then spec_ShortWord.l0 k g w (mkB (out.data.toList ++ (segT g t ++ [70]))) 0 (wrap64 (x + 1)) else spec_ShortWord.l0 k g w (mkB (out.data.toList ++ segT g t)) 0 (wrap64 (x + 1)) := by
  have hl := segT_len g t hg
  have e1 : (⟨#[70]⟩ : ByteArray) = mkB [70] := rfl
  have s1 : out.size + (mkB (segT g t)).size ≤ 9223372036854775807 := by rw [mkB_size]; omega
  have s2 : (out ++ mkB (segT g t)).size + 1 ≤ 9223372036854775807 := by rw [ByteArray.size_append, mkB_size]; omega
  simp only [spec_ShortWord.j2]
  rw [if_neg (by simp)]
  by_cases ht : t > 0
  · rw [if_pos ht, if_neg (by omega), seg_pos g t hg ht h2 k hk]
    simp only [Option.bind_some]
    rw [if_pos s1, if_pos s2, app_mkB, e1, mkB_app, List.append_assoc]
  · rw [if_neg ht, if_neg (by omega), seg_neg g t hg ht h1 k hk]
    simp only [Option.bind_some]
    rw [if_pos s1, if_pos s2, app_mkB, e1, mkB_app, List.append_assoc]
theorem specShort_loop (g : Int) (w : ByteArray) (hg : g = 4 ∨ g = 6) (hw : w.size ≤ 120) (hb : ∀ b ∈ w.data.toList, okB b = true) (d : Nat) : ∀ (k i : Nat) (t : Int) (out : ByteArray), i + d = w.size → 3 * d + 20 < k → -(i : Int) ≤ t → t ≤ i → out.size ≤ 6 * i →
    spec_ShortWord.l0 k g w out t (i : Int) = some (mkB (out.data.toList ++ render g t (w.data.toList.drop i)), true) := by
  induction d with
  | zero =>
    intro k i t out hi hk ht1 ht2 ho
    obtain ⟨k, rfl⟩ : ∃ m, k = m + 4 := ⟨k - 4, by omega⟩
    simp only [spec_ShortWord.l0]
    rw [if_pos (by omega), if_neg (by omega)]
    simp only [spec_ShortWord.j1]
    rw [if_neg (by simp), if_neg (by omega), j2_end g w out t i hg (by omega) (by omega) (by omega) (k + 1) (by omega), if_neg (by omega), wrapS i (by omega)]
    simp only [spec_ShortWord.l0]
    rw [if_neg (by omega), List.drop_eq_nil_of_le (by rw [len_data]; omega)]
    rfl
  | succ d ih =>
    intro k i t out hi hk ht1 ht2 ho
    obtain ⟨k, rfl⟩ : ∃ m, k = m + 4 := ⟨k - 4, by omega⟩
    have hlt : i < w.data.toList.length := by rw [len_data]; omega
    have c1 : (i : Int) < (w.size : Int) := by omega
    simp only [spec_ShortWord.l0]
    have hB := hb _ (List.getElem_mem hlt)
    have hbt := bt_get w i (by omega)
    rw [if_pos (by omega), if_pos c1, if_pos (by omega), List.drop_eq_getElem_cons hlt]
    generalize w.data.toList[i] = b at hB hbt ⊢
    rw [hbt]
    unfold okB at hB
    simp only [Bool.or_eq_true, beq_iff_eq] at hB
    rcases hB with (rfl | rfl) | rfl
    · simp only [spec_ShortWord.j1, render]
      rw [if_neg (by decide), if_pos c1, if_pos (by omega), hbt, show (((70 : UInt8).toNat : Int) == 82) = false by decide, j2_end g w out t i hg (by omega) (by omega) (by omega) (k + 1) (by omega), if_pos c1, wrapS i (by omega)]
      have hl := segT_len g t hg
      rw [ih (k + 1) (i + 1) 0 _ (by omega) (by omega) (by omega) (by omega) (by rw [mkB_size, List.length_append, List.length_append, len_data]; simp; omega), mkB_data]
      rw [if_neg (by decide), if_neg (by decide)]
      simp
    · simp only [spec_ShortWord.j1, render]
      rw [if_pos (by decide), wrapS i (by omega), wrap64_id (by omega) (by omega), ih (k + 2) (i + 1) (t + 1) out (by omega) (by omega) (by omega) (by omega) (by omega), if_pos trivial]
    · simp only [spec_ShortWord.j1, render]
      rw [if_neg (by decide), if_pos c1, if_pos (by omega), hbt, show (((82 : UInt8).toNat : Int) == 82) = true by decide]
      simp only [spec_ShortWord.j2]
      rw [if_pos trivial, wrapS i (by omega), wrap64_id (by omega) (by omega), ih (k + 1) (i + 1) (t - 1) out (by omega) (by omega) (by omega) (by omega) (by omega), if_neg (by decide), if_pos trivial]
/-- The pieces' turns. -/
def segs (g : Int) (ps : List (List UInt8)) : List ByteArray := ps.map fun p => mkB (segT g (turnsP p))
theorem turnsP_le (p : List UInt8) (n : Nat) (h : p.length ≤ n) : -(n : Int) ≤ turnsP p ∧ turnsP p ≤ n := by
  have h1 := List.count_le_length (a := (76 : UInt8)) (l := p)
  have h2 := List.count_le_length (a := (82 : UInt8)) (l := p)
  unfold turnsP
  omega
theorem repS (g t : Int) (hg : g = 4 ∨ g = 6) (h1 : -1000 ≤ t) (h2 : t ≤ 1000) : (t < 0 → strings_Repeat.f ⟨#[82]⟩ (Int.tmod (wrap64 (-t)) g) = some (mkB (segT g t))) ∧ (¬ t < 0 → strings_Repeat.f ⟨#[76]⟩ (Int.tmod t g) = some (mkB (segT g t))) := by
  have a1 := Int.emod_nonneg t (show g ≠ 0 by omega)
  have a2 := Int.emod_lt_of_pos t (show 0 < g by omega)
  have a3 := Int.emod_nonneg (-t) (show g ≠ 0 by omega)
  have a4 := Int.emod_lt_of_pos (-t) (show 0 < g by omega)
  refine ⟨fun ht => ?_, fun ht => ?_⟩
  · rw [wrap64_id (by omega) (by omega), Int.tmod_eq_emod_of_nonneg (by omega)]
    obtain ⟨n, hn⟩ : ∃ n : Nat, (-t) % g = (n : Int) := ⟨((-t) % g).toNat, by omega⟩
    unfold segT
    rw [if_neg (by omega), hn, repW_eq ⟨#[82]⟩ n (by omega) (by show 1 * n ≤ _; omega), rep_one, Int.toNat_natCast]
  · rw [Int.tmod_eq_emod_of_nonneg (by omega)]
    obtain ⟨n, hn⟩ : ∃ n : Nat, t % g = (n : Int) := ⟨(t % g).toNat, by omega⟩
    rw [hn, repW_eq ⟨#[76]⟩ n (by omega) (by show 1 * n ≤ _; omega), rep_one]
    unfold segT
    by_cases h0 : t > 0
    · rw [if_pos h0, hn, Int.toNat_natCast]
    · have ht0 : t = 0 := by omega
      subst ht0
      have : n = 0 := by simp at hn; omega
      subst this
      simp
theorem join_segs (g : Int) : ∀ (ps : List (List UInt8)), ps ≠ [] → Lib.join ((segs g ps).map (·.data.toList)) [70] = joinT g 0 ps
  | [], h => absurd rfl h
  | [p], _ => by simp [segs, joinT, Lib.join_one, mkB_data]
  | p :: q :: ps, _ => by
    have ih := join_segs g (q :: ps) (by simp)
    simp only [joinT]
    rw [← ih]
    simp only [segs, List.map_cons, mkB_data, Lib.join_cons, Lib.joinTail, List.flatten_cons, Int.zero_add]
    simp
theorem implShort_loop (g : Int) (hg : g = 4 ∨ g = 6) (n : Int) (rest : List (List UInt8)) : ∀ (k : Nat) (done : List (List UInt8)), (∀ p ∈ rest, p.length ≤ 120) → done.length + rest.length ≤ 200 → n = ((done.length + rest.length : Nat) : Int) → rest.length < k → (joinT g 0 (done ++ rest)).length ≤ 1000000 → done ++ rest ≠ [] →
    impl_ShortWord.l0 k g (segs g done) ((done ++ rest).map mkB) n (done.length : Int) = some (mkB (joinT g 0 (done ++ rest)), true) := by
  induction rest with
  | nil =>
    intro k done h hl hn hk hj hne
    obtain ⟨k, rfl⟩ : ∃ m, k = m + 1 := ⟨k - 1, by omega⟩
    simp only [impl_ShortWord.l0]
    rw [List.append_nil] at hj hne ⊢
    have e : Lib.join ((segs g done).map (·.data.toList)) (⟨#[70]⟩ : ByteArray).data.toList = joinT g 0 done := join_segs g done hne
    simp only [List.length_nil, Nat.add_zero] at hn hl
    rw [if_neg (by omega)]
    unfold strings_Join.f
    rw [e, if_pos ⟨by simp [segs]; omega, hj⟩]
    rfl
  | cons p rest ih =>
    intro k done h hl hn hk hj hne
    obtain ⟨k, rfl⟩ : ∃ m, k = m + 1 := ⟨k - 1, by omega⟩
    simp only [List.length_cons] at hl hn hk
    have hp := h p (by simp)
    obtain ⟨t1, t2⟩ := turnsP_le p 120 hp
    have hlen : (((done ++ p :: rest).map mkB).length : Int) = ((done.length + (rest.length + 1) : Nat) : Int) := by simp
    have hget : rdOf ByteArray.empty ((done ++ p :: rest).map mkB) (done.length : Int) = mkB p := by
      unfold rdOf
      rw [Int.toNat_natCast]
      simp
    have c76 : strings_Count.f (mkB p) ⟨#[76]⟩ = some ((p.count 76 : Nat) : Int) := by unfold strings_Count.f Lib.countByte; rw [mkB_data]
    have c82 : strings_Count.f (mkB p) ⟨#[82]⟩ = some ((p.count 82 : Nat) : Int) := by unfold strings_Count.f Lib.countByte; rw [mkB_data]
    have et : wrap64 (((p.count 76 : Nat) : Int) - ((p.count 82 : Nat) : Int)) = turnsP p := by
      unfold turnsP at t1 t2 ⊢
      exact wrap64_id (by omega) (by omega)
    have IH := ih k (done ++ [p]) (fun q hq => h q (by simp [hq])) (by simp; omega) (by rw [hn]; simp; omega) (by omega) (by simpa using hj) (by simp)
    simp only [List.append_assoc, List.cons_append, List.nil_append, List.length_append, List.length_singleton] at IH
    have es : segs g done ++ [mkB (segT g (turnsP p))] = segs g (done ++ [p]) := by simp [segs]
    obtain ⟨r1, r2⟩ := repS g (turnsP p) hg (by omega) (by omega)
    simp only [impl_ShortWord.l0]
    rw [if_pos (by omega), if_pos (by omega), if_pos (by rw [hlen]; omega), hget, c76]
    simp only [Option.bind_some]
    rw [c82]
    simp only [Option.bind_some]
    rw [et, wrapS done.length (by omega)]
    by_cases ht : turnsP p < 0
    · rw [if_pos ht, if_neg (by omega), r1 ht]
      simp only [Option.bind_some]
      rw [if_pos (by simp [segs]; omega), es]
      exact IH
    · rw [if_neg ht, if_neg (by omega), r2 ht]
      simp only [Option.bind_some]
      rw [if_pos (by simp [segs]; omega), es]
      exact IH
theorem splitL_short (c : UInt8) : ∀ (l : List UInt8), ∀ p ∈ splitL c l, p.length ≤ l.length
  | [], p, h => by simp [splitL] at h; subst h; simp
  | b :: l, p, h => by
    unfold splitL at h
    split at h
    · rcases List.mem_cons.1 h with rfl | h
      · simp
      · have := splitL_short c l p h; simp; omega
    · cases hs : splitL c l with
      | nil => exact absurd hs (splitL_ne c l)
      | cons q qs =>
        rw [hs] at h
        simp only at h
        rcases List.mem_cons.1 h with rfl | h
        · have := splitL_short c l q (by rw [hs]; simp); simp; omega
        · have := splitL_short c l p (by rw [hs]; simp [h]); simp; omega
theorem shortWord_both (g : Int) (w : ByteArray) : ∃ r : ByteArray × Bool, ∀ k, 2000 ≤ k → spec_ShortWord.f k g w = some r ∧ impl_ShortWord.f k g w = some r := by
  cases ha : askedB g w with
  | false =>
    refine ⟨(⟨#[]⟩, false), fun k hk => ?_⟩
    unfold spec_ShortWord.f impl_ShortWord.f
    rw [paAsked_eq g w k (by omega), isWord_eq, ha]
    simp
  | true =>
    obtain ⟨hg, hs, hB⟩ := asked_of ha
    refine ⟨(mkB (render g 0 w.data.toList), true), fun k hk => ?_⟩
    have e1 := specShort_loop g w hg hs hB w.size k 0 0 ⟨#[]⟩ (by omega) (by omega) (by omega) (by omega) (by show 0 ≤ _; omega)
    rw [List.drop_zero] at e1
    have hlen := splitL_len 70 w.data.toList
    have hcl := List.count_le_length (a := (70 : UInt8)) (l := w.data.toList)
    rw [len_data] at hcl
    have hj := joinT_render g w.data.toList 0 hB
    have hrl := render_len g hg w.data.toList 0
    rw [len_data] at hrl
    have e2 := implShort_loop g hg (((splitL 70 w.data.toList).map mkB).length : Int) (splitL 70 w.data.toList) k [] (fun p hp => by have := splitL_short 70 _ p hp; rw [len_data] at this; omega) (by simp; omega) (by simp) (by omega) (by rw [List.nil_append, hj]; omega) (by rw [List.nil_append]; exact splitL_ne 70 _)
    simp only [List.nil_append, List.length_nil, hj] at e2
    unfold spec_ShortWord.f impl_ShortWord.f
    rw [paAsked_eq g w k (by omega), isWord_eq, ha, Option.bind_some, Option.bind_some, if_pos rfl, if_pos rfl, split_eq w 70 (by omega) k (by omega)]
    simp only [Option.bind_some]
    refine ⟨?_, e2⟩
    rw [show ((0 : Nat) : Int) = 0 from rfl] at e1
    rw [e1]
    rfl
theorem FnExactShortWord : ∀ (a0 : Int) (a1 : ByteArray), (Lit.int .i64 a0).wf = true → a1.size ≤ 140737488351232 → ∃ k, laws_FnExactShortWord.f k a0 a1 = some true := by
  intro g w _ _
  refine ⟨3000, ?_⟩
  obtain ⟨⟨r, b⟩, hr⟩ := shortWord_both g w
  unfold laws_FnExactShortWord.f
  by_cases hb : (w.size : Int) > 1048576
  · rw [if_pos hb]
  · rw [if_neg hb]
    simp [(hr 3000 (by omega)).1, (hr 3000 (by omega)).2]

end Go.Proofs.YtceoaondcnhaeaaDoor.Q
