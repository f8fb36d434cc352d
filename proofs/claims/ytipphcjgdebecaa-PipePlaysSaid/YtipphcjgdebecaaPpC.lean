/- Parts of a proof about the pipe seat's laws: what the functions of the program answer. No condition of its own. -/
import Derived.Test.YtipphcjgdebecaaPpB
import Derived.Test.YtipphcjgdebecaaPpA
set_option linter.all false
namespace Go.Proofs.Ytipphcjgdebecaa.PA
open Go.RowKit Go.Proofs.YtipphcjgdebecaaW.PrintWords Go.Proofs.YtipphcjgdebecaaW.PrintLast Go.Proofs.YtipphcjgdebecaaW.PrintMore
attribute [local go_sem] max2_int min2_int max_two min_two max_three min_three max_four min_four
abbrev Heat4 := Int × Int × Int × Int
def feedV (L : S39) (T : S44) : Int := if T.f2 = true then L.f6 else 0
def lossI (leak frost warm feed : Int) : Int := mn (wrap64 (Int.tdiv (wrap64 (leak * (wrap64 (warm + frost)))) 1000)) (wrap64 (warm + feed))
def groundV (L : S39) (lost : Int) : Int := wrap64 (Int.tdiv (wrap64 (wrap64 (lost * L.f4) * L.f5)) 1000)
def sumV (l : List Int) : Int := l.foldl (fun a x => wrap64 (a + x)) 0
def stepH (L : S39) (T : S44) (x : Heat4) : Heat4 :=
 (sumV [x.1, feedV L T, wrap64 (-(lossI T.f0 T.f1 x.1 (feedV L T)))], sumV [x.2.1, wrap64 (feedV L T * L.f4)], sumV [x.2.2.1, groundV L (lossI T.f0 T.f1 x.1 (feedV L T))],
  sumV [x.2.2.2, wrap64 (lossI T.f0 T.f1 x.1 (feedV L T) * L.f4), wrap64 (-(groundV L (lossI T.f0 T.f1 x.1 (feedV L T))))])
def playGo (L : S39) : List S44 → List S37 → Heat4 → Option Heat4
 | [], _, x => some x
 | _ :: _, [], _ => none
 | T :: ts, F :: fs, x => if (inB T.f0 L.f1.f0 L.f1.f1 && inB T.f1 F.f0 F.f1) = true then playGo L ts fs (stepH L T x) else none
def heatR : Option Heat4 → Int × Int × Int × Int × Int
 | none => (0, 0, 0, 0, 2)
 | some x => (x.1, x.2.1, x.2.2.1, x.2.2.2, 0)
def playV (l0 : List S39) (l1 : List S37) (l2 : List (List Int)) (a1 a2 : Int) (l3 : List S44) : Int × Int × Int × Int × Int :=
 if (l1.length : Int) < (l3.length : Int) then (0, 0, 0, 0, 3)
 else if (validB l0 l1 l2 && (inB a1 0 (wrap64 ((l0.length : Int) - 1)) && inB a2 (qak l0 a1).f0.f0 (qak l0 a1).f0.f1)) = true then heatR (playGo (qak l0 a1) l3 l1 (a2, 0, 0, 0))
 else (0, 0, 0, 0, 2)
theorem playGo_step (L : S39) (l3 : List S44) (l1 : List S37) (k : Nat) (h3 : k < l3.length) (h1 : k < l1.length) (x : Heat4) :
  playGo L (l3.drop k) (l1.drop k) x = if (inB (rd_T44 l3 k).f0 L.f1.f0 L.f1.f1 && inB (rd_T44 l3 k).f1 (rd_T37 l1 k).f0 (rd_T37 l1 k).f1) = true then playGo L (l3.drop (k + 1)) (l1.drop (k + 1)) (stepH L (rd_T44 l3 k) x) else none := by
 rw [List.drop_eq_getElem_cons h3, List.drop_eq_getElem_cons h1]
 have e3 : rd_T44 l3 k = l3[k] := by simp [rd_T44, h3]
 have e1 : rd_T37 l1 k = l1[k] := by simp [rd_T37, h1]
 rw [e3, e1]
 rfl
theorem sum_go (l : List Int) (hl : l.length ≤ 1000) : ∀ (k j : Nat) (s : Int), l.length - j < k → j ≤ l.length → pipe_sum.l0 k s l (l.length : Int) (j : Int) = some ((l.drop j).foldl (fun a x => wrap64 (a + x)) s) := by
 intro k
 induction k with
 | zero => intro j s h; omega
 | succ k ih =>
  intro j s h hj
  unfold pipe_sum.l0
  by_cases hlt : j < l.length
  ·
   rw [if_pos (by omega), if_pos (by omega), if_pos (by omega)]
   have hw : wrap64 ((j : Int) + 1) = ((j + 1 : Nat) : Int) := by unfold wrap64; omega
   rw [hw, ih (j + 1) _ (by omega) (by omega), List.drop_eq_getElem_cons hlt]
   have e : rd l j = l[j] := by simp [rd, hlt]
   rw [e]
   rfl
  ·
   rw [if_neg (by omega), List.drop_eq_nil_of_le (by omega)]
   rfl
theorem sum_some (l : List Int) (hl : l.length ≤ 1000) : pipe_sum.f (l.length + 1) l = some (sumV l) := sum_go l hl _ 0 0 (by omega) (by omega)
theorem sum_new_calls (W : World) (xs : List Int) (hl : xs.length ≤ 1000) : Calls Try.prog 57 #[.slice (some ⟨W.heap.size, 0, none⟩) xs.length xs.length] (W.alloc (.cells (xs.map (Value.int .i64)).toArray 3)) fun e w' => e = .returned (.int .i64 (sumV xs)) ∧ Below W.heap.size W w' :=
 (pipe_sum.calls _ _ xs.length xs _ _ (new_ints W xs (by omega)) (Nat.le_refl _) (sum_some xs hl)).mono fun e w' ⟨h1, h2⟩ => ⟨h1, qag (qae (Below.refl _ _) _) h2.below⟩
theorem sum2_calls (W : World) (a b : Int) : Calls Try.prog 57 #[.slice (some ⟨W.heap.size, 0, none⟩) 2 2] (W.alloc (.cells #[.int .i64 a, .int .i64 b] 3)) fun e w' => e = .returned (.int .i64 (sumV [a, b])) ∧ Below W.heap.size W w' := sum_new_calls W [a, b] (by simp)
theorem sum3_calls (W : World) (a b c : Int) : Calls Try.prog 57 #[.slice (some ⟨W.heap.size, 0, none⟩) 3 3] (W.alloc (.cells #[.int .i64 a, .int .i64 b, .int .i64 c] 3)) fun e w' => e = .returned (.int .i64 (sumV [a, b, c])) ∧ Below W.heap.size W w' := sum_new_calls W [a, b, c] (by simp)
structure P0 (w : World) (gb g8 : Nat) (nb : Array Value) (W : World) : Prop where
 b : W.heap[gb]? = some (.cells nb 26 (0, 0))
 r : W.heap[g8]? = some (.cells #[.int .i64 0, .int .i64 0, .int .i64 0, .int .i64 0] 31 (0, 0))
 hb : Below w.heap.size w W
theorem P0.below {w W W' : World} {gb g8 : Nat} {nb : Array Value} (h : P0 w gb g8 nb W) (hb : Below W.heap.size W W') : P0 w gb g8 nb W' := ⟨qah h.b hb, qah h.r hb, qag h.hb hb⟩
structure PI (w : World) (gb g8 g10 g11 : Nat) (nb : Array Value) (L : S39) (x : Heat4) (W : World) : Prop where
 b : W.heap[gb]? = some (.cells nb 26 (0, 0))
 r : W.heap[g8]? = some (.cells #[.int .i64 0, .int .i64 0, .int .i64 0, .int .i64 0] 31 (0, 0))
 l : W.heap[g10]? = some (.cells #[.int .i64 L.f0.f0, .int .i64 L.f0.f1, .int .i64 L.f1.f0, .int .i64 L.f1.f1, .int .i64 L.f2.f0, .int .i64 L.f2.f1, .int .i64 L.f3, .int .i64 L.f4, .int .i64 L.f5, .int .i64 L.f6, .int .i64 L.f7.f0, .int .i64 L.f7.f1] 39 (0, 0))
 o : W.heap[g11]? = some (.cells #[.int .i64 x.1, .int .i64 x.2.1, .int .i64 x.2.2.1, .int .i64 x.2.2.2] 31 (0, 0))
 hb : Below w.heap.size w W
 ge : w.heap.size ≤ g11
 ne : g8 ≠ g11
theorem PI.below {w W W' : World} {gb g8 g10 g11 : Nat} {nb : Array Value} {L : S39} {x : Heat4} (h : PI w gb g8 g10 g11 nb L x W) (hb : Below W.heap.size W W') : PI w gb g8 g10 g11 nb L x W' :=
 ⟨qah h.b hb, qah h.r hb, qah h.l hb, qah h.o hb, qag h.hb hb, h.ge, h.ne⟩
theorem PI.set {w W : World} {gb g8 g10 g11 : Nat} {nb : Array Value} {L : S39} {x y : Heat4} (h : PI w gb g8 g10 g11 nb L x W) (i : Nat) (v : Value) (e : (#[.int .i64 x.1, .int .i64 x.2.1, .int .i64 x.2.2.1, .int .i64 x.2.2.2] : Array Value).setIfInBounds i v = #[.int .i64 y.1, .int .i64 y.2.1, .int .i64 y.2.2.1, .int .i64 y.2.2.2]) :
  PI w gb g8 g10 g11 nb L y (W.setCell ⟨g11, i, none⟩ v) :=
 ⟨blk_far h.b (blk_ne h.b h.o (by decide)) _, blk_far h.r h.ne _, blk_far h.l (blk_ne h.l h.o (by decide)) _, by have := blk_set h.o i v; rw [e] at this; exact this, qai h.hb h.ge, h.ge, h.ne⟩
structure TI (w : World) (gb g8 g10 g11 g13 g14 : Nat) (nb : Array Value) (L : S39) (T : S44) (F : S37) (x : Heat4) (W : World) : Prop where
 p : PI w gb g8 g10 g11 nb L x W
 t : W.heap[g13]? = some (.cells #[.int .i64 T.f0, .int .i64 T.f1, .bool T.f2] 44 (0, 0))
 f : W.heap[g14]? = some (.cells #[.int .i64 F.f0, .int .i64 F.f1] 37 (0, 0))
theorem TI.below {w W W' : World} {gb g8 g10 g11 g13 g14 : Nat} {nb : Array Value} {L : S39} {T : S44} {F : S37} {x : Heat4} (h : TI w gb g8 g10 g11 g13 g14 nb L T F x W) (hb : Below W.heap.size W W') : TI w gb g8 g10 g11 g13 g14 nb L T F x W' :=
 ⟨h.p.below hb, qah h.t hb, qah h.f hb⟩
theorem TI.set {w W : World} {gb g8 g10 g11 g13 g14 : Nat} {nb : Array Value} {L : S39} {T : S44} {F : S37} {x y : Heat4} (h : TI w gb g8 g10 g11 g13 g14 nb L T F x W) (i : Nat) (v : Value) (e : (#[.int .i64 x.1, .int .i64 x.2.1, .int .i64 x.2.2.1, .int .i64 x.2.2.2] : Array Value).setIfInBounds i v = #[.int .i64 y.1, .int .i64 y.2.1, .int .i64 y.2.2.1, .int .i64 y.2.2.2]) :
  TI w gb g8 g10 g11 g13 g14 nb L T F y (W.setCell ⟨g11, i, none⟩ v) :=
 ⟨h.p.set i v e, blk_far h.t (blk_ne h.t h.p.o (by decide)) _, blk_far h.f (blk_ne h.f h.p.o (by decide)) _⟩
theorem valid_five {l0 : List S39} {l1 : List S37} {l2 : List (List Int)} (h : validB l0 l1 l2 = true) : 1 ≤ l0.length ∧ l0.length ≤ 5 := by
 unfold validB inB at h
 simp only [Bool.and_eq_true, decide_eq_true_eq] at h
 omega
def msk (n k : Nat) : Array Bool := (List.replicate k true ++ List.replicate (n - k) false).toArray
def pipe_Play.T3 : Bool × List (List Nat × List Nat) := (true, [([], []), ([0], [0]), ([1], [1]), ([2, 1], [2]), ([3], [3]), ([3], [3]), ([5, 3], [3, 5]), ([6, 3], [3, 6]), ([7, 3], [3, 7]), ([4, 8, 3, 3], [3, 4, 8]), ([9, 3], [3, 9]), ([3, 10], [3, 10]), ([11, 9], [11]), ([12], [12]), ([12], [12]), ([14, 12], [12, 14]), ([12], [12]), ([15, 16, 12], [12, 15, 16]), ([17, 12], [12, 17]), ([18, 12], [12, 18]), ([19, 12], [12, 19]), ([12], [12]), ([21, 12], [12, 21]), ([12], [12]), ([22, 23, 12], [12, 22, 23]), ([24, 12], [12, 24]), ([25, 12], [12, 25]), ([26, 12], [12, 26]), ([13, 20, 27, 12, 12], [12, 13, 20, 27]), ([28, 12], [12, 28]), ([12, 29], [12, 29])])
def pipe_Play.B3 : List Nat := [0, 1, 3, 7, 15, 15, 47, 111, 239, 511, 1023, 2047, 4095, 8191, 8191, 24575, 8191, 122879, 253951, 516095, 1040383, 8191, 2105343, 8191, 14688255, 31465471, 65019903, 132128767, 268435455, 536870911, 1073741823]
theorem pipe_Play.tab3 : rtab .any (opsOf Try.f18 3) = pipe_Play.T3 := by kernel_rfl
theorem pipe_Play.bits3 : waitsOk pipe_Play.T3.2 pipe_Play.B3 = true := by kernel_rfl
def pipe_Play.f (l0_0 : List (S39)) (l0_1 : List (S37)) (l0_2 : List (List Int)) (a1 : Int) (a2 : Int) (l3 : List (S44)) : Option (Int × Int × Int × Int × Int) := some (playV l0_0 l0_1 l0_2 a1 a2 l3)
set_option maxHeartbeats 4000000 in
set_option maxRecDepth 100000 in
theorem pipe_Play.calls (A0_0 : Option Addr) (c0_0 : Nat) (l0_0 : List (S39)) (A0_1 : Option Addr) (c0_1 : Nat) (l0_1 : List (S37)) (A0_2 : Option Addr) (c0_2 : Nat) (l0_2 : List (List Int)) (a1 : Int) (a2 : Int) (A3 : Option Addr) (c3 : Nat) (l3 : List (S44)) (r1 : Int) (r2 : Int) (r3 : Int) (r4 : Int) (r5 : Int) (w : World) (hr0_0 : Kd.C k39 w A0_0 l0_0.length l0_0) (hc0_0 : l0_0.length ≤ c0_0) (hr0_1 : Kd.C k37 w A0_1 l0_1.length l0_1) (hc0_1 : l0_1.length ≤ c0_1) (hr0_2 : Kd.C (Kd.slice 3 (Kd.int .i64)) w A0_2 l0_2.length l0_2) (hc0_2 : l0_2.length ≤ c0_2) (hr3 : Kd.C k44 w A3 l3.length l3) (hc3 : l3.length ≤ c3) (h : pipe_Play.f l0_0 l0_1 l0_2 a1 a2 l3 = some (r1, r2, r3, r4, r5)) :
  Calls Try.prog 18 #[.agg #[.slice A0_0 l0_0.length c0_0, .slice A0_1 l0_1.length c0_1, .slice A0_2 l0_2.length c0_2], .int .i64 a1, .int .i64 a2, .slice A3 l3.length c3] w fun e w' => e = .returned (.tuple #[.agg #[.int .i64 r1, .int .i64 r2, .int .i64 r3, .int .i64 r4], .int .i64 r5]) ∧ Below w.heap.size w w' := by
 have h' := Option.some.inj h
 clear h
 have HF := qab.mk h'
 clear h'
 have hu26 := Try.underlying26
 have hu31 := Try.underlying31
 have hu39 := Try.underlying39
 have hu44 := Try.underlying44
 have hu37 := Try.underlying37
 have HB := qab.mk (Below.refl w.heap.size w)
 have HR0 := qab.mk hr0_0
 have HR1 := qab.mk hr0_1
 have HR2 := qab.mk hr0_2
 have HR3 := qab.mk hr3
 clear hr0_0 hr0_1 hr0_2 hr3
 by_cases c5 : (l0_1.length : Int) < (l3.length : Int)
 ·
  have he := HF.out
  unfold playV at he
  rw [if_pos c5] at he
  cases he
  have c5n : l0_1.length < l3.length := by omega
  go_enter Try.func18, Try.ntmps18
  go_wp2_with (first | ((with_reducible refine qar (N := 4) rfl ?_); refine qap ?hg (N := 4) ?hd (cs := #[.slice A0_0 l0_0.length c0_0, .slice A0_1 l0_1.length c0_1, .slice A0_2 l0_2.length c0_2]) (t := 26) ?hr ?_; (case hd => rfl); (case hg => rfl); (case hr => first | (go_simp; done) | (go_simp; rfl)); intro gb hg_gb w2 hbox hb; have BKgb := qab.mk hbox; have n_HB := qab.mk (qag HB.out hb); have GEgb : w.heap.size ≤ gb := (by rw [hg_gb]; exact HB.out.size); clear HB; have HB := n_HB; clear n_HB; clear hbox hb hg_gb) | ((with_reducible refine qar (N := 8) rfl ?_); refine qap ?hg (N := 8) ?hd (cs := #[.int .i64 0, .int .i64 0, .int .i64 0, .int .i64 0]) (t := 31) ?hr ?_; (case hd => rfl); (case hg => rfl); (case hr => first | (go_simp; done) | (go_simp; rfl)); intro g8 hg_g8 w3 hbox hb; have BKg8 := qab.mk hbox; have n_BKgb := qab.mk (qah BKgb.out hb); clear BKgb; have BKgb := n_BKgb; clear n_BKgb; have n_HB := qab.mk (qag HB.out hb); have GEg8 : w.heap.size ≤ g8 := (by rw [hg_g8]; exact HB.out.size); clear HB; have HB := n_HB; clear n_HB; clear hbox hb hg_g8; have hfgb := qac BKgb.out; have hcgb_0 : w3.cell? ⟨gb, 0, none⟩ = some (.slice A0_0 l0_0.length c0_0) := (qaa BKgb.out 0).trans rfl; have hcgb_1 : w3.cell? ⟨gb, 1, none⟩ = some (.slice A0_1 l0_1.length c0_1) := (qaa BKgb.out 1).trans rfl; have hcgb_2 : w3.cell? ⟨gb, 2, none⟩ = some (.slice A0_2 l0_2.length c0_2) := (qaa BKgb.out 2).trans rfl; have hfg8 := qac BKg8.out; have hcg8_0 : w3.cell? ⟨g8, 0, none⟩ = some (.int .i64 0) := (qaa BKg8.out 0).trans rfl; have hcg8_1 : w3.cell? ⟨g8, 1, none⟩ = some (.int .i64 0) := (qaa BKg8.out 1).trans rfl; have hcg8_2 : w3.cell? ⟨g8, 2, none⟩ = some (.int .i64 0) := (qaa BKg8.out 2).trans rfl; have hcg8_3 : w3.cell? ⟨g8, 3, none⟩ = some (.int .i64 0) := (qaa BKg8.out 3).trans rfl))
  refine bodyPost_ret (results_ct rfl _ _ g8 31 #[.int .i64 0, .int .i64 0, .int .i64 0, .int .i64 0] (0, 0) _ rfl ((blk_set (blk_set (blk_set (blk_set BKg8.out 0 _) 1 _) 2 _) 3 _)) Try.underlying31 rfl (by kernel_rfl)) rfl ?_
  exact ⟨rfl, (qai (j := 3) (qai (j := 2) (qai (j := 1) (qai (j := 0) HB.out GEg8) GEg8) GEg8) GEg8)⟩
 ·
  have HF2 : qab ((if (validB l0_0 l0_1 l0_2 && (inB a1 0 (wrap64 ((l0_0.length : Int) - 1)) && inB a2 (qak l0_0 a1).f0.f0 (qak l0_0 a1).f0.f1)) = true then heatR (playGo (qak l0_0 a1) l3 l0_1 (a2, 0, 0, 0)) else (0, 0, 0, 0, 2)) = (r1, r2, r3, r4, r5)) := ⟨by rw [← HF.out]; unfold playV; rw [if_neg c5]⟩
  have c5n : ¬ l0_1.length < l3.length := by omega
  go_enter Try.func18, Try.ntmps18
  go_upto_region 3 with (first | ((with_reducible refine qar (N := 4) rfl ?_); refine qap ?hg (N := 4) ?hd (cs := #[.slice A0_0 l0_0.length c0_0, .slice A0_1 l0_1.length c0_1, .slice A0_2 l0_2.length c0_2]) (t := 26) ?hr ?_; (case hd => rfl); (case hg => rfl); (case hr => first | (go_simp; done) | (go_simp; rfl)); intro gb hg_gb w2 hbox hb; have BKgb := qab.mk hbox; have n_HB := qab.mk (qag HB.out hb); have GEgb : w.heap.size ≤ gb := (by rw [hg_gb]; exact HB.out.size); clear HB; have HB := n_HB; clear n_HB; clear hbox hb hg_gb) | ((with_reducible refine qar (N := 8) rfl ?_); refine qap ?hg (N := 8) ?hd (cs := #[.int .i64 0, .int .i64 0, .int .i64 0, .int .i64 0]) (t := 31) ?hr ?_; (case hd => rfl); (case hg => rfl); (case hr => first | (go_simp; done) | (go_simp; rfl)); intro g8 hg_g8 w3 hbox hb; have BKg8 := qab.mk hbox; have n_BKgb := qab.mk (qah BKgb.out hb); clear BKgb; have BKgb := n_BKgb; clear n_BKgb; have n_HB := qab.mk (qag HB.out hb); have GEg8 : w.heap.size ≤ g8 := (by rw [hg_g8]; exact HB.out.size); clear HB; have HB := n_HB; clear n_HB; clear hbox hb hg_g8; have hfgb := qac BKgb.out; have hcgb_0 : w3.cell? ⟨gb, 0, none⟩ = some (.slice A0_0 l0_0.length c0_0) := (qaa BKgb.out 0).trans rfl; have hcgb_1 : w3.cell? ⟨gb, 1, none⟩ = some (.slice A0_1 l0_1.length c0_1) := (qaa BKgb.out 1).trans rfl; have hcgb_2 : w3.cell? ⟨gb, 2, none⟩ = some (.slice A0_2 l0_2.length c0_2) := (qaa BKgb.out 2).trans rfl; have hfg8 := qac BKg8.out; have hcg8_0 : w3.cell? ⟨g8, 0, none⟩ = some (.int .i64 0) := (qaa BKg8.out 0).trans rfl; have hcg8_1 : w3.cell? ⟨g8, 1, none⟩ = some (.int .i64 0) := (qaa BKg8.out 1).trans rfl; have hcg8_2 : w3.cell? ⟨g8, 2, none⟩ = some (.int .i64 0) := (qaa BKg8.out 2).trans rfl; have hcg8_3 : w3.cell? ⟨g8, 3, none⟩ = some (.int .i64 0) := (qaa BKg8.out 3).trans rfl))
  obtain ⟨ok, hok⟩ : ∃ ok, ok = (validB l0_0 l0_1 l0_2 && (inB a1 0 (wrap64 ((l0_0.length : Int) - 1)) && inB a2 (qak l0_0 a1).f0.f0 (qak l0_0 a1).f0.f1)) := ⟨_, rfl⟩
  have HOK := qab.mk hok
  rw [← hok] at HF2
  clear hok
  have HP := qab.mk (P0.mk BKgb.out BKg8.out HB.out)
  go_cut [55] (fun v55 wc => ∃ nok, v55 = .bool nok ∧ qab (nok = !ok) ∧ qab (P0 w gb g8 #[.slice A0_0 l0_0.length c0_0, .slice A0_1 l0_1.length c0_1, .slice A0_2 l0_2.length c0_2] wc))
  case first =>
   have hval : ∀ W, Below w.heap.size w W → Calls Try.prog 54 #[.agg #[.slice A0_0 l0_0.length c0_0, .slice A0_1 l0_1.length c0_1, .slice A0_2 l0_2.length c0_2]] W fun e w' => e = .returned (.bool (validB l0_0 l0_1 l0_2)) ∧ Below W.heap.size W w' := fun W hW =>
    pipe_valid.calls _ _ _ _ _ _ _ _ _ _ W (Kd.qam HR0.out hW) hc0_0 (Kd.qam HR1.out hW) hc0_1 (Kd.qam HR2.out hW) hc0_2 rfl
   have HVAL := qab.mk hval
   clear hval BKgb BKg8 HB HF2 hc0_0 hc0_1 hc0_2 hc3
   have htup : ∀ W, P0 w gb g8 #[.slice A0_0 l0_0.length c0_0, .slice A0_1 l0_1.length c0_1, .slice A0_2 l0_2.length c0_2] W → W.cell? ⟨gb, 0, none⟩ = some (.slice A0_0 l0_0.length c0_0) ∧ W.cell? ⟨gb, 1, none⟩ = some (.slice A0_1 l0_1.length c0_1) ∧ W.cell? ⟨gb, 2, none⟩ = some (.slice A0_2 l0_2.length c0_2) ∧ qab (P0 w gb g8 #[.slice A0_0 l0_0.length c0_0, .slice A0_1 l0_1.length c0_1, .slice A0_2 l0_2.length c0_2] W) := fun W h =>
    ⟨qaa h.b 0, qaa h.b 1, qaa h.b 2, ⟨h⟩⟩
   have hp3 := HP.out.below (below_drew (Below.refl w3.heap.size w3))
   have HT := qab.mk htup
   have HP3 := qab.mk (htup _ hp3)
   clear htup hp3
   cases hv : validB l0_0 l0_1 l0_2 with
   | false =>
    have hk : ok = false := by rw [HOK.out, hv]; rfl
    subst hk
    have HVAL2 : qab (∀ W, Below w.heap.size w W → Calls Try.prog 54 #[.agg #[.slice A0_0 l0_0.length c0_0, .slice A0_1 l0_1.length c0_1, .slice A0_2 l0_2.length c0_2]] W fun e w' => e = .returned (.bool false) ∧ Below W.heap.size W w') := ⟨fun W hW => by have h := HVAL.out W hW; rw [hv] at h; exact h⟩
    clear hv HOK HVAL
    refine start_ (n := 31) (S := fun w' => w'.cell? ⟨gb, 0, none⟩ = some (.slice A0_0 l0_0.length c0_0) ∧ w'.cell? ⟨gb, 1, none⟩ = some (.slice A0_1 l0_1.length c0_1) ∧ w'.cell? ⟨gb, 2, none⟩ = some (.slice A0_2 l0_2.length c0_2) ∧ qab (P0 w gb g8 #[.slice A0_0 l0_0.length c0_0, .slice A0_1 l0_1.length c0_1, .slice A0_2 l0_2.length c0_2] w')) (ds := []) (msk 31 0) (by kernel_rfl) rfl (by kernel_rfl) HP3.out (fun hHeld => ?_); refine with_tabW pipe_Play.tab3 pipe_Play.bits3 (fun HT_ HW_ => ?_)
    refine take_ (i := 0) (N := some 25) (v := ?_) (a' := ?_) (msk 31 1) rfl rfl (take_ofW HT_.out HW_.out (by kernel_rfl)) (fun _ _ _ h => h) (Or.inl ⟨by rfl, ?_⟩) hHeld ?_ ?_; rotate_left; (focus (rintro w' ⟨s0, s1, s2, s3⟩; go_simp; with_reducible rfl)); rotate_left; (focus (simp only [Act.put, List.setIfInBounds_toArray, List.set_cons_zero, List.set_cons_succ, i64_w, i32_w]; rfl))
    refine one_ (i := 1) (N := some 26) (msk 31 2) rfl rfl (one_of HT_.out (by kernel_rfl)) (by decide) (fun K hK => ?_)
    refine goes_ Try.func54 (by kernel_rfl) rfl #[.agg #[.slice A0_0 l0_0.length c0_0, .slice A0_1 l0_1.length c0_1, .slice A0_2 l0_2.length c0_2]] (by rfl) rfl rfl (by (try simp only [List.map_toArray, List.map_cons, List.map_nil]); first | done | rfl | (simp only [List.length_drop, List.length_take]; rfl)) ?_
    refine (HVAL2.out _ (P0.hb hHeld.2.2.2.out)).mono ?_; rintro e w5 ⟨rfl, hb⟩; have HP4 := qab.mk (HT.out w5 (P0.below hHeld.2.2.2.out hb)); clear hb; refine ⟨_, rfl, ?_⟩; refine hK.out _ _ HP4.out (fun hHeld => ?_); clear hK K; refine norm_ (a' := ?_) ?_ ?_; rotate_left; (focus (show Act.put _ (some 26) _ = _; simp only [Act.put, List.setIfInBounds_toArray, List.set_cons_zero, List.set_cons_succ, i64_w, i32_w]; rfl))
    refine pure_ (i := 2) (N := some 27) (v := ?_) (a' := ?_) (msk 31 3) rfl rfl (qaq HT_.out (by kernel_rfl)) (fun _ _ _ h => h) (Or.inl ⟨by rfl, ?_⟩) ?_ ?_; rotate_left; (focus (intro w'; go_simp; with_reducible rfl)); rotate_left; (focus (simp only [Act.put, List.setIfInBounds_toArray, List.set_cons_zero, List.set_cons_succ, i64_w, i32_w]; rfl))
    refine pure_ (i := 3) (N := some 28) (v := ?_) (a' := ?_) (msk 31 4) rfl rfl (qaq HT_.out (by kernel_rfl)) (fun _ _ _ h => h) (Or.inl ⟨by rfl, ?_⟩) ?_ ?_; rotate_left; (focus (intro w'; go_simp; with_reducible rfl)); rotate_left; (focus (simp only [Act.put, List.setIfInBounds_toArray, List.set_cons_zero, List.set_cons_succ, i64_w, i32_w]; rfl))
    refine pure_ (i := 4) (N := some 29) (v := undef) (a' := ?_) (msk 31 5) rfl rfl (qaq HT_.out (by kernel_rfl)) (fun _ _ _ h => h) (Or.inr ⟨by rfl, rfl⟩) ?_ ?_; rotate_left; (focus (simp only [Act.put, List.setIfInBounds_toArray, List.set_cons_zero, List.set_cons_succ, i64_w, i32_w]; rfl))
    refine pure_ (i := 5) (N := some 30) (v := undef) (a' := ?_) (msk 31 6) rfl rfl (qaq HT_.out (by kernel_rfl)) (fun _ _ _ h => h) (Or.inr ⟨by rfl, rfl⟩) ?_ ?_; rotate_left; (focus (simp only [Act.put, List.setIfInBounds_toArray, List.set_cons_zero, List.set_cons_succ, i64_w, i32_w]; rfl))
    refine pure_ (i := 6) (N := some 31) (v := undef) (a' := ?_) (msk 31 7) rfl rfl (qaq HT_.out (by kernel_rfl)) (fun _ _ _ h => h) (Or.inr ⟨by rfl, rfl⟩) ?_ ?_; rotate_left; (focus (simp only [Act.put, List.setIfInBounds_toArray, List.set_cons_zero, List.set_cons_succ, i64_w, i32_w]; rfl))
    refine pure_ (i := 7) (N := some 32) (v := undef) (a' := ?_) (msk 31 8) rfl rfl (qaq HT_.out (by kernel_rfl)) (fun _ _ _ h => h) (Or.inr ⟨by rfl, rfl⟩) ?_ ?_; rotate_left; (focus (simp only [Act.put, List.setIfInBounds_toArray, List.set_cons_zero, List.set_cons_succ, i64_w, i32_w]; rfl))
    refine pure_ (i := 8) (N := some 33) (v := undef) (a' := ?_) (msk 31 9) rfl rfl (qaq HT_.out (by kernel_rfl)) (fun _ _ _ h => h) (Or.inr ⟨by rfl, rfl⟩) ?_ ?_; rotate_left; (focus (simp only [Act.put, List.setIfInBounds_toArray, List.set_cons_zero, List.set_cons_succ, i64_w, i32_w]; rfl))
    refine pure_ (i := 9) (N := some 34) (v := undef) (a' := ?_) (msk 31 10) rfl rfl (qaq HT_.out (by kernel_rfl)) (fun _ _ _ h => h) (Or.inr ⟨by rfl, rfl⟩) ?_ ?_; rotate_left; (focus (simp only [Act.put, List.setIfInBounds_toArray, List.set_cons_zero, List.set_cons_succ, i64_w, i32_w]; rfl))
    refine pure_ (i := 10) (N := some 35) (v := undef) (a' := ?_) (msk 31 11) rfl rfl (qaq HT_.out (by kernel_rfl)) (fun _ _ _ h => h) (Or.inr ⟨by rfl, rfl⟩) ?_ ?_; rotate_left; (focus (simp only [Act.put, List.setIfInBounds_toArray, List.set_cons_zero, List.set_cons_succ, i64_w, i32_w]; rfl))
    refine pure_ (i := 11) (N := some 36) (v := ?_) (a' := ?_) (msk 31 12) rfl rfl (qaq HT_.out (by kernel_rfl)) (fun _ _ _ h => h) (Or.inl ⟨by rfl, ?_⟩) ?_ ?_; rotate_left; (focus (intro w'; go_simp; with_reducible rfl)); rotate_left; (focus (simp only [Act.put, List.setIfInBounds_toArray, List.set_cons_zero, List.set_cons_succ, i64_w, i32_w]; rfl))
    refine pure_ (i := 12) (N := some 37) (v := ?_) (a' := ?_) (msk 31 13) rfl rfl (qaq HT_.out (by kernel_rfl)) (fun _ _ _ h => h) (Or.inl ⟨by rfl, ?_⟩) ?_ ?_; rotate_left; (focus (intro w'; go_simp; with_reducible rfl)); rotate_left; (focus (simp only [Act.put, List.setIfInBounds_toArray, List.set_cons_zero, List.set_cons_succ, i64_w, i32_w]; rfl))
    refine pure_ (i := 13) (N := some 38) (v := undef) (a' := ?_) (msk 31 14) rfl rfl (qaq HT_.out (by kernel_rfl)) (fun _ _ _ h => h) (Or.inr ⟨by rfl, rfl⟩) ?_ ?_; rotate_left; (focus (simp only [Act.put, List.setIfInBounds_toArray, List.set_cons_zero, List.set_cons_succ, i64_w, i32_w]; rfl))
    refine pure_ (i := 14) (N := some 39) (v := undef) (a' := ?_) (msk 31 15) rfl rfl (qaq HT_.out (by kernel_rfl)) (fun _ _ _ h => h) (Or.inr ⟨by rfl, rfl⟩) ?_ ?_; rotate_left; (focus (simp only [Act.put, List.setIfInBounds_toArray, List.set_cons_zero, List.set_cons_succ, i64_w, i32_w]; rfl))
    refine pure_ (i := 15) (N := some 40) (v := undef) (a' := ?_) (msk 31 16) rfl rfl (qaq HT_.out (by kernel_rfl)) (fun _ _ _ h => h) (Or.inr ⟨by rfl, rfl⟩) ?_ ?_; rotate_left; (focus (simp only [Act.put, List.setIfInBounds_toArray, List.set_cons_zero, List.set_cons_succ, i64_w, i32_w]; rfl))
    refine pure_ (i := 16) (N := some 41) (v := undef) (a' := ?_) (msk 31 17) rfl rfl (qaq HT_.out (by kernel_rfl)) (fun _ _ _ h => h) (Or.inr ⟨by rfl, rfl⟩) ?_ ?_; rotate_left; (focus (simp only [Act.put, List.setIfInBounds_toArray, List.set_cons_zero, List.set_cons_succ, i64_w, i32_w]; rfl))
    refine pure_ (i := 17) (N := some 42) (v := undef) (a' := ?_) (msk 31 18) rfl rfl (qaq HT_.out (by kernel_rfl)) (fun _ _ _ h => h) (Or.inr ⟨by rfl, rfl⟩) ?_ ?_; rotate_left; (focus (simp only [Act.put, List.setIfInBounds_toArray, List.set_cons_zero, List.set_cons_succ, i64_w, i32_w]; rfl))
    refine pure_ (i := 18) (N := some 43) (v := undef) (a' := ?_) (msk 31 19) rfl rfl (qaq HT_.out (by kernel_rfl)) (fun _ _ _ h => h) (Or.inr ⟨by rfl, rfl⟩) ?_ ?_; rotate_left; (focus (simp only [Act.put, List.setIfInBounds_toArray, List.set_cons_zero, List.set_cons_succ, i64_w, i32_w]; rfl))
    refine pure_ (i := 19) (N := some 44) (v := undef) (a' := ?_) (msk 31 20) rfl rfl (qaq HT_.out (by kernel_rfl)) (fun _ _ _ h => h) (Or.inr ⟨by rfl, rfl⟩) ?_ ?_; rotate_left; (focus (simp only [Act.put, List.setIfInBounds_toArray, List.set_cons_zero, List.set_cons_succ, i64_w, i32_w]; rfl))
    refine pure_ (i := 20) (N := some 45) (v := undef) (a' := ?_) (msk 31 21) rfl rfl (qaq HT_.out (by kernel_rfl)) (fun _ _ _ h => h) (Or.inr ⟨by rfl, rfl⟩) ?_ ?_; rotate_left; (focus (simp only [Act.put, List.setIfInBounds_toArray, List.set_cons_zero, List.set_cons_succ, i64_w, i32_w]; rfl))
    refine pure_ (i := 21) (N := some 46) (v := undef) (a' := ?_) (msk 31 22) rfl rfl (qaq HT_.out (by kernel_rfl)) (fun _ _ _ h => h) (Or.inr ⟨by rfl, rfl⟩) ?_ ?_; rotate_left; (focus (simp only [Act.put, List.setIfInBounds_toArray, List.set_cons_zero, List.set_cons_succ, i64_w, i32_w]; rfl))
    refine pure_ (i := 22) (N := some 47) (v := undef) (a' := ?_) (msk 31 23) rfl rfl (qaq HT_.out (by kernel_rfl)) (fun _ _ _ h => h) (Or.inr ⟨by rfl, rfl⟩) ?_ ?_; rotate_left; (focus (simp only [Act.put, List.setIfInBounds_toArray, List.set_cons_zero, List.set_cons_succ, i64_w, i32_w]; rfl))
    refine pure_ (i := 23) (N := some 48) (v := undef) (a' := ?_) (msk 31 24) rfl rfl (qaq HT_.out (by kernel_rfl)) (fun _ _ _ h => h) (Or.inr ⟨by rfl, rfl⟩) ?_ ?_; rotate_left; (focus (simp only [Act.put, List.setIfInBounds_toArray, List.set_cons_zero, List.set_cons_succ, i64_w, i32_w]; rfl))
    refine pure_ (i := 24) (N := some 49) (v := undef) (a' := ?_) (msk 31 25) rfl rfl (qaq HT_.out (by kernel_rfl)) (fun _ _ _ h => h) (Or.inr ⟨by rfl, rfl⟩) ?_ ?_; rotate_left; (focus (simp only [Act.put, List.setIfInBounds_toArray, List.set_cons_zero, List.set_cons_succ, i64_w, i32_w]; rfl))
    refine pure_ (i := 25) (N := some 50) (v := undef) (a' := ?_) (msk 31 26) rfl rfl (qaq HT_.out (by kernel_rfl)) (fun _ _ _ h => h) (Or.inr ⟨by rfl, rfl⟩) ?_ ?_; rotate_left; (focus (simp only [Act.put, List.setIfInBounds_toArray, List.set_cons_zero, List.set_cons_succ, i64_w, i32_w]; rfl))
    refine pure_ (i := 26) (N := some 51) (v := undef) (a' := ?_) (msk 31 27) rfl rfl (qaq HT_.out (by kernel_rfl)) (fun _ _ _ h => h) (Or.inr ⟨by rfl, rfl⟩) ?_ ?_; rotate_left; (focus (simp only [Act.put, List.setIfInBounds_toArray, List.set_cons_zero, List.set_cons_succ, i64_w, i32_w]; rfl))
    refine pure_ (i := 27) (N := some 52) (v := undef) (a' := ?_) (msk 31 28) rfl rfl (qaq HT_.out (by kernel_rfl)) (fun _ _ _ h => h) (Or.inr ⟨by rfl, rfl⟩) ?_ ?_; rotate_left; (focus (simp only [Act.put, List.setIfInBounds_toArray, List.set_cons_zero, List.set_cons_succ, i64_w, i32_w]; rfl))
    refine pure_ (i := 28) (N := some 53) (v := undef) (a' := ?_) (msk 31 29) rfl rfl (qaq HT_.out (by kernel_rfl)) (fun _ _ _ h => h) (Or.inr ⟨by rfl, rfl⟩) ?_ ?_; rotate_left; (focus (simp only [Act.put, List.setIfInBounds_toArray, List.set_cons_zero, List.set_cons_succ, i64_w, i32_w]; rfl))
    refine pure_ (i := 29) (N := some 54) (v := undef) (a' := ?_) (msk 31 30) rfl rfl (qaq HT_.out (by kernel_rfl)) (fun _ _ _ h => h) (Or.inr ⟨by rfl, rfl⟩) ?_ ?_; rotate_left; (focus (simp only [Act.put, List.setIfInBounds_toArray, List.set_cons_zero, List.set_cons_succ, i64_w, i32_w]; rfl))
    refine pure_ (i := 30) (N := some 55) (v := ?_) (a' := ?_) (msk 31 31) rfl rfl (qaq HT_.out (by kernel_rfl)) (fun _ _ _ h => h) (Or.inl ⟨by rfl, ?_⟩) ?_ ?_; rotate_left; (focus (intro w'; go_simp; with_reducible rfl)); rotate_left; (focus (simp only [Act.put, List.setIfInBounds_toArray, List.set_cons_zero, List.set_cons_succ, i64_w, i32_w]; rfl))
    refine done_ (done_of HT_.out (by kernel_rfl)) ?_
    try go_wp2
    go_meet
    case rel => exact ⟨_, rfl, ⟨rfl⟩, HP4.out.2.2.2⟩
   | true =>
    have HVAL2 : qab (∀ W, Below w.heap.size w W → Calls Try.prog 54 #[.agg #[.slice A0_0 l0_0.length c0_0, .slice A0_1 l0_1.length c0_1, .slice A0_2 l0_2.length c0_2]] W fun e w' => e = .returned (.bool true) ∧ Below W.heap.size W w') := ⟨fun W hW => by have h := HVAL.out W hW; rw [hv] at h; exact h⟩
    clear HVAL
    cases hi : inB a1 0 (wrap64 ((l0_0.length : Int) - 1)) with
    | false =>
     have hk : ok = false := by rw [HOK.out, hv, hi]; rfl
     subst hk
     have HIN : qab (∀ W, Calls Try.prog 55 #[.int .i64 a1, .int .i64 0, .int .i64 (wrap64 ((l0_0.length : Int) - 1))] W fun e w' => e = .returned (.bool false) ∧ Below W.heap.size W w') := ⟨fun W => by have h := in_calls a1 0 (wrap64 ((l0_0.length : Int) - 1)) W; rw [hi] at h; exact h⟩
     clear hv HOK hi
     refine start_ (n := 31) (S := fun w' => w'.cell? ⟨gb, 0, none⟩ = some (.slice A0_0 l0_0.length c0_0) ∧ w'.cell? ⟨gb, 1, none⟩ = some (.slice A0_1 l0_1.length c0_1) ∧ w'.cell? ⟨gb, 2, none⟩ = some (.slice A0_2 l0_2.length c0_2) ∧ qab (P0 w gb g8 #[.slice A0_0 l0_0.length c0_0, .slice A0_1 l0_1.length c0_1, .slice A0_2 l0_2.length c0_2] w')) (ds := []) (msk 31 0) (by kernel_rfl) rfl (by kernel_rfl) HP3.out (fun hHeld => ?_); refine with_tabW pipe_Play.tab3 pipe_Play.bits3 (fun HT_ HW_ => ?_)
     refine take_ (i := 0) (N := some 25) (v := ?_) (a' := ?_) (msk 31 1) rfl rfl (take_ofW HT_.out HW_.out (by kernel_rfl)) (fun _ _ _ h => h) (Or.inl ⟨by rfl, ?_⟩) hHeld ?_ ?_; rotate_left; (focus (rintro w' ⟨s0, s1, s2, s3⟩; go_simp; with_reducible rfl)); rotate_left; (focus (simp only [Act.put, List.setIfInBounds_toArray, List.set_cons_zero, List.set_cons_succ, i64_w, i32_w]; rfl))
     refine one_ (i := 1) (N := some 26) (msk 31 2) rfl rfl (one_of HT_.out (by kernel_rfl)) (by decide) (fun K hK => ?_)
     refine goes_ Try.func54 (by kernel_rfl) rfl #[.agg #[.slice A0_0 l0_0.length c0_0, .slice A0_1 l0_1.length c0_1, .slice A0_2 l0_2.length c0_2]] (by rfl) rfl rfl (by (try simp only [List.map_toArray, List.map_cons, List.map_nil]); first | done | rfl | (simp only [List.length_drop, List.length_take]; rfl)) ?_
     refine (HVAL2.out _ (P0.hb hHeld.2.2.2.out)).mono ?_; rintro e w5 ⟨rfl, hb⟩; have HP4 := qab.mk (HT.out w5 (P0.below hHeld.2.2.2.out hb)); clear hb; refine ⟨_, rfl, ?_⟩; refine hK.out _ _ HP4.out (fun hHeld => ?_); clear hK K; refine norm_ (a' := ?_) ?_ ?_; rotate_left; (focus (show Act.put _ (some 26) _ = _; simp only [Act.put, List.setIfInBounds_toArray, List.set_cons_zero, List.set_cons_succ, i64_w, i32_w]; rfl))
     refine pure_ (i := 2) (N := some 27) (v := ?_) (a' := ?_) (msk 31 3) rfl rfl (qaq HT_.out (by kernel_rfl)) (fun _ _ _ h => h) (Or.inl ⟨by rfl, ?_⟩) ?_ ?_; rotate_left; (focus (intro w'; go_simp; with_reducible rfl)); rotate_left; (focus (simp only [Act.put, List.setIfInBounds_toArray, List.set_cons_zero, List.set_cons_succ, i64_w, i32_w]; rfl))
     refine pure_ (i := 3) (N := some 28) (v := ?_) (a' := ?_) (msk 31 4) rfl rfl (qaq HT_.out (by kernel_rfl)) (fun _ _ _ h => h) (Or.inl ⟨by rfl, ?_⟩) ?_ ?_; rotate_left; (focus (intro w'; go_simp; with_reducible rfl)); rotate_left; (focus (simp only [Act.put, List.setIfInBounds_toArray, List.set_cons_zero, List.set_cons_succ, i64_w, i32_w]; rfl))
     refine pure_ (i := 4) (N := some 29) (v := ?_) (a' := ?_) (msk 31 5) rfl rfl (qaq HT_.out (by kernel_rfl)) (fun _ _ _ h => h) (Or.inl ⟨by rfl, ?_⟩) ?_ ?_; rotate_left; (focus (intro w'; go_simp; with_reducible rfl)); rotate_left; (focus (simp only [Act.put, List.setIfInBounds_toArray, List.set_cons_zero, List.set_cons_succ, i64_w, i32_w]; rfl))
     refine pure_ (i := 5) (N := some 30) (v := ?_) (a' := ?_) (msk 31 6) rfl rfl (qaq HT_.out (by kernel_rfl)) (fun _ _ _ h => h) (Or.inl ⟨by rfl, ?_⟩) ?_ ?_; rotate_left; (focus (intro w'; go_simp; with_reducible rfl)); rotate_left; (focus (simp only [Act.put, List.setIfInBounds_toArray, List.set_cons_zero, List.set_cons_succ, i64_w, i32_w]; rfl))
     refine take_ (i := 6) (N := some 31) (v := ?_) (a' := ?_) (msk 31 7) rfl rfl (take_ofW HT_.out HW_.out (by kernel_rfl)) (fun _ _ _ h => h) (Or.inl ⟨by rfl, ?_⟩) hHeld ?_ ?_; rotate_left; (focus (rintro w' ⟨s0, s1, s2, s3⟩; go_simp; with_reducible rfl)); rotate_left; (focus (simp only [Act.put, List.setIfInBounds_toArray, List.set_cons_zero, List.set_cons_succ, i64_w, i32_w]; rfl))
     refine pure_ (i := 7) (N := some 32) (v := ?_) (a' := ?_) (msk 31 8) rfl rfl (qaq HT_.out (by kernel_rfl)) (fun _ _ _ h => h) (Or.inl ⟨by rfl, ?_⟩) ?_ ?_; rotate_left; (focus (intro w'; go_simp; with_reducible rfl)); rotate_left; (focus (simp only [Act.put, List.setIfInBounds_toArray, List.set_cons_zero, List.set_cons_succ, i64_w, i32_w]; rfl))
     refine pure_ (i := 8) (N := some 33) (v := ?_) (a' := ?_) (msk 31 9) rfl rfl (qaq HT_.out (by kernel_rfl)) (fun _ _ _ h => h) (Or.inl ⟨by rfl, ?_⟩) ?_ ?_; rotate_left; (focus (intro w'; go_simp; with_reducible rfl)); rotate_left; (focus (simp only [Act.put, List.setIfInBounds_toArray, List.set_cons_zero, List.set_cons_succ, i64_w, i32_w]; rfl))
     refine one_ (i := 9) (N := some 34) (msk 31 10) rfl rfl (one_of HT_.out (by kernel_rfl)) (by decide) (fun K hK => ?_)
     refine goes_ Try.func55 (by kernel_rfl) rfl #[.int .i64 a1, .int .i64 0, .int .i64 (wrap64 ((l0_0.length : Int) - 1))] (by rfl) rfl rfl (by (try simp only [List.map_toArray, List.map_cons, List.map_nil]); first | done | rfl | (simp only [List.length_drop, List.length_take]; rfl)) ?_
     refine (HIN.out _).mono ?_; rintro e w6 ⟨rfl, hb⟩; have HP5 := qab.mk (HT.out w6 (P0.below hHeld.2.2.2.out hb)); clear hb; refine ⟨_, rfl, ?_⟩; refine hK.out _ _ HP5.out (fun hHeld => ?_); clear hK K; refine norm_ (a' := ?_) ?_ ?_; rotate_left; (focus (show Act.put _ (some 34) _ = _; simp only [Act.put, List.setIfInBounds_toArray, List.set_cons_zero, List.set_cons_succ, i64_w, i32_w]; rfl))
     refine pure_ (i := 10) (N := some 35) (v := ?_) (a' := ?_) (msk 31 11) rfl rfl (qaq HT_.out (by kernel_rfl)) (fun _ _ _ h => h) (Or.inl ⟨by rfl, ?_⟩) ?_ ?_; rotate_left; (focus (intro w'; go_simp; with_reducible rfl)); rotate_left; (focus (simp only [Act.put, List.setIfInBounds_toArray, List.set_cons_zero, List.set_cons_succ, i64_w, i32_w]; rfl))
     refine pure_ (i := 11) (N := some 36) (v := ?_) (a' := ?_) (msk 31 12) rfl rfl (qaq HT_.out (by kernel_rfl)) (fun _ _ _ h => h) (Or.inl ⟨by rfl, ?_⟩) ?_ ?_; rotate_left; (focus (intro w'; go_simp; with_reducible rfl)); rotate_left; (focus (simp only [Act.put, List.setIfInBounds_toArray, List.set_cons_zero, List.set_cons_succ, i64_w, i32_w]; rfl))
     refine pure_ (i := 12) (N := some 37) (v := ?_) (a' := ?_) (msk 31 13) rfl rfl (qaq HT_.out (by kernel_rfl)) (fun _ _ _ h => h) (Or.inl ⟨by rfl, ?_⟩) ?_ ?_; rotate_left; (focus (intro w'; go_simp; with_reducible rfl)); rotate_left; (focus (simp only [Act.put, List.setIfInBounds_toArray, List.set_cons_zero, List.set_cons_succ, i64_w, i32_w]; rfl))
     refine pure_ (i := 13) (N := some 38) (v := undef) (a' := ?_) (msk 31 14) rfl rfl (qaq HT_.out (by kernel_rfl)) (fun _ _ _ h => h) (Or.inr ⟨by rfl, rfl⟩) ?_ ?_; rotate_left; (focus (simp only [Act.put, List.setIfInBounds_toArray, List.set_cons_zero, List.set_cons_succ, i64_w, i32_w]; rfl))
     refine pure_ (i := 14) (N := some 39) (v := undef) (a' := ?_) (msk 31 15) rfl rfl (qaq HT_.out (by kernel_rfl)) (fun _ _ _ h => h) (Or.inr ⟨by rfl, rfl⟩) ?_ ?_; rotate_left; (focus (simp only [Act.put, List.setIfInBounds_toArray, List.set_cons_zero, List.set_cons_succ, i64_w, i32_w]; rfl))
     refine pure_ (i := 15) (N := some 40) (v := undef) (a' := ?_) (msk 31 16) rfl rfl (qaq HT_.out (by kernel_rfl)) (fun _ _ _ h => h) (Or.inr ⟨by rfl, rfl⟩) ?_ ?_; rotate_left; (focus (simp only [Act.put, List.setIfInBounds_toArray, List.set_cons_zero, List.set_cons_succ, i64_w, i32_w]; rfl))
     refine pure_ (i := 16) (N := some 41) (v := undef) (a' := ?_) (msk 31 17) rfl rfl (qaq HT_.out (by kernel_rfl)) (fun _ _ _ h => h) (Or.inr ⟨by rfl, rfl⟩) ?_ ?_; rotate_left; (focus (simp only [Act.put, List.setIfInBounds_toArray, List.set_cons_zero, List.set_cons_succ, i64_w, i32_w]; rfl))
     refine pure_ (i := 17) (N := some 42) (v := undef) (a' := ?_) (msk 31 18) rfl rfl (qaq HT_.out (by kernel_rfl)) (fun _ _ _ h => h) (Or.inr ⟨by rfl, rfl⟩) ?_ ?_; rotate_left; (focus (simp only [Act.put, List.setIfInBounds_toArray, List.set_cons_zero, List.set_cons_succ, i64_w, i32_w]; rfl))
     refine pure_ (i := 18) (N := some 43) (v := undef) (a' := ?_) (msk 31 19) rfl rfl (qaq HT_.out (by kernel_rfl)) (fun _ _ _ h => h) (Or.inr ⟨by rfl, rfl⟩) ?_ ?_; rotate_left; (focus (simp only [Act.put, List.setIfInBounds_toArray, List.set_cons_zero, List.set_cons_succ, i64_w, i32_w]; rfl))
     refine pure_ (i := 19) (N := some 44) (v := undef) (a' := ?_) (msk 31 20) rfl rfl (qaq HT_.out (by kernel_rfl)) (fun _ _ _ h => h) (Or.inr ⟨by rfl, rfl⟩) ?_ ?_; rotate_left; (focus (simp only [Act.put, List.setIfInBounds_toArray, List.set_cons_zero, List.set_cons_succ, i64_w, i32_w]; rfl))
     refine pure_ (i := 20) (N := some 45) (v := undef) (a' := ?_) (msk 31 21) rfl rfl (qaq HT_.out (by kernel_rfl)) (fun _ _ _ h => h) (Or.inr ⟨by rfl, rfl⟩) ?_ ?_; rotate_left; (focus (simp only [Act.put, List.setIfInBounds_toArray, List.set_cons_zero, List.set_cons_succ, i64_w, i32_w]; rfl))
     refine pure_ (i := 21) (N := some 46) (v := undef) (a' := ?_) (msk 31 22) rfl rfl (qaq HT_.out (by kernel_rfl)) (fun _ _ _ h => h) (Or.inr ⟨by rfl, rfl⟩) ?_ ?_; rotate_left; (focus (simp only [Act.put, List.setIfInBounds_toArray, List.set_cons_zero, List.set_cons_succ, i64_w, i32_w]; rfl))
     refine pure_ (i := 22) (N := some 47) (v := undef) (a' := ?_) (msk 31 23) rfl rfl (qaq HT_.out (by kernel_rfl)) (fun _ _ _ h => h) (Or.inr ⟨by rfl, rfl⟩) ?_ ?_; rotate_left; (focus (simp only [Act.put, List.setIfInBounds_toArray, List.set_cons_zero, List.set_cons_succ, i64_w, i32_w]; rfl))
     refine pure_ (i := 23) (N := some 48) (v := undef) (a' := ?_) (msk 31 24) rfl rfl (qaq HT_.out (by kernel_rfl)) (fun _ _ _ h => h) (Or.inr ⟨by rfl, rfl⟩) ?_ ?_; rotate_left; (focus (simp only [Act.put, List.setIfInBounds_toArray, List.set_cons_zero, List.set_cons_succ, i64_w, i32_w]; rfl))
     refine pure_ (i := 24) (N := some 49) (v := undef) (a' := ?_) (msk 31 25) rfl rfl (qaq HT_.out (by kernel_rfl)) (fun _ _ _ h => h) (Or.inr ⟨by rfl, rfl⟩) ?_ ?_; rotate_left; (focus (simp only [Act.put, List.setIfInBounds_toArray, List.set_cons_zero, List.set_cons_succ, i64_w, i32_w]; rfl))
     refine pure_ (i := 25) (N := some 50) (v := undef) (a' := ?_) (msk 31 26) rfl rfl (qaq HT_.out (by kernel_rfl)) (fun _ _ _ h => h) (Or.inr ⟨by rfl, rfl⟩) ?_ ?_; rotate_left; (focus (simp only [Act.put, List.setIfInBounds_toArray, List.set_cons_zero, List.set_cons_succ, i64_w, i32_w]; rfl))
     refine pure_ (i := 26) (N := some 51) (v := undef) (a' := ?_) (msk 31 27) rfl rfl (qaq HT_.out (by kernel_rfl)) (fun _ _ _ h => h) (Or.inr ⟨by rfl, rfl⟩) ?_ ?_; rotate_left; (focus (simp only [Act.put, List.setIfInBounds_toArray, List.set_cons_zero, List.set_cons_succ, i64_w, i32_w]; rfl))
     refine pure_ (i := 27) (N := some 52) (v := undef) (a' := ?_) (msk 31 28) rfl rfl (qaq HT_.out (by kernel_rfl)) (fun _ _ _ h => h) (Or.inr ⟨by rfl, rfl⟩) ?_ ?_; rotate_left; (focus (simp only [Act.put, List.setIfInBounds_toArray, List.set_cons_zero, List.set_cons_succ, i64_w, i32_w]; rfl))
     refine pure_ (i := 28) (N := some 53) (v := undef) (a' := ?_) (msk 31 29) rfl rfl (qaq HT_.out (by kernel_rfl)) (fun _ _ _ h => h) (Or.inr ⟨by rfl, rfl⟩) ?_ ?_; rotate_left; (focus (simp only [Act.put, List.setIfInBounds_toArray, List.set_cons_zero, List.set_cons_succ, i64_w, i32_w]; rfl))
     refine pure_ (i := 29) (N := some 54) (v := undef) (a' := ?_) (msk 31 30) rfl rfl (qaq HT_.out (by kernel_rfl)) (fun _ _ _ h => h) (Or.inr ⟨by rfl, rfl⟩) ?_ ?_; rotate_left; (focus (simp only [Act.put, List.setIfInBounds_toArray, List.set_cons_zero, List.set_cons_succ, i64_w, i32_w]; rfl))
     refine pure_ (i := 30) (N := some 55) (v := ?_) (a' := ?_) (msk 31 31) rfl rfl (qaq HT_.out (by kernel_rfl)) (fun _ _ _ h => h) (Or.inl ⟨by rfl, ?_⟩) ?_ ?_; rotate_left; (focus (intro w'; go_simp; with_reducible rfl)); rotate_left; (focus (simp only [Act.put, List.setIfInBounds_toArray, List.set_cons_zero, List.set_cons_succ, i64_w, i32_w]; rfl))
     refine done_ (done_of HT_.out (by kernel_rfl)) ?_
     try go_wp2
     go_meet
     case rel => exact ⟨_, rfl, ⟨rfl⟩, HP5.out.2.2.2⟩
    | true =>
     have HIN : qab (∀ W, Calls Try.prog 55 #[.int .i64 a1, .int .i64 0, .int .i64 (wrap64 ((l0_0.length : Int) - 1))] W fun e w' => e = .returned (.bool true) ∧ Below W.heap.size W w') := ⟨fun W => by have h := in_calls a1 0 (wrap64 ((l0_0.length : Int) - 1)) W; rw [hi] at h; exact h⟩
     obtain ⟨i0, i1⟩ : 0 ≤ a1 ∧ a1 < l0_0.length := by
      have hl := valid_five hv
      unfold inB at hi
      simp only [Bool.and_eq_true, decide_eq_true_eq] at hi
      unfold wrap64 at hi
      omega
     have hk : ok = inB a2 (qak l0_0 a1).f0.f0 (qak l0_0 a1).f0.f1 := by rw [HOK.out, hv, hi]; rfl
     clear hv HOK hi
     obtain ⟨ad, e, hl0, hl1, hl2, hl3, hl4, hl5, hl6, hl7, hl8, hl9, hl10, hl11⟩ := at_T39 HR0.out a1 i0 i1
     cases e
     clear hl2 hl3 hl4 hl5 hl6 hl7 hl8 hl9 hl10 hl11
     obtain ⟨n, rfl⟩ := Int.eq_ofNat_of_zero_le i0
     simp only [Int.toNat_natCast] at hl0 hl1
     have htup2 : ∀ W, P0 w gb g8 #[.slice (some ad) l0_0.length c0_0, .slice A0_1 l0_1.length c0_1, .slice A0_2 l0_2.length c0_2] W → W.cell? ⟨gb, 0, none⟩ = some (.slice (some ad) l0_0.length c0_0) ∧ W.cell? ⟨gb, 1, none⟩ = some (.slice A0_1 l0_1.length c0_1) ∧ W.cell? ⟨gb, 2, none⟩ = some (.slice A0_2 l0_2.length c0_2) ∧ W.cell? (ad.add (n * 12)) = some (.int .i64 (qak l0_0 n).f0.f0) ∧ W.cell? ⟨(ad.add (n * 12)).block, (ad.add (n * 12)).off + 1, none⟩ = some (.int .i64 (qak l0_0 n).f0.f1) ∧ qab (P0 w gb g8 #[.slice (some ad) l0_0.length c0_0, .slice A0_1 l0_1.length c0_1, .slice A0_2 l0_2.length c0_2] W) := fun W h =>
      ⟨qaa h.b 0, qaa h.b 1, qaa h.b 2, (h.hb.cell (World.block_lt_of_cell? w _ hl0)).trans hl0, (h.hb.cell (World.block_lt_of_cell? w _ hl1)).trans hl1, ⟨h⟩⟩
     have hp3 := HP.out.below (below_drew (Below.refl w3.heap.size w3))
     have HT2 := qab.mk htup2
     have HP6 := qab.mk (htup2 _ hp3)
     clear htup2 hp3 hl0 hl1 HP3 HT
     generalize (qak l0_0 n).f0.f0 = b0 at hk HP6 HT2
     generalize (qak l0_0 n).f0.f1 = b1 at hk HP6 HT2
     subst hk
     have i2 : (0 : Int) ≤ n := i0
     refine start_ (n := 31) (S := fun w' => w'.cell? ⟨gb, 0, none⟩ = some (.slice (some ad) l0_0.length c0_0) ∧ w'.cell? ⟨gb, 1, none⟩ = some (.slice A0_1 l0_1.length c0_1) ∧ w'.cell? ⟨gb, 2, none⟩ = some (.slice A0_2 l0_2.length c0_2) ∧ w'.cell? (ad.add (n * 12)) = some (.int .i64 b0) ∧ w'.cell? ⟨(ad.add (n * 12)).block, (ad.add (n * 12)).off + 1, none⟩ = some (.int .i64 b1) ∧ qab (P0 w gb g8 #[.slice (some ad) l0_0.length c0_0, .slice A0_1 l0_1.length c0_1, .slice A0_2 l0_2.length c0_2] w')) (ds := []) (msk 31 0) (by kernel_rfl) rfl (by kernel_rfl) HP6.out (fun hHeld => ?_); refine with_tabW pipe_Play.tab3 pipe_Play.bits3 (fun HT_ HW_ => ?_)
     refine take_ (i := 0) (N := some 25) (v := ?_) (a' := ?_) (msk 31 1) rfl rfl (take_ofW HT_.out HW_.out (by kernel_rfl)) (fun _ _ _ h => h) (Or.inl ⟨by rfl, ?_⟩) hHeld ?_ ?_; rotate_left; (focus (rintro w' ⟨s0, s1, s2, s3, s4, s5⟩; go_simp; with_reducible rfl)); rotate_left; (focus (simp only [Act.put, List.setIfInBounds_toArray, List.set_cons_zero, List.set_cons_succ, i64_w, i32_w]; rfl))
     refine one_ (i := 1) (N := some 26) (msk 31 2) rfl rfl (one_of HT_.out (by kernel_rfl)) (by decide) (fun K hK => ?_)
     refine goes_ Try.func54 (by kernel_rfl) rfl #[.agg #[.slice (some ad) l0_0.length c0_0, .slice A0_1 l0_1.length c0_1, .slice A0_2 l0_2.length c0_2]] (by rfl) rfl rfl (by (try simp only [List.map_toArray, List.map_cons, List.map_nil]); first | done | rfl | (simp only [List.length_drop, List.length_take]; rfl)) ?_
     refine (HVAL2.out _ (P0.hb hHeld.2.2.2.2.2.out)).mono ?_; rintro e w5 ⟨rfl, hb⟩; have HP4 := qab.mk (HT2.out w5 (P0.below hHeld.2.2.2.2.2.out hb)); clear hb; refine ⟨_, rfl, ?_⟩; refine hK.out _ _ HP4.out (fun hHeld => ?_); clear hK K; refine norm_ (a' := ?_) ?_ ?_; rotate_left; (focus (show Act.put _ (some 26) _ = _; simp only [Act.put, List.setIfInBounds_toArray, List.set_cons_zero, List.set_cons_succ, i64_w, i32_w]; rfl))
     refine pure_ (i := 2) (N := some 27) (v := ?_) (a' := ?_) (msk 31 3) rfl rfl (qaq HT_.out (by kernel_rfl)) (fun _ _ _ h => h) (Or.inl ⟨by rfl, ?_⟩) ?_ ?_; rotate_left; (focus (intro w'; go_simp; with_reducible rfl)); rotate_left; (focus (simp only [Act.put, List.setIfInBounds_toArray, List.set_cons_zero, List.set_cons_succ, i64_w, i32_w]; rfl))
     refine pure_ (i := 3) (N := some 28) (v := ?_) (a' := ?_) (msk 31 4) rfl rfl (qaq HT_.out (by kernel_rfl)) (fun _ _ _ h => h) (Or.inl ⟨by rfl, ?_⟩) ?_ ?_; rotate_left; (focus (intro w'; go_simp; with_reducible rfl)); rotate_left; (focus (simp only [Act.put, List.setIfInBounds_toArray, List.set_cons_zero, List.set_cons_succ, i64_w, i32_w]; rfl))
     refine pure_ (i := 4) (N := some 29) (v := ?_) (a' := ?_) (msk 31 5) rfl rfl (qaq HT_.out (by kernel_rfl)) (fun _ _ _ h => h) (Or.inl ⟨by rfl, ?_⟩) ?_ ?_; rotate_left; (focus (intro w'; go_simp; with_reducible rfl)); rotate_left; (focus (simp only [Act.put, List.setIfInBounds_toArray, List.set_cons_zero, List.set_cons_succ, i64_w, i32_w]; rfl))
     refine pure_ (i := 5) (N := some 30) (v := ?_) (a' := ?_) (msk 31 6) rfl rfl (qaq HT_.out (by kernel_rfl)) (fun _ _ _ h => h) (Or.inl ⟨by rfl, ?_⟩) ?_ ?_; rotate_left; (focus (intro w'; go_simp; with_reducible rfl)); rotate_left; (focus (simp only [Act.put, List.setIfInBounds_toArray, List.set_cons_zero, List.set_cons_succ, i64_w, i32_w]; rfl))
     refine take_ (i := 6) (N := some 31) (v := ?_) (a' := ?_) (msk 31 7) rfl rfl (take_ofW HT_.out HW_.out (by kernel_rfl)) (fun _ _ _ h => h) (Or.inl ⟨by rfl, ?_⟩) hHeld ?_ ?_; rotate_left; (focus (rintro w' ⟨s0, s1, s2, s3, s4, s5⟩; go_simp; with_reducible rfl)); rotate_left; (focus (simp only [Act.put, List.setIfInBounds_toArray, List.set_cons_zero, List.set_cons_succ, i64_w, i32_w]; rfl))
     refine pure_ (i := 7) (N := some 32) (v := ?_) (a' := ?_) (msk 31 8) rfl rfl (qaq HT_.out (by kernel_rfl)) (fun _ _ _ h => h) (Or.inl ⟨by rfl, ?_⟩) ?_ ?_; rotate_left; (focus (intro w'; go_simp; with_reducible rfl)); rotate_left; (focus (simp only [Act.put, List.setIfInBounds_toArray, List.set_cons_zero, List.set_cons_succ, i64_w, i32_w]; rfl))
     refine pure_ (i := 8) (N := some 33) (v := ?_) (a' := ?_) (msk 31 9) rfl rfl (qaq HT_.out (by kernel_rfl)) (fun _ _ _ h => h) (Or.inl ⟨by rfl, ?_⟩) ?_ ?_; rotate_left; (focus (intro w'; go_simp; with_reducible rfl)); rotate_left; (focus (simp only [Act.put, List.setIfInBounds_toArray, List.set_cons_zero, List.set_cons_succ, i64_w, i32_w]; rfl))
     refine one_ (i := 9) (N := some 34) (msk 31 10) rfl rfl (one_of HT_.out (by kernel_rfl)) (by decide) (fun K hK => ?_)
     refine goes_ Try.func55 (by kernel_rfl) rfl #[.int .i64 (n : Int), .int .i64 0, .int .i64 (wrap64 ((l0_0.length : Int) - 1))] (by rfl) rfl rfl (by (try simp only [List.map_toArray, List.map_cons, List.map_nil]); first | done | rfl | (simp only [List.length_drop, List.length_take]; rfl)) ?_
     refine (HIN.out _).mono ?_; rintro e w6 ⟨rfl, hb⟩; have HP5 := qab.mk (HT2.out w6 (P0.below hHeld.2.2.2.2.2.out hb)); clear hb; refine ⟨_, rfl, ?_⟩; refine hK.out _ _ HP5.out (fun hHeld => ?_); clear hK K; refine norm_ (a' := ?_) ?_ ?_; rotate_left; (focus (show Act.put _ (some 34) _ = _; simp only [Act.put, List.setIfInBounds_toArray, List.set_cons_zero, List.set_cons_succ, i64_w, i32_w]; rfl))
     refine pure_ (i := 10) (N := some 35) (v := ?_) (a' := ?_) (msk 31 11) rfl rfl (qaq HT_.out (by kernel_rfl)) (fun _ _ _ h => h) (Or.inl ⟨by rfl, ?_⟩) ?_ ?_; rotate_left; (focus (intro w'; go_simp; with_reducible rfl)); rotate_left; (focus (simp only [Act.put, List.setIfInBounds_toArray, List.set_cons_zero, List.set_cons_succ, i64_w, i32_w]; rfl))
     refine pure_ (i := 11) (N := some 36) (v := ?_) (a' := ?_) (msk 31 12) rfl rfl (qaq HT_.out (by kernel_rfl)) (fun _ _ _ h => h) (Or.inl ⟨by rfl, ?_⟩) ?_ ?_; rotate_left; (focus (intro w'; go_simp; with_reducible rfl)); rotate_left; (focus (simp only [Act.put, List.setIfInBounds_toArray, List.set_cons_zero, List.set_cons_succ, i64_w, i32_w]; rfl))
     refine pure_ (i := 12) (N := some 37) (v := ?_) (a' := ?_) (msk 31 13) rfl rfl (qaq HT_.out (by kernel_rfl)) (fun _ _ _ h => h) (Or.inl ⟨by rfl, ?_⟩) ?_ ?_; rotate_left; (focus (intro w'; go_simp; with_reducible rfl)); rotate_left; (focus (simp only [Act.put, List.setIfInBounds_toArray, List.set_cons_zero, List.set_cons_succ, i64_w, i32_w]; rfl))
     refine pure_ (i := 13) (N := some 38) (v := ?_) (a' := ?_) (msk 31 14) rfl rfl (qaq HT_.out (by kernel_rfl)) (fun _ _ _ h => h) (Or.inl ⟨by rfl, ?_⟩) ?_ ?_; rotate_left; (focus (intro w'; go_simp; with_reducible rfl)); rotate_left; (focus (simp only [Act.put, List.setIfInBounds_toArray, List.set_cons_zero, List.set_cons_succ, i64_w, i32_w]; rfl))
     refine pure_ (i := 14) (N := some 39) (v := ?_) (a' := ?_) (msk 31 15) rfl rfl (qaq HT_.out (by kernel_rfl)) (fun _ _ _ h => h) (Or.inl ⟨by rfl, ?_⟩) ?_ ?_; rotate_left; (focus (intro w'; go_simp; with_reducible rfl)); rotate_left; (focus (simp only [Act.put, List.setIfInBounds_toArray, List.set_cons_zero, List.set_cons_succ, i64_w, i32_w]; rfl))
     refine take_ (i := 15) (N := some 40) (v := ?_) (a' := ?_) (msk 31 16) rfl rfl (take_ofW HT_.out HW_.out (by kernel_rfl)) (fun _ _ _ h => h) (Or.inl ⟨by rfl, ?_⟩) hHeld ?_ ?_; rotate_left; (focus (rintro w' ⟨s0, s1, s2, s3, s4, s5⟩; go_simp; with_reducible rfl)); rotate_left; (focus (simp only [Act.put, List.setIfInBounds_toArray, List.set_cons_zero, List.set_cons_succ, i64_w, i32_w]; rfl))
     refine pure_ (i := 16) (N := some 41) (v := ?_) (a' := ?_) (msk 31 17) rfl rfl (qaq HT_.out (by kernel_rfl)) (fun _ _ _ h => h) (Or.inl ⟨by rfl, ?_⟩) ?_ ?_; rotate_left; (focus (intro w'; go_simp; with_reducible rfl)); rotate_left; (focus (simp only [Act.put, List.setIfInBounds_toArray, List.set_cons_zero, List.set_cons_succ, i64_w, i32_w]; rfl))
     refine pure_ (i := 17) (N := some 42) (v := ?_) (a' := ?_) (msk 31 18) rfl rfl (qaq HT_.out (by kernel_rfl)) (fun _ _ _ h => h) (Or.inl ⟨by rfl, ?_⟩) ?_ ?_; rotate_left; (focus (intro w'; go_simp; with_reducible rfl)); rotate_left; (focus (simp only [Act.put, List.setIfInBounds_toArray, List.set_cons_zero, List.set_cons_succ, i64_w, i32_w]; rfl))
     refine pure_ (i := 18) (N := some 43) (v := ?_) (a' := ?_) (msk 31 19) rfl rfl (qaq HT_.out (by kernel_rfl)) (fun _ _ _ h => h) (Or.inl ⟨by rfl, ?_⟩) ?_ ?_; rotate_left; (focus (intro w'; go_simp; with_reducible rfl)); rotate_left; (focus (simp only [Act.put, List.setIfInBounds_toArray, List.set_cons_zero, List.set_cons_succ, i64_w, i32_w]; rfl))
     refine pure_ (i := 19) (N := some 44) (v := ?_) (a' := ?_) (msk 31 20) rfl rfl (qaq HT_.out (by kernel_rfl)) (fun _ _ _ h => h) (Or.inl ⟨by rfl, ?_⟩) ?_ ?_; rotate_left; (focus (intro w'; go_simp; with_reducible rfl)); rotate_left; (focus (simp only [Act.put, List.setIfInBounds_toArray, List.set_cons_zero, List.set_cons_succ, i64_w, i32_w]; rfl))
     refine take_ (i := 20) (N := some 45) (v := ?_) (a' := ?_) (msk 31 21) rfl rfl (take_ofW HT_.out HW_.out (by kernel_rfl)) (fun _ _ _ h => h) (Or.inl ⟨by rfl, ?_⟩) hHeld ?_ ?_; rotate_left; (focus (rintro w' ⟨s0, s1, s2, s3, s4, s5⟩; go_simp; with_reducible rfl)); rotate_left; (focus (simp only [Act.put, List.setIfInBounds_toArray, List.set_cons_zero, List.set_cons_succ, i64_w, i32_w]; rfl))
     refine pure_ (i := 21) (N := some 46) (v := ?_) (a' := ?_) (msk 31 22) rfl rfl (qaq HT_.out (by kernel_rfl)) (fun _ _ _ h => h) (Or.inl ⟨by rfl, ?_⟩) ?_ ?_; rotate_left; (focus (intro w'; go_simp; with_reducible rfl)); rotate_left; (focus (simp only [Act.put, List.setIfInBounds_toArray, List.set_cons_zero, List.set_cons_succ, i64_w, i32_w]; rfl))
     refine take_ (i := 22) (N := some 47) (v := ?_) (a' := ?_) (msk 31 23) rfl rfl (take_ofW HT_.out HW_.out (by kernel_rfl)) (fun _ _ _ h => h) (Or.inl ⟨by rfl, ?_⟩) hHeld ?_ ?_; rotate_left; (focus (rintro w' ⟨s0, s1, s2, s3, s4, s5⟩; go_simp; with_reducible rfl)); rotate_left; (focus (simp only [Act.put, List.setIfInBounds_toArray, List.set_cons_zero, List.set_cons_succ, i64_w, i32_w]; rfl))
     refine pure_ (i := 23) (N := some 48) (v := ?_) (a' := ?_) (msk 31 24) rfl rfl (qaq HT_.out (by kernel_rfl)) (fun _ _ _ h => h) (Or.inl ⟨by rfl, ?_⟩) ?_ ?_; rotate_left; (focus (intro w'; go_simp; with_reducible rfl)); rotate_left; (focus (simp only [Act.put, List.setIfInBounds_toArray, List.set_cons_zero, List.set_cons_succ, i64_w, i32_w]; rfl))
     refine pure_ (i := 24) (N := some 49) (v := ?_) (a' := ?_) (msk 31 25) rfl rfl (qaq HT_.out (by kernel_rfl)) (fun _ _ _ h => h) (Or.inl ⟨by rfl, ?_⟩) ?_ ?_; rotate_left; (focus (intro w'; go_simp; with_reducible rfl)); rotate_left; (focus (simp only [Act.put, List.setIfInBounds_toArray, List.set_cons_zero, List.set_cons_succ, i64_w, i32_w]; rfl))
     refine pure_ (i := 25) (N := some 50) (v := ?_) (a' := ?_) (msk 31 26) rfl rfl (qaq HT_.out (by kernel_rfl)) (fun _ _ _ h => h) (Or.inl ⟨by rfl, ?_⟩) ?_ ?_; rotate_left; (focus (intro w'; go_simp; with_reducible rfl)); rotate_left; (focus (simp only [Act.put, List.setIfInBounds_toArray, List.set_cons_zero, List.set_cons_succ, i64_w, i32_w]; rfl))
     refine pure_ (i := 26) (N := some 51) (v := ?_) (a' := ?_) (msk 31 27) rfl rfl (qaq HT_.out (by kernel_rfl)) (fun _ _ _ h => h) (Or.inl ⟨by rfl, ?_⟩) ?_ ?_; rotate_left; (focus (intro w'; go_simp; with_reducible rfl)); rotate_left; (focus (simp only [Act.put, List.setIfInBounds_toArray, List.set_cons_zero, List.set_cons_succ, i64_w, i32_w]; rfl))
     refine take_ (i := 27) (N := some 52) (v := ?_) (a' := ?_) (msk 31 28) rfl rfl (take_ofW HT_.out HW_.out (by kernel_rfl)) (fun _ _ _ h => h) (Or.inl ⟨by rfl, ?_⟩) hHeld ?_ ?_; rotate_left; (focus (rintro w' ⟨s0, s1, s2, s3, s4, s5⟩; go_simp; with_reducible rfl)); rotate_left; (focus (simp only [Act.put, List.setIfInBounds_toArray, List.set_cons_zero, List.set_cons_succ, i64_w, i32_w]; rfl))
     refine one_ (i := 28) (N := some 53) (msk 31 29) rfl rfl (one_of HT_.out (by kernel_rfl)) (by decide) (fun K hK => ?_)
     refine goes_ Try.func55 (by kernel_rfl) rfl #[.int .i64 a2, .int .i64 b0, .int .i64 b1] (by rfl) rfl rfl (by (try simp only [List.map_toArray, List.map_cons, List.map_nil]); first | done | rfl | (simp only [List.length_drop, List.length_take]; rfl)) ?_
     refine (in_calls a2 b0 b1 _).mono ?_; rintro e w7 ⟨rfl, hb⟩; have HP9 := qab.mk (HT2.out w7 (P0.below hHeld.2.2.2.2.2.out hb)); clear hb; refine ⟨_, rfl, ?_⟩; refine hK.out _ _ HP9.out (fun hHeld => ?_); clear hK K; refine norm_ (a' := ?_) ?_ ?_; rotate_left; (focus (show Act.put _ (some 53) _ = _; simp only [Act.put, List.setIfInBounds_toArray, List.set_cons_zero, List.set_cons_succ, i64_w, i32_w]; rfl))
     refine pure_ (i := 29) (N := some 54) (v := ?_) (a' := ?_) (msk 31 30) rfl rfl (qaq HT_.out (by kernel_rfl)) (fun _ _ _ h => h) (Or.inl ⟨by rfl, ?_⟩) ?_ ?_; rotate_left; (focus (intro w'; go_simp; with_reducible rfl)); rotate_left; (focus (simp only [Act.put, List.setIfInBounds_toArray, List.set_cons_zero, List.set_cons_succ, i64_w, i32_w]; rfl))
     refine pure_ (i := 30) (N := some 55) (v := ?_) (a' := ?_) (msk 31 31) rfl rfl (qaq HT_.out (by kernel_rfl)) (fun _ _ _ h => h) (Or.inl ⟨by rfl, ?_⟩) ?_ ?_; rotate_left; (focus (intro w'; go_simp; with_reducible rfl)); rotate_left; (focus (simp only [Act.put, List.setIfInBounds_toArray, List.set_cons_zero, List.set_cons_succ, i64_w, i32_w]; rfl))
     refine done_ (done_of HT_.out (by kernel_rfl)) ?_
     try go_wp2
     go_meet
     case rel => exact ⟨_, rfl, ⟨rfl⟩, HP9.out.2.2.2.2.2⟩
  case rest =>
   clear HP BKgb BKg8 HB
   obtain ⟨nok, rfl, HNK, HP⟩ := hcut
   have BKg8 := qab.mk HP.out.r
   have BKgb := qab.mk HP.out.b
   have HB := qab.mk HP.out.hb
   clear HP
   cases nok with
   | true =>
    obtain rfl : ok = false := by have := HNK.out; simpa using this.symm
    have he := HF2.out
    rw [if_neg (by simp)] at he
    cases he
    have hfg8 := qac BKg8.out; have hcg8_0 : wc.cell? ⟨g8, 0, none⟩ = some (.int .i64 0) := (qaa BKg8.out 0).trans rfl; have hcg8_1 : wc.cell? ⟨g8, 1, none⟩ = some (.int .i64 0) := (qaa BKg8.out 1).trans rfl; have hcg8_2 : wc.cell? ⟨g8, 2, none⟩ = some (.int .i64 0) := (qaa BKg8.out 2).trans rfl; have hcg8_3 : wc.cell? ⟨g8, 3, none⟩ = some (.int .i64 0) := (qaa BKg8.out 3).trans rfl
    go_wp2_with fail
    refine bodyPost_ret (results_ct rfl _ _ g8 31 #[.int .i64 0, .int .i64 0, .int .i64 0, .int .i64 0] (0, 0) _ rfl ((blk_set (blk_set (blk_set (blk_set BKg8.out 0 _) 1 _) 2 _) 3 _)) Try.underlying31 rfl (by kernel_rfl)) rfl ?_
    exact ⟨rfl, (qai (j := 3) (qai (j := 2) (qai (j := 1) (qai (j := 0) HB.out GEg8) GEg8) GEg8) GEg8)⟩
   | false =>
    obtain rfl : ok = true := by have := HNK.out; simpa using this.symm
    clear HNK
    have hok := HOK.out
    clear HOK
    have hok2 := hok.symm
    simp only [Bool.and_eq_true] at hok2
    obtain ⟨hv, hi, _⟩ := hok2
    obtain ⟨i0, i1⟩ : 0 ≤ a1 ∧ a1 < l0_0.length := by
     have hl := valid_five hv
     unfold inB at hi
     simp only [Bool.and_eq_true, decide_eq_true_eq] at hi
     unfold wrap64 at hi
     omega
    clear hok hv hi
    have HF3 : qab (heatR (playGo (qak l0_0 a1) l3 l0_1 (a2, 0, 0, 0)) = (r1, r2, r3, r4, r5)) := ⟨by rw [← HF2.out, if_pos rfl]⟩
    clear HF2 HF
    obtain ⟨ad, e, hl0, hl1, hl2, hl3, hl4, hl5, hl6, hl7, hl8, hl9, hl10, hl11⟩ := at_T39 HR0.out a1 i0 i1
    cases e
    obtain ⟨n, rfl⟩ := Int.eq_ofNat_of_zero_le i0
    simp only [Int.toNat_natCast] at hl0 hl1 hl2 hl3 hl4 hl5 hl6 hl7 hl8 hl9 hl10 hl11
    generalize qak l0_0 n = L at HF3 hl0 hl1 hl2 hl3 hl4 hl5 hl6 hl7 hl8 hl9 hl10 hl11
    replace hl0 := (HB.out.cell (World.block_lt_of_cell? w _ hl0)).trans hl0; replace hl1 := (HB.out.cell (World.block_lt_of_cell? w _ hl1)).trans hl1; replace hl2 := (HB.out.cell (World.block_lt_of_cell? w _ hl2)).trans hl2; replace hl3 := (HB.out.cell (World.block_lt_of_cell? w _ hl3)).trans hl3; replace hl4 := (HB.out.cell (World.block_lt_of_cell? w _ hl4)).trans hl4; replace hl5 := (HB.out.cell (World.block_lt_of_cell? w _ hl5)).trans hl5; replace hl6 := (HB.out.cell (World.block_lt_of_cell? w _ hl6)).trans hl6; replace hl7 := (HB.out.cell (World.block_lt_of_cell? w _ hl7)).trans hl7; replace hl8 := (HB.out.cell (World.block_lt_of_cell? w _ hl8)).trans hl8; replace hl9 := (HB.out.cell (World.block_lt_of_cell? w _ hl9)).trans hl9; replace hl10 := (HB.out.cell (World.block_lt_of_cell? w _ hl10)).trans hl10; replace hl11 := (HB.out.cell (World.block_lt_of_cell? w _ hl11)).trans hl11
    have hfgb := qac BKgb.out; have hcgb_0 : wc.cell? ⟨gb, 0, none⟩ = some (.slice (some ad) l0_0.length c0_0) := (qaa BKgb.out 0).trans rfl; have hcgb_1 : wc.cell? ⟨gb, 1, none⟩ = some (.slice A0_1 l0_1.length c0_1) := (qaa BKgb.out 1).trans rfl; have hcgb_2 : wc.cell? ⟨gb, 2, none⟩ = some (.slice A0_2 l0_2.length c0_2) := (qaa BKgb.out 2).trans rfl
    have ne_8b := blk_ne BKg8.out BKgb.out (by decide)
    go_upto_region 6 with ((with_reducible refine qar (N := 10) rfl ?_); refine qap ?hg (N := 10) ?hd (cs := #[.int .i64 0, .int .i64 0, .int .i64 0, .int .i64 0, .int .i64 0, .int .i64 0, .int .i64 0, .int .i64 0, .int .i64 0, .int .i64 0, .int .i64 0, .int .i64 0]) (t := 39) ?hr ?_; (case hd => rfl); (case hg => rfl); (case hr => first | (go_simp; done) | (go_simp; rfl)); intro g10 hg_g10 w5 hbox hb; have BKg10 := qab.mk hbox; have ne_gb_g10 : gb ≠ g10 := (by rw [hg_g10]; exact Nat.ne_of_lt (blk_lt BKgb.out)); have ne_g8_g10 : g8 ≠ g10 := (by rw [hg_g10]; exact Nat.ne_of_lt (blk_lt BKg8.out)); have n_BKgb := qab.mk (qah BKgb.out hb); clear BKgb; have BKgb := n_BKgb; clear n_BKgb; have n_BKg8 := qab.mk (qah BKg8.out hb); clear BKg8; have BKg8 := n_BKg8; clear n_BKg8; have n_HB := qab.mk (qag HB.out hb); have GEg10 : w.heap.size ≤ g10 := (by rw [hg_g10]; exact HB.out.size); clear HB; have HB := n_HB; clear n_HB; have hfg10 := qac BKg10.out; have hcg10_0 : w5.cell? ⟨g10, 0, none⟩ = some (.int .i64 0) := (qaa BKg10.out 0).trans rfl; have hcg10_1 : w5.cell? ⟨g10, 1, none⟩ = some (.int .i64 0) := (qaa BKg10.out 1).trans rfl; have hcg10_2 : w5.cell? ⟨g10, 2, none⟩ = some (.int .i64 0) := (qaa BKg10.out 2).trans rfl; have hcg10_3 : w5.cell? ⟨g10, 3, none⟩ = some (.int .i64 0) := (qaa BKg10.out 3).trans rfl; have hcg10_4 : w5.cell? ⟨g10, 4, none⟩ = some (.int .i64 0) := (qaa BKg10.out 4).trans rfl; have hcg10_5 : w5.cell? ⟨g10, 5, none⟩ = some (.int .i64 0) := (qaa BKg10.out 5).trans rfl; have hcg10_6 : w5.cell? ⟨g10, 6, none⟩ = some (.int .i64 0) := (qaa BKg10.out 6).trans rfl; have hcg10_7 : w5.cell? ⟨g10, 7, none⟩ = some (.int .i64 0) := (qaa BKg10.out 7).trans rfl; have hcg10_8 : w5.cell? ⟨g10, 8, none⟩ = some (.int .i64 0) := (qaa BKg10.out 8).trans rfl; have hcg10_9 : w5.cell? ⟨g10, 9, none⟩ = some (.int .i64 0) := (qaa BKg10.out 9).trans rfl; have hcg10_10 : w5.cell? ⟨g10, 10, none⟩ = some (.int .i64 0) := (qaa BKg10.out 10).trans rfl; have hcg10_11 : w5.cell? ⟨g10, 11, none⟩ = some (.int .i64 0) := (qaa BKg10.out 11).trans rfl; clear hbox hb hg_g10)
    have he_ : setAll w5 g10 [.int .i64 L.f0.f0, .int .i64 L.f0.f1, .int .i64 L.f1.f0, .int .i64 L.f1.f1, .int .i64 L.f2.f0, .int .i64 L.f2.f1, .int .i64 L.f3, .int .i64 L.f4, .int .i64 L.f5, .int .i64 L.f6, .int .i64 L.f7.f0, .int .i64 L.f7.f1] 0 = ((((((((((((w5.setCell ⟨g10, 0, none⟩ (.int .i64 L.f0.f0)).setCell ⟨g10, 1, none⟩ (.int .i64 L.f0.f1)).setCell ⟨g10, 2, none⟩ (.int .i64 L.f1.f0)).setCell ⟨g10, 3, none⟩ (.int .i64 L.f1.f1)).setCell ⟨g10, 4, none⟩ (.int .i64 L.f2.f0)).setCell ⟨g10, 5, none⟩ (.int .i64 L.f2.f1)).setCell ⟨g10, 6, none⟩ (.int .i64 L.f3)).setCell ⟨g10, 7, none⟩ (.int .i64 L.f4)).setCell ⟨g10, 8, none⟩ (.int .i64 L.f5)).setCell ⟨g10, 9, none⟩ (.int .i64 L.f6)).setCell ⟨g10, 10, none⟩ (.int .i64 L.f7.f0)).setCell ⟨g10, 11, none⟩ (.int .i64 L.f7.f1)) := rfl; have hbl := setAll_below GEg10 [.int .i64 L.f0.f0, .int .i64 L.f0.f1, .int .i64 L.f1.f0, .int .i64 L.f1.f1, .int .i64 L.f2.f0, .int .i64 L.f2.f1, .int .i64 L.f3, .int .i64 L.f4, .int .i64 L.f5, .int .i64 L.f6, .int .i64 L.f7.f0, .int .i64 L.f7.f1] 0 _ HB.out; have hbx : (setAll w5 g10 [.int .i64 L.f0.f0, .int .i64 L.f0.f1, .int .i64 L.f1.f0, .int .i64 L.f1.f1, .int .i64 L.f2.f0, .int .i64 L.f2.f1, .int .i64 L.f3, .int .i64 L.f4, .int .i64 L.f5, .int .i64 L.f6, .int .i64 L.f7.f0, .int .i64 L.f7.f1] 0).heap[g10]? = some (.cells #[.int .i64 L.f0.f0, .int .i64 L.f0.f1, .int .i64 L.f1.f0, .int .i64 L.f1.f1, .int .i64 L.f2.f0, .int .i64 L.f2.f1, .int .i64 L.f3, .int .i64 L.f4, .int .i64 L.f5, .int .i64 L.f6, .int .i64 L.f7.f0, .int .i64 L.f7.f1] 39 (0, 0)) := setAll_new [.int .i64 L.f0.f0, .int .i64 L.f0.f1, .int .i64 L.f1.f0, .int .i64 L.f1.f1, .int .i64 L.f2.f0, .int .i64 L.f2.f1, .int .i64 L.f3, .int .i64 L.f4, .int .i64 L.f5, .int .i64 L.f6, .int .i64 L.f7.f0, .int .i64 L.f7.f1] [.int .i64 0, .int .i64 0, .int .i64 0, .int .i64 0, .int .i64 0, .int .i64 0, .int .i64 0, .int .i64 0, .int .i64 0, .int .i64 0, .int .i64 0, .int .i64 0] BKg10.out rfl; have hx_BKgb := setAll_far ne_gb_g10 [.int .i64 L.f0.f0, .int .i64 L.f0.f1, .int .i64 L.f1.f0, .int .i64 L.f1.f1, .int .i64 L.f2.f0, .int .i64 L.f2.f1, .int .i64 L.f3, .int .i64 L.f4, .int .i64 L.f5, .int .i64 L.f6, .int .i64 L.f7.f0, .int .i64 L.f7.f1] 0 _ BKgb.out; have hx_BKg8 := setAll_far ne_g8_g10 [.int .i64 L.f0.f0, .int .i64 L.f0.f1, .int .i64 L.f1.f0, .int .i64 L.f1.f1, .int .i64 L.f2.f0, .int .i64 L.f2.f1, .int .i64 L.f3, .int .i64 L.f4, .int .i64 L.f5, .int .i64 L.f6, .int .i64 L.f7.f0, .int .i64 L.f7.f1] 0 _ BKg8.out; rw [he_] at hbl hbx hx_BKgb hx_BKg8; clear he_; generalize ((((((((((((w5.setCell ⟨g10, 0, none⟩ (.int .i64 L.f0.f0)).setCell ⟨g10, 1, none⟩ (.int .i64 L.f0.f1)).setCell ⟨g10, 2, none⟩ (.int .i64 L.f1.f0)).setCell ⟨g10, 3, none⟩ (.int .i64 L.f1.f1)).setCell ⟨g10, 4, none⟩ (.int .i64 L.f2.f0)).setCell ⟨g10, 5, none⟩ (.int .i64 L.f2.f1)).setCell ⟨g10, 6, none⟩ (.int .i64 L.f3)).setCell ⟨g10, 7, none⟩ (.int .i64 L.f4)).setCell ⟨g10, 8, none⟩ (.int .i64 L.f5)).setCell ⟨g10, 9, none⟩ (.int .i64 L.f6)).setCell ⟨g10, 10, none⟩ (.int .i64 L.f7.f0)).setCell ⟨g10, 11, none⟩ (.int .i64 L.f7.f1)) = w6 at hbl hbx hx_BKgb hx_BKg8 ⊢; clear HB BKg10; have HB := qab.mk hbl; have BKg10 := qab.mk hbx; clear hbl hbx; clear BKgb; have BKgb := qab.mk hx_BKgb; clear hx_BKgb; clear BKg8; have BKg8 := qab.mk hx_BKg8; clear hx_BKg8
    clear hfgb hcgb_0 hcgb_1 hcgb_2 hl0 hl1 hl2 hl3 hl4 hl5 hl6 hl7 hl8 hl9 hl10 hl11
    go_upto_region 7 with ((with_reducible refine qar (N := 11) rfl ?_); refine qap ?hg (N := 11) ?hd (cs := #[.int .i64 0, .int .i64 0, .int .i64 0, .int .i64 0]) (t := 31) ?hr ?_; (case hd => rfl); (case hg => rfl); (case hr => first | (go_simp; done) | (go_simp; rfl)); intro g11 hg_g11 w7 hbox hb; have BKg11 := qab.mk hbox; have ne_gb_g11 : gb ≠ g11 := (by rw [hg_g11]; exact Nat.ne_of_lt (blk_lt BKgb.out)); have ne_g8_g11 : g8 ≠ g11 := (by rw [hg_g11]; exact Nat.ne_of_lt (blk_lt BKg8.out)); have ne_g10_g11 : g10 ≠ g11 := (by rw [hg_g11]; exact Nat.ne_of_lt (blk_lt BKg10.out)); have n_BKgb := qab.mk (qah BKgb.out hb); clear BKgb; have BKgb := n_BKgb; clear n_BKgb; have n_BKg8 := qab.mk (qah BKg8.out hb); clear BKg8; have BKg8 := n_BKg8; clear n_BKg8; have n_BKg10 := qab.mk (qah BKg10.out hb); clear BKg10; have BKg10 := n_BKg10; clear n_BKg10; have n_HB := qab.mk (qag HB.out hb); have GEg11 : w.heap.size ≤ g11 := (by rw [hg_g11]; exact HB.out.size); clear HB; have HB := n_HB; clear n_HB; have hfg11 := qac BKg11.out; have hcg11_0 : w7.cell? ⟨g11, 0, none⟩ = some (.int .i64 0) := (qaa BKg11.out 0).trans rfl; have hcg11_1 : w7.cell? ⟨g11, 1, none⟩ = some (.int .i64 0) := (qaa BKg11.out 1).trans rfl; have hcg11_2 : w7.cell? ⟨g11, 2, none⟩ = some (.int .i64 0) := (qaa BKg11.out 2).trans rfl; have hcg11_3 : w7.cell? ⟨g11, 3, none⟩ = some (.int .i64 0) := (qaa BKg11.out 3).trans rfl; clear hbox hb hg_g11)
    have he_ : setAll w7 g11 [.int .i64 a2, .int .i64 0, .int .i64 0, .int .i64 0] 0 = ((((w7.setCell ⟨g11, 0, none⟩ (.int .i64 a2)).setCell ⟨g11, 1, none⟩ (.int .i64 0)).setCell ⟨g11, 2, none⟩ (.int .i64 0)).setCell ⟨g11, 3, none⟩ (.int .i64 0)) := rfl; have hbl := setAll_below GEg11 [.int .i64 a2, .int .i64 0, .int .i64 0, .int .i64 0] 0 _ HB.out; have hbx : (setAll w7 g11 [.int .i64 a2, .int .i64 0, .int .i64 0, .int .i64 0] 0).heap[g11]? = some (.cells #[.int .i64 a2, .int .i64 0, .int .i64 0, .int .i64 0] 31 (0, 0)) := setAll_new [.int .i64 a2, .int .i64 0, .int .i64 0, .int .i64 0] [.int .i64 0, .int .i64 0, .int .i64 0, .int .i64 0] BKg11.out rfl; have hx_BKgb := setAll_far ne_gb_g11 [.int .i64 a2, .int .i64 0, .int .i64 0, .int .i64 0] 0 _ BKgb.out; have hx_BKg8 := setAll_far ne_g8_g11 [.int .i64 a2, .int .i64 0, .int .i64 0, .int .i64 0] 0 _ BKg8.out; have hx_BKg10 := setAll_far ne_g10_g11 [.int .i64 a2, .int .i64 0, .int .i64 0, .int .i64 0] 0 _ BKg10.out; rw [he_] at hbl hbx hx_BKgb hx_BKg8 hx_BKg10; clear he_; generalize ((((w7.setCell ⟨g11, 0, none⟩ (.int .i64 a2)).setCell ⟨g11, 1, none⟩ (.int .i64 0)).setCell ⟨g11, 2, none⟩ (.int .i64 0)).setCell ⟨g11, 3, none⟩ (.int .i64 0)) = w8 at hbl hbx hx_BKgb hx_BKg8 hx_BKg10 ⊢; clear HB BKg11; have HB := qab.mk hbl; have BKg11 := qab.mk hbx; clear hbl hbx; clear BKgb; have BKgb := qab.mk hx_BKgb; clear hx_BKgb; clear BKg8; have BKg8 := qab.mk hx_BKg8; clear hx_BKg8; clear BKg10; have BKg10 := qab.mk hx_BKg10; clear hx_BKg10
    have HP : qab (PI w gb g8 g10 g11 #[.slice (some ad) l0_0.length c0_0, .slice A0_1 l0_1.length c0_1, .slice A0_2 l0_2.length c0_2] L (a2, 0, 0, 0) w8) := ⟨⟨BKgb.out, BKg8.out, BKg10.out, BKg11.out, HB.out, GEg11, ne_g8_g11⟩⟩
    clear BKgb BKg8 BKg10 BKg11 HB hfg8 hfg10 hfg11
    go_wp2_with fail
    clear hcg8_0 hcg8_1 hcg8_2 hcg8_3 hcg10_0 hcg10_1 hcg10_2 hcg10_3 hcg10_4 hcg10_5 hcg10_6 hcg10_7 hcg10_8 hcg10_9 hcg10_10 hcg10_11 hcg11_0 hcg11_1 hcg11_2 hcg11_3
    go_loopw [66] (fun s66 wr => ∃ (k : Nat) (x : Heat4), k ≤ l3.length ∧ s66 = .int .i64 k ∧ qab (heatR (playGo L (l3.drop k) (l0_1.drop k) x) = (r1, r2, r3, r4, r5)) ∧ qab (PI w gb g8 g10 g11 #[.slice (some ad) l0_0.length c0_0, .slice A0_1 l0_1.length c0_1, .slice A0_2 l0_2.length c0_2] L x wr)) (fun s _ => l3.length - (intOf s).toNat)
    case atStart => exact ⟨0, (a2, 0, 0, 0), by omega, rfl, HF3, HP⟩
    case round =>
     clear HP HF3
     obtain ⟨k, x, hk, rfl, HF, HP⟩ := hrel
     by_cases hlt : k < l3.length
     ·
      have hki : (k : Int) < l3.length := by omega
      have hk1 : (k : Int) < l0_1.length := by omega
      obtain ⟨ad3, e, ht0, ht1, ht2⟩ := at_T44 HR3.out k (by omega) hki
      cases e
      obtain ⟨ad1, e, hq0, hq1⟩ := at_T37 HR1.out k (by omega) hk1
      cases e
      simp only [Int.toNat_natCast] at ht0 ht1 ht2 hq0 hq1
      have hrd := playGo_step L l3 l0_1 k hlt (by omega) x
      have HD := qab.mk hrd
      clear hrd
      generalize rd_T44 l3 k = T at HD ht0 ht1 ht2
      generalize rd_T37 l0_1 k = F at HD hq0 hq1
      replace ht0 := ((qab.mk HP.out.hb).out.cell (World.block_lt_of_cell? w _ ht0)).trans ht0; replace ht1 := ((qab.mk HP.out.hb).out.cell (World.block_lt_of_cell? w _ ht1)).trans ht1; replace ht2 := ((qab.mk HP.out.hb).out.cell (World.block_lt_of_cell? w _ ht2)).trans ht2
      have BKgb := qab.mk HP.out.b
      have BKg8 := qab.mk HP.out.r
      have BKg10 := qab.mk HP.out.l
      have BKg11 := qab.mk HP.out.o
      have HB := qab.mk HP.out.hb
      clear HP
      go_upto_region 10 with ((with_reducible refine qar (N := 13) rfl ?_); refine qap ?hg (N := 13) ?hd (cs := #[.int .i64 0, .int .i64 0, .bool false]) (t := 44) ?hr ?_; (case hd => rfl); (case hg => rfl); (case hr => first | (go_simp; done) | (go_simp; rfl)); intro g13 hg_g13 w11 hbox hb; have BKg13 := qab.mk hbox; have ne_gb_g13 : gb ≠ g13 := (by rw [hg_g13]; exact Nat.ne_of_lt (blk_lt BKgb.out)); have ne_g8_g13 : g8 ≠ g13 := (by rw [hg_g13]; exact Nat.ne_of_lt (blk_lt BKg8.out)); have ne_g10_g13 : g10 ≠ g13 := (by rw [hg_g13]; exact Nat.ne_of_lt (blk_lt BKg10.out)); have ne_g11_g13 : g11 ≠ g13 := (by rw [hg_g13]; exact Nat.ne_of_lt (blk_lt BKg11.out)); have n_BKgb := qab.mk (qah BKgb.out hb); clear BKgb; have BKgb := n_BKgb; clear n_BKgb; have n_BKg8 := qab.mk (qah BKg8.out hb); clear BKg8; have BKg8 := n_BKg8; clear n_BKg8; have n_BKg10 := qab.mk (qah BKg10.out hb); clear BKg10; have BKg10 := n_BKg10; clear n_BKg10; have n_BKg11 := qab.mk (qah BKg11.out hb); clear BKg11; have BKg11 := n_BKg11; clear n_BKg11; have n_HB := qab.mk (qag HB.out hb); have GEg13 : w.heap.size ≤ g13 := (by rw [hg_g13]; exact HB.out.size); clear HB; have HB := n_HB; clear n_HB; have hfg13 := qac BKg13.out; have hcg13_0 : w11.cell? ⟨g13, 0, none⟩ = some (.int .i64 0) := (qaa BKg13.out 0).trans rfl; have hcg13_1 : w11.cell? ⟨g13, 1, none⟩ = some (.int .i64 0) := (qaa BKg13.out 1).trans rfl; have hcg13_2 : w11.cell? ⟨g13, 2, none⟩ = some (.bool false) := (qaa BKg13.out 2).trans rfl; clear hbox hb hg_g13)
      have he_ : setAll w11 g13 [.int .i64 T.f0, .int .i64 T.f1, .bool T.f2] 0 = (((w11.setCell ⟨g13, 0, none⟩ (.int .i64 T.f0)).setCell ⟨g13, 1, none⟩ (.int .i64 T.f1)).setCell ⟨g13, 2, none⟩ (.bool T.f2)) := rfl; have hbl := setAll_below GEg13 [.int .i64 T.f0, .int .i64 T.f1, .bool T.f2] 0 _ HB.out; have hbx : (setAll w11 g13 [.int .i64 T.f0, .int .i64 T.f1, .bool T.f2] 0).heap[g13]? = some (.cells #[.int .i64 T.f0, .int .i64 T.f1, .bool T.f2] 44 (0, 0)) := setAll_new [.int .i64 T.f0, .int .i64 T.f1, .bool T.f2] [.int .i64 0, .int .i64 0, .bool false] BKg13.out rfl; have hx_BKgb := setAll_far ne_gb_g13 [.int .i64 T.f0, .int .i64 T.f1, .bool T.f2] 0 _ BKgb.out; have hx_BKg8 := setAll_far ne_g8_g13 [.int .i64 T.f0, .int .i64 T.f1, .bool T.f2] 0 _ BKg8.out; have hx_BKg10 := setAll_far ne_g10_g13 [.int .i64 T.f0, .int .i64 T.f1, .bool T.f2] 0 _ BKg10.out; have hx_BKg11 := setAll_far ne_g11_g13 [.int .i64 T.f0, .int .i64 T.f1, .bool T.f2] 0 _ BKg11.out; rw [he_] at hbl hbx hx_BKgb hx_BKg8 hx_BKg10 hx_BKg11; clear he_; generalize (((w11.setCell ⟨g13, 0, none⟩ (.int .i64 T.f0)).setCell ⟨g13, 1, none⟩ (.int .i64 T.f1)).setCell ⟨g13, 2, none⟩ (.bool T.f2)) = w12 at hbl hbx hx_BKgb hx_BKg8 hx_BKg10 hx_BKg11 ⊢; clear HB BKg13; have HB := qab.mk hbl; have BKg13 := qab.mk hbx; clear hbl hbx; clear BKgb; have BKgb := qab.mk hx_BKgb; clear hx_BKgb; clear BKg8; have BKg8 := qab.mk hx_BKg8; clear hx_BKg8; clear BKg10; have BKg10 := qab.mk hx_BKg10; clear hx_BKg10; clear BKg11; have BKg11 := qab.mk hx_BKg11; clear hx_BKg11
      clear ht0 ht1 ht2 hcg13_0 hcg13_1 hcg13_2
      have hfgb := qac BKgb.out; have hcgb_0 : w12.cell? ⟨gb, 0, none⟩ = some (.slice (some ad) l0_0.length c0_0) := (qaa BKgb.out 0).trans rfl; have hcgb_1 : w12.cell? ⟨gb, 1, none⟩ = some (.slice (some ad1) l0_1.length c0_1) := (qaa BKgb.out 1).trans rfl
      replace hq0 := (HB.out.cell (World.block_lt_of_cell? w _ hq0)).trans hq0; replace hq1 := (HB.out.cell (World.block_lt_of_cell? w _ hq1)).trans hq1
      go_upto_region 11 with ((with_reducible refine qar (N := 14) rfl ?_); refine qap ?hg (N := 14) ?hd (cs := #[.int .i64 0, .int .i64 0]) (t := 37) ?hr ?_; (case hd => rfl); (case hg => rfl); (case hr => first | (go_simp; done) | (go_simp; rfl)); intro g14 hg_g14 w13 hbox hb; have BKg14 := qab.mk hbox; have ne_gb_g14 : gb ≠ g14 := (by rw [hg_g14]; exact Nat.ne_of_lt (blk_lt BKgb.out)); have ne_g8_g14 : g8 ≠ g14 := (by rw [hg_g14]; exact Nat.ne_of_lt (blk_lt BKg8.out)); have ne_g10_g14 : g10 ≠ g14 := (by rw [hg_g14]; exact Nat.ne_of_lt (blk_lt BKg10.out)); have ne_g11_g14 : g11 ≠ g14 := (by rw [hg_g14]; exact Nat.ne_of_lt (blk_lt BKg11.out)); have ne_g13_g14 : g13 ≠ g14 := (by rw [hg_g14]; exact Nat.ne_of_lt (blk_lt BKg13.out)); have n_BKgb := qab.mk (qah BKgb.out hb); clear BKgb; have BKgb := n_BKgb; clear n_BKgb; have n_BKg8 := qab.mk (qah BKg8.out hb); clear BKg8; have BKg8 := n_BKg8; clear n_BKg8; have n_BKg10 := qab.mk (qah BKg10.out hb); clear BKg10; have BKg10 := n_BKg10; clear n_BKg10; have n_BKg11 := qab.mk (qah BKg11.out hb); clear BKg11; have BKg11 := n_BKg11; clear n_BKg11; have n_BKg13 := qab.mk (qah BKg13.out hb); clear BKg13; have BKg13 := n_BKg13; clear n_BKg13; have n_HB := qab.mk (qag HB.out hb); have GEg14 : w.heap.size ≤ g14 := (by rw [hg_g14]; exact HB.out.size); clear HB; have HB := n_HB; clear n_HB; have hfg14 := qac BKg14.out; have hcg14_0 : w13.cell? ⟨g14, 0, none⟩ = some (.int .i64 0) := (qaa BKg14.out 0).trans rfl; have hcg14_1 : w13.cell? ⟨g14, 1, none⟩ = some (.int .i64 0) := (qaa BKg14.out 1).trans rfl; clear hbox hb hg_g14)
      have he_ : setAll w13 g14 [.int .i64 F.f0, .int .i64 F.f1] 0 = ((w13.setCell ⟨g14, 0, none⟩ (.int .i64 F.f0)).setCell ⟨g14, 1, none⟩ (.int .i64 F.f1)) := rfl; have hbl := setAll_below GEg14 [.int .i64 F.f0, .int .i64 F.f1] 0 _ HB.out; have hbx : (setAll w13 g14 [.int .i64 F.f0, .int .i64 F.f1] 0).heap[g14]? = some (.cells #[.int .i64 F.f0, .int .i64 F.f1] 37 (0, 0)) := setAll_new [.int .i64 F.f0, .int .i64 F.f1] [.int .i64 0, .int .i64 0] BKg14.out rfl; have hx_BKgb := setAll_far ne_gb_g14 [.int .i64 F.f0, .int .i64 F.f1] 0 _ BKgb.out; have hx_BKg8 := setAll_far ne_g8_g14 [.int .i64 F.f0, .int .i64 F.f1] 0 _ BKg8.out; have hx_BKg10 := setAll_far ne_g10_g14 [.int .i64 F.f0, .int .i64 F.f1] 0 _ BKg10.out; have hx_BKg11 := setAll_far ne_g11_g14 [.int .i64 F.f0, .int .i64 F.f1] 0 _ BKg11.out; have hx_BKg13 := setAll_far ne_g13_g14 [.int .i64 F.f0, .int .i64 F.f1] 0 _ BKg13.out; rw [he_] at hbl hbx hx_BKgb hx_BKg8 hx_BKg10 hx_BKg11 hx_BKg13; clear he_; generalize ((w13.setCell ⟨g14, 0, none⟩ (.int .i64 F.f0)).setCell ⟨g14, 1, none⟩ (.int .i64 F.f1)) = w14 at hbl hbx hx_BKgb hx_BKg8 hx_BKg10 hx_BKg11 hx_BKg13 ⊢; clear HB BKg14; have HB := qab.mk hbl; have BKg14 := qab.mk hbx; clear hbl hbx; clear BKgb; have BKgb := qab.mk hx_BKgb; clear hx_BKgb; clear BKg8; have BKg8 := qab.mk hx_BKg8; clear hx_BKg8; clear BKg10; have BKg10 := qab.mk hx_BKg10; clear hx_BKg10; clear BKg11; have BKg11 := qab.mk hx_BKg11; clear hx_BKg11; clear BKg13; have BKg13 := qab.mk hx_BKg13; clear hx_BKg13
      have HT : qab (TI w gb g8 g10 g11 g13 g14 #[.slice (some ad) l0_0.length c0_0, .slice (some ad1) l0_1.length c0_1, .slice A0_2 l0_2.length c0_2] L T F x w14) := ⟨⟨⟨BKgb.out, BKg8.out, BKg10.out, BKg11.out, HB.out, GEg11, ne_g8_g11⟩, BKg13.out, BKg14.out⟩⟩
      clear BKgb BKg8 BKg10 BKg11 BKg13 BKg14 HB hfgb hcgb_0 hcgb_1 hcg14_0 hcg14_1 hq0 hq1
      have h_t0 : w14.cell? ⟨g13, 0, none⟩ = some (.int .i64 T.f0) := (qaa HT.out.t 0).trans rfl; have h_t1 : w14.cell? ⟨g13, 1, none⟩ = some (.int .i64 T.f1) := (qaa HT.out.t 1).trans rfl; have h_l2 : w14.cell? ⟨g10, 2, none⟩ = some (.int .i64 L.f1.f0) := (qaa HT.out.p.l 2).trans rfl; have h_l3 : w14.cell? ⟨g10, 3, none⟩ = some (.int .i64 L.f1.f1) := (qaa HT.out.p.l 3).trans rfl; have h_f0 : w14.cell? ⟨g14, 0, none⟩ = some (.int .i64 F.f0) := (qaa HT.out.f 0).trans rfl; have h_f1 : w14.cell? ⟨g14, 1, none⟩ = some (.int .i64 F.f1) := (qaa HT.out.f 1).trans rfl; have h_r0 : w14.cell? ⟨g8, 0, none⟩ = some (.int .i64 0) := (qaa HT.out.p.r 0).trans rfl; have h_r1 : w14.cell? ⟨g8, 1, none⟩ = some (.int .i64 0) := (qaa HT.out.p.r 1).trans rfl; have h_r2 : w14.cell? ⟨g8, 2, none⟩ = some (.int .i64 0) := (qaa HT.out.p.r 2).trans rfl; have h_r3 : w14.cell? ⟨g8, 3, none⟩ = some (.int .i64 0) := (qaa HT.out.p.r 3).trans rfl; have hf_r := qac HT.out.p.r
      cases hA : inB T.f0 L.f1.f0 L.f1.f1 with
      | false =>
       have HA : qab (∀ W, Calls Try.prog 55 #[.int .i64 T.f0, .int .i64 L.f1.f0, .int .i64 L.f1.f1] W fun e w' => e = .returned (.bool false) ∧ Below W.heap.size W w') := ⟨fun W => by have h := in_calls T.f0 L.f1.f0 L.f1.f1 W; rw [hA] at h; exact h⟩
       have he := HF.out
       rw [HD.out, hA] at he
       simp only [Bool.false_and, Bool.false_eq_true, if_false, heatR] at he
       cases he
       clear HD HF hA
       go_wp2_with (first | (go_at_call 55; with_reducible refine (HA.out _).mono ?_; rintro e w15 ⟨rfl, hb⟩; have n_HT := qab.mk (HT.out.below hb); clear HT; have HT := n_HT; clear n_HT hb; clear h_t0 h_t1 h_l2 h_l3 h_f0 h_f1 h_r0 h_r1 h_r2 h_r3 hf_r; have h_t0 : w15.cell? ⟨g13, 0, none⟩ = some (.int .i64 T.f0) := (qaa HT.out.t 0).trans rfl; have h_t1 : w15.cell? ⟨g13, 1, none⟩ = some (.int .i64 T.f1) := (qaa HT.out.t 1).trans rfl; have h_l2 : w15.cell? ⟨g10, 2, none⟩ = some (.int .i64 L.f1.f0) := (qaa HT.out.p.l 2).trans rfl; have h_l3 : w15.cell? ⟨g10, 3, none⟩ = some (.int .i64 L.f1.f1) := (qaa HT.out.p.l 3).trans rfl; have h_f0 : w15.cell? ⟨g14, 0, none⟩ = some (.int .i64 F.f0) := (qaa HT.out.f 0).trans rfl; have h_f1 : w15.cell? ⟨g14, 1, none⟩ = some (.int .i64 F.f1) := (qaa HT.out.f 1).trans rfl; have h_r0 : w15.cell? ⟨g8, 0, none⟩ = some (.int .i64 0) := (qaa HT.out.p.r 0).trans rfl; have h_r1 : w15.cell? ⟨g8, 1, none⟩ = some (.int .i64 0) := (qaa HT.out.p.r 1).trans rfl; have h_r2 : w15.cell? ⟨g8, 2, none⟩ = some (.int .i64 0) := (qaa HT.out.p.r 2).trans rfl; have h_r3 : w15.cell? ⟨g8, 3, none⟩ = some (.int .i64 0) := (qaa HT.out.p.r 3).trans rfl; have hf_r := qac HT.out.p.r))
       refine bodyPost_ret (results_ct rfl _ _ g8 31 #[.int .i64 0, .int .i64 0, .int .i64 0, .int .i64 0] (0, 0) _ rfl ((blk_set (blk_set (blk_set (blk_set HT.out.p.r 0 _) 1 _) 2 _) 3 _)) Try.underlying31 rfl (by kernel_rfl)) rfl ?_
       exact ⟨rfl, (qai (j := 3) (qai (j := 2) (qai (j := 1) (qai (j := 0) HT.out.p.hb GEg8) GEg8) GEg8) GEg8)⟩
      | true =>
       have HA : qab (∀ W, Calls Try.prog 55 #[.int .i64 T.f0, .int .i64 L.f1.f0, .int .i64 L.f1.f1] W fun e w' => e = .returned (.bool true) ∧ Below W.heap.size W w') := ⟨fun W => by have h := in_calls T.f0 L.f1.f0 L.f1.f1 W; rw [hA] at h; exact h⟩
       have he := HF.out
       rw [HD.out, hA] at he
       simp only [Bool.true_and] at he
       clear HD HF hA
       cases hA2 : inB T.f1 F.f0 F.f1 with
       | false =>
        have HA2 : qab (∀ W, Calls Try.prog 55 #[.int .i64 T.f1, .int .i64 F.f0, .int .i64 F.f1] W fun e w' => e = .returned (.bool false) ∧ Below W.heap.size W w') := ⟨fun W => by have h := in_calls T.f1 F.f0 F.f1 W; rw [hA2] at h; exact h⟩
        rw [hA2] at he
        simp only [Bool.false_eq_true, if_false, heatR] at he
        cases he
        clear hA2
        go_wp2_with (first | (go_at_call 55; with_reducible refine (HA.out _).mono ?_; rintro e w15 ⟨rfl, hb⟩; have n_HT := qab.mk (HT.out.below hb); clear HT; have HT := n_HT; clear n_HT hb; clear h_t0 h_t1 h_l2 h_l3 h_f0 h_f1 h_r0 h_r1 h_r2 h_r3 hf_r; have h_t0 : w15.cell? ⟨g13, 0, none⟩ = some (.int .i64 T.f0) := (qaa HT.out.t 0).trans rfl; have h_t1 : w15.cell? ⟨g13, 1, none⟩ = some (.int .i64 T.f1) := (qaa HT.out.t 1).trans rfl; have h_l2 : w15.cell? ⟨g10, 2, none⟩ = some (.int .i64 L.f1.f0) := (qaa HT.out.p.l 2).trans rfl; have h_l3 : w15.cell? ⟨g10, 3, none⟩ = some (.int .i64 L.f1.f1) := (qaa HT.out.p.l 3).trans rfl; have h_f0 : w15.cell? ⟨g14, 0, none⟩ = some (.int .i64 F.f0) := (qaa HT.out.f 0).trans rfl; have h_f1 : w15.cell? ⟨g14, 1, none⟩ = some (.int .i64 F.f1) := (qaa HT.out.f 1).trans rfl; have h_r0 : w15.cell? ⟨g8, 0, none⟩ = some (.int .i64 0) := (qaa HT.out.p.r 0).trans rfl; have h_r1 : w15.cell? ⟨g8, 1, none⟩ = some (.int .i64 0) := (qaa HT.out.p.r 1).trans rfl; have h_r2 : w15.cell? ⟨g8, 2, none⟩ = some (.int .i64 0) := (qaa HT.out.p.r 2).trans rfl; have h_r3 : w15.cell? ⟨g8, 3, none⟩ = some (.int .i64 0) := (qaa HT.out.p.r 3).trans rfl; have hf_r := qac HT.out.p.r) | (go_at_call 55; with_reducible refine (HA2.out _).mono ?_; rintro e w16 ⟨rfl, hb⟩; have n_HT := qab.mk (HT.out.below hb); clear HT; have HT := n_HT; clear n_HT hb; clear h_t0 h_t1 h_l2 h_l3 h_f0 h_f1 h_r0 h_r1 h_r2 h_r3 hf_r; have h_t0 : w16.cell? ⟨g13, 0, none⟩ = some (.int .i64 T.f0) := (qaa HT.out.t 0).trans rfl; have h_t1 : w16.cell? ⟨g13, 1, none⟩ = some (.int .i64 T.f1) := (qaa HT.out.t 1).trans rfl; have h_l2 : w16.cell? ⟨g10, 2, none⟩ = some (.int .i64 L.f1.f0) := (qaa HT.out.p.l 2).trans rfl; have h_l3 : w16.cell? ⟨g10, 3, none⟩ = some (.int .i64 L.f1.f1) := (qaa HT.out.p.l 3).trans rfl; have h_f0 : w16.cell? ⟨g14, 0, none⟩ = some (.int .i64 F.f0) := (qaa HT.out.f 0).trans rfl; have h_f1 : w16.cell? ⟨g14, 1, none⟩ = some (.int .i64 F.f1) := (qaa HT.out.f 1).trans rfl; have h_r0 : w16.cell? ⟨g8, 0, none⟩ = some (.int .i64 0) := (qaa HT.out.p.r 0).trans rfl; have h_r1 : w16.cell? ⟨g8, 1, none⟩ = some (.int .i64 0) := (qaa HT.out.p.r 1).trans rfl; have h_r2 : w16.cell? ⟨g8, 2, none⟩ = some (.int .i64 0) := (qaa HT.out.p.r 2).trans rfl; have h_r3 : w16.cell? ⟨g8, 3, none⟩ = some (.int .i64 0) := (qaa HT.out.p.r 3).trans rfl; have hf_r := qac HT.out.p.r))
        refine bodyPost_ret (results_ct rfl _ _ g8 31 #[.int .i64 0, .int .i64 0, .int .i64 0, .int .i64 0] (0, 0) _ rfl ((blk_set (blk_set (blk_set (blk_set HT.out.p.r 0 _) 1 _) 2 _) 3 _)) Try.underlying31 rfl (by kernel_rfl)) rfl ?_
        exact ⟨rfl, (qai (j := 3) (qai (j := 2) (qai (j := 1) (qai (j := 0) HT.out.p.hb GEg8) GEg8) GEg8) GEg8)⟩
       | true =>
        have HA2 : qab (∀ W, Calls Try.prog 55 #[.int .i64 T.f1, .int .i64 F.f0, .int .i64 F.f1] W fun e w' => e = .returned (.bool true) ∧ Below W.heap.size W w') := ⟨fun W => by have h := in_calls T.f1 F.f0 F.f1 W; rw [hA2] at h; exact h⟩
        rw [hA2] at he
        simp only [if_true] at he
        have HF := qab.mk he
        clear hA2 he
        obtain ⟨feed, hfe⟩ : ∃ feed, feed = feedV L T := ⟨_, rfl⟩
        have HFE := qab.mk hfe
        clear hfe
        go_upto_region 13 with (first | (go_at_call 55; with_reducible refine (HA.out _).mono ?_; rintro e w15 ⟨rfl, hb⟩; have n_HT := qab.mk (HT.out.below hb); clear HT; have HT := n_HT; clear n_HT hb; clear h_t0 h_t1 h_l2 h_l3 h_f0 h_f1 h_r0 h_r1 h_r2 h_r3 hf_r; have h_t0 : w15.cell? ⟨g13, 0, none⟩ = some (.int .i64 T.f0) := (qaa HT.out.t 0).trans rfl; have h_t1 : w15.cell? ⟨g13, 1, none⟩ = some (.int .i64 T.f1) := (qaa HT.out.t 1).trans rfl; have h_l2 : w15.cell? ⟨g10, 2, none⟩ = some (.int .i64 L.f1.f0) := (qaa HT.out.p.l 2).trans rfl; have h_l3 : w15.cell? ⟨g10, 3, none⟩ = some (.int .i64 L.f1.f1) := (qaa HT.out.p.l 3).trans rfl; have h_f0 : w15.cell? ⟨g14, 0, none⟩ = some (.int .i64 F.f0) := (qaa HT.out.f 0).trans rfl; have h_f1 : w15.cell? ⟨g14, 1, none⟩ = some (.int .i64 F.f1) := (qaa HT.out.f 1).trans rfl; have h_r0 : w15.cell? ⟨g8, 0, none⟩ = some (.int .i64 0) := (qaa HT.out.p.r 0).trans rfl; have h_r1 : w15.cell? ⟨g8, 1, none⟩ = some (.int .i64 0) := (qaa HT.out.p.r 1).trans rfl; have h_r2 : w15.cell? ⟨g8, 2, none⟩ = some (.int .i64 0) := (qaa HT.out.p.r 2).trans rfl; have h_r3 : w15.cell? ⟨g8, 3, none⟩ = some (.int .i64 0) := (qaa HT.out.p.r 3).trans rfl; have hf_r := qac HT.out.p.r) | (go_at_call 55; with_reducible refine (HA2.out _).mono ?_; rintro e w16 ⟨rfl, hb⟩; have n_HT := qab.mk (HT.out.below hb); clear HT; have HT := n_HT; clear n_HT hb; clear h_t0 h_t1 h_l2 h_l3 h_f0 h_f1 h_r0 h_r1 h_r2 h_r3 hf_r; have h_t0 : w16.cell? ⟨g13, 0, none⟩ = some (.int .i64 T.f0) := (qaa HT.out.t 0).trans rfl; have h_t1 : w16.cell? ⟨g13, 1, none⟩ = some (.int .i64 T.f1) := (qaa HT.out.t 1).trans rfl; have h_l2 : w16.cell? ⟨g10, 2, none⟩ = some (.int .i64 L.f1.f0) := (qaa HT.out.p.l 2).trans rfl; have h_l3 : w16.cell? ⟨g10, 3, none⟩ = some (.int .i64 L.f1.f1) := (qaa HT.out.p.l 3).trans rfl; have h_f0 : w16.cell? ⟨g14, 0, none⟩ = some (.int .i64 F.f0) := (qaa HT.out.f 0).trans rfl; have h_f1 : w16.cell? ⟨g14, 1, none⟩ = some (.int .i64 F.f1) := (qaa HT.out.f 1).trans rfl; have h_r0 : w16.cell? ⟨g8, 0, none⟩ = some (.int .i64 0) := (qaa HT.out.p.r 0).trans rfl; have h_r1 : w16.cell? ⟨g8, 1, none⟩ = some (.int .i64 0) := (qaa HT.out.p.r 1).trans rfl; have h_r2 : w16.cell? ⟨g8, 2, none⟩ = some (.int .i64 0) := (qaa HT.out.p.r 2).trans rfl; have h_r3 : w16.cell? ⟨g8, 3, none⟩ = some (.int .i64 0) := (qaa HT.out.p.r 3).trans rfl; have hf_r := qac HT.out.p.r))
        clear h_t0 h_t1 h_l2 h_l3 h_f0 h_f1 h_r0 h_r1 h_r2 h_r3 hf_r
        have h_t2 : w16.cell? ⟨g13, 2, none⟩ = some (.bool T.f2) := (qaa HT.out.t 2).trans rfl
        go_upto_if 98 with (fail)
        go_cut [15] (fun v15 wc => v15 = .int .i64 feed ∧ qab (TI w gb g8 g10 g11 g13 g14 #[.slice (some ad) l0_0.length c0_0, .slice (some ad1) l0_1.length c0_1, .slice A0_2 l0_2.length c0_2] L T F x wc))
        case first =>
         cases hfd : T.f2 with
         | true =>
          have he : L.f6 = feed := by rw [HFE.out]; unfold feedV; rw [if_pos hfd]
          have h_l9 : w16.cell? ⟨g10, 9, none⟩ = some (.int .i64 L.f6) := (qaa HT.out.p.l 9).trans rfl
          clear hfd
          go_wp2_with fail
          go_meet
          case rel => exact ⟨by first | rfl | rw [he], HT⟩
         | false =>
          have he : 0 = feed := by rw [HFE.out]; unfold feedV; rw [if_neg (by rw [hfd]; decide)]
          clear hfd
          go_wp2_with fail
          go_meet
          case rel => exact ⟨by first | rfl | rw [he], HT⟩
        case rest =>
         clear HT h_t2
         obtain ⟨rfl, HT⟩ := hcut
         obtain ⟨lost, hle⟩ : ∃ lost, lost = lossI T.f0 T.f1 x.1 feed := ⟨_, rfl⟩
         have HLE := qab.mk hle
         have hloss : ∀ W, Calls Try.prog 56 #[.int .i64 T.f0, .int .i64 T.f1, .int .i64 x.1, .int .i64 feed] W fun e w' => e = .returned (.int .i64 lost) ∧ Below W.heap.size W w' := fun W => pipe_loss.calls _ _ _ _ _ W (by rw [hle]; rfl)
         have HLO := qab.mk hloss
         clear hle hloss
         have h_t0 : wc.cell? ⟨g13, 0, none⟩ = some (.int .i64 T.f0) := (qaa HT.out.t 0).trans rfl; have h_t1 : wc.cell? ⟨g13, 1, none⟩ = some (.int .i64 T.f1) := (qaa HT.out.t 1).trans rfl; have h_o0 : wc.cell? ⟨g11, 0, none⟩ = some (.int .i64 x.1) := (qaa HT.out.p.o 0).trans rfl
         go_upto_region 17 with ((go_at_call 56; with_reducible refine (HLO.out _).mono ?_; rintro e w17 ⟨rfl, hb⟩; have n_HT := qab.mk (HT.out.below hb); clear HT; have HT := n_HT; clear n_HT hb; clear h_t0 h_t1 h_o0; have h_t0 : w17.cell? ⟨g13, 0, none⟩ = some (.int .i64 T.f0) := (qaa HT.out.t 0).trans rfl; have h_t1 : w17.cell? ⟨g13, 1, none⟩ = some (.int .i64 T.f1) := (qaa HT.out.t 1).trans rfl; have h_o0 : w17.cell? ⟨g11, 0, none⟩ = some (.int .i64 x.1) := (qaa HT.out.p.o 0).trans rfl))
         clear h_t0 h_t1 h_o0
         have h_o0 : w17.cell? ⟨g11, 0, none⟩ = some (.int .i64 x.1) := (qaa HT.out.p.o 0).trans rfl; have hf_o := qac HT.out.p.o
         go_upto_region 18 with (first | (go_at_call 57; with_reducible refine (sum3_calls _ _ _ _).mono ?_; rintro e w22 ⟨rfl, hb⟩; have n_HT := qab.mk (HT.out.below hb); clear HT; have HT := n_HT; clear n_HT hb; clear h_o0 hf_o; have h_o0 : w22.cell? ⟨g11, 0, none⟩ = some (.int .i64 x.1) := (qaa HT.out.p.o 0).trans rfl; have hf_o := qac HT.out.p.o))
         have n_HT := qab.mk (HT.out.set (y := (sumV [x.1, feed, wrap64 (-lost)], x.2.1, x.2.2.1, x.2.2.2)) 0 (.int .i64 (sumV [x.1, feed, wrap64 (-lost)])) rfl)
         clear h_o0 hf_o
         clear HT
         generalize w22.setCell ⟨g11, 0, none⟩ (.int .i64 (sumV [x.1, feed, wrap64 (-lost)])) = w20 at n_HT ⊢
         have HT := n_HT
         clear n_HT
         have h_o1 : w20.cell? ⟨g11, 1, none⟩ = some (.int .i64 x.2.1) := (qaa HT.out.p.o 1).trans rfl; have h_l7 : w20.cell? ⟨g10, 7, none⟩ = some (.int .i64 L.f4) := (qaa HT.out.p.l 7).trans rfl; have hf_o := qac HT.out.p.o
         go_upto_region 19 with (first | (go_at_call 57; with_reducible refine (sum2_calls _ _ _).mono ?_; rintro e w32 ⟨rfl, hb⟩; have n_HT := qab.mk (HT.out.below hb); clear HT; have HT := n_HT; clear n_HT hb; clear h_o1 h_l7 hf_o; have h_o1 : w32.cell? ⟨g11, 1, none⟩ = some (.int .i64 x.2.1) := (qaa HT.out.p.o 1).trans rfl; have hf_o := qac HT.out.p.o))
         have n_HT := qab.mk (HT.out.set (y := (sumV [x.1, feed, wrap64 (-lost)], sumV [x.2.1, wrap64 (feed * L.f4)], x.2.2.1, x.2.2.2)) 1 (.int .i64 (sumV [x.2.1, wrap64 (feed * L.f4)])) rfl)
         clear h_o1 hf_o
         clear HT
         generalize w32.setCell ⟨g11, 1, none⟩ (.int .i64 (sumV [x.2.1, wrap64 (feed * L.f4)])) = w30 at n_HT ⊢
         have HT := n_HT
         clear n_HT
         have h_l7 : w30.cell? ⟨g10, 7, none⟩ = some (.int .i64 L.f4) := (qaa HT.out.p.l 7).trans rfl; have h_l8 : w30.cell? ⟨g10, 8, none⟩ = some (.int .i64 L.f5) := (qaa HT.out.p.l 8).trans rfl
         obtain ⟨ground, hgr⟩ : ∃ ground, ground = groundV L lost := ⟨_, rfl⟩
         have HGR := qab.mk hgr
         unfold groundV at hgr
         go_upto_region 20 with fail
         rw [← hgr]
         clear hgr
         clear h_l7 h_l8
         have h_o2 : w30.cell? ⟨g11, 2, none⟩ = some (.int .i64 x.2.2.1) := (qaa HT.out.p.o 2).trans rfl; have hf_o := qac HT.out.p.o
         go_upto_region 21 with (first | (go_at_call 57; with_reducible refine (sum2_calls _ _ _).mono ?_; rintro e w42 ⟨rfl, hb⟩; have n_HT := qab.mk (HT.out.below hb); clear HT; have HT := n_HT; clear n_HT hb; clear h_o2 hf_o; have h_o2 : w42.cell? ⟨g11, 2, none⟩ = some (.int .i64 x.2.2.1) := (qaa HT.out.p.o 2).trans rfl; have hf_o := qac HT.out.p.o))
         have n_HT := qab.mk (HT.out.set (y := (sumV [x.1, feed, wrap64 (-lost)], sumV [x.2.1, wrap64 (feed * L.f4)], sumV [x.2.2.1, ground], x.2.2.2)) 2 (.int .i64 (sumV [x.2.2.1, ground])) rfl)
         clear h_o2 hf_o
         clear HT
         generalize w42.setCell ⟨g11, 2, none⟩ (.int .i64 (sumV [x.2.2.1, ground])) = w40 at n_HT ⊢
         have HT := n_HT
         clear n_HT
         have h_o3 : w40.cell? ⟨g11, 3, none⟩ = some (.int .i64 x.2.2.2) := (qaa HT.out.p.o 3).trans rfl; have h_l7 : w40.cell? ⟨g10, 7, none⟩ = some (.int .i64 L.f4) := (qaa HT.out.p.l 7).trans rfl; have hf_o := qac HT.out.p.o
         go_upto_region 22 with (first | (go_at_call 57; with_reducible refine (sum3_calls _ _ _ _).mono ?_; rintro e w52 ⟨rfl, hb⟩; have n_HT := qab.mk (HT.out.below hb); clear HT; have HT := n_HT; clear n_HT hb; clear h_o3 h_l7 hf_o; have h_o3 : w52.cell? ⟨g11, 3, none⟩ = some (.int .i64 x.2.2.2) := (qaa HT.out.p.o 3).trans rfl; have hf_o := qac HT.out.p.o))
         have n_HT := qab.mk (HT.out.set (y := (sumV [x.1, feed, wrap64 (-lost)], sumV [x.2.1, wrap64 (feed * L.f4)], sumV [x.2.2.1, ground], sumV [x.2.2.2, wrap64 (lost * L.f4), wrap64 (-ground)])) 3 (.int .i64 (sumV [x.2.2.2, wrap64 (lost * L.f4), wrap64 (-ground)])) rfl)
         clear h_o3 hf_o
         clear HT
         generalize w52.setCell ⟨g11, 3, none⟩ (.int .i64 (sumV [x.2.2.2, wrap64 (lost * L.f4), wrap64 (-ground)])) = w50 at n_HT ⊢
         have HT := n_HT
         clear n_HT
         have hw1 : IntKind.i64.wrap ((k : Int) + 1) = (k : Int) + 1 := by have := Kd.C_max HR3.out; rw [i64_w]; unfold wrap64; omega
         go_wp2_with fail
         have hfin : heatR (playGo L (l3.drop (k + 1)) (l0_1.drop (k + 1)) (sumV [x.1, feed, wrap64 (-lost)], sumV [x.2.1, wrap64 (feed * L.f4)], sumV [x.2.2.1, ground], sumV [x.2.2.2, wrap64 (lost * L.f4), wrap64 (-ground)])) = (r1, r2, r3, r4, r5) := by
          rw [← HF.out, HGR.out, HLE.out, HFE.out]
          rfl
         have HFIN := qab.mk hfin
         clear hfin
         go_roundw
         case rel => exact ⟨k + 1, _, by omega, by go_num, HFIN, ⟨HT.out.p⟩⟩
         case measure => simp [intOf]; omega
     ·
      have he := HF.out
      rw [List.drop_eq_nil_of_le (by omega)] at he
      simp only [playGo, heatR] at he
      cases he
      have BKg8 := qab.mk HP.out.r
      have BKg11 := qab.mk HP.out.o
      have hfg8 := qac BKg8.out; have hcg8_0 : wr.cell? ⟨g8, 0, none⟩ = some (.int .i64 0) := (qaa BKg8.out 0).trans rfl; have hcg8_1 : wr.cell? ⟨g8, 1, none⟩ = some (.int .i64 0) := (qaa BKg8.out 1).trans rfl; have hcg8_2 : wr.cell? ⟨g8, 2, none⟩ = some (.int .i64 0) := (qaa BKg8.out 2).trans rfl; have hcg8_3 : wr.cell? ⟨g8, 3, none⟩ = some (.int .i64 0) := (qaa BKg8.out 3).trans rfl
      have hfg11 := qac BKg11.out; have hcg11_0 : wr.cell? ⟨g11, 0, none⟩ = some (.int .i64 x.1) := (qaa BKg11.out 0).trans rfl; have hcg11_1 : wr.cell? ⟨g11, 1, none⟩ = some (.int .i64 x.2.1) := (qaa BKg11.out 1).trans rfl; have hcg11_2 : wr.cell? ⟨g11, 2, none⟩ = some (.int .i64 x.2.2.1) := (qaa BKg11.out 2).trans rfl; have hcg11_3 : wr.cell? ⟨g11, 3, none⟩ = some (.int .i64 x.2.2.2) := (qaa BKg11.out 3).trans rfl
      go_wp2_with fail
      try rw [Exit.noGoto_ret]
      refine bodyPost_ret (results_ct rfl _ _ g8 31 #[.int .i64 x.1, .int .i64 x.2.1, .int .i64 x.2.2.1, .int .i64 x.2.2.2] (0, 0) _ rfl ((blk_set (blk_set (blk_set (blk_set BKg8.out 0 _) 1 _) 2 _) 3 _)) Try.underlying31 rfl (by kernel_rfl)) rfl ?_
      exact ⟨rfl, (qai (j := 3) (qai (j := 2) (qai (j := 1) (qai (j := 0) HP.out.hb GEg8) GEg8) GEg8) GEg8)⟩
end Go.Proofs.Ytipphcjgdebecaa.PA
namespace Go.Proofs.Ytipphcjgdebecaa.PA
open Go.RowKit Go.Proofs.YtipphcjgdebecaaW.PrintWords Go.Proofs.YtipphcjgdebecaaW.PrintLast Go.Proofs.YtipphcjgdebecaaW.PrintMore
attribute [local go_sem] max2_int min2_int max_two min_two max_three min_three max_four min_four
def pipe_place.f (l0_0 : List (S39)) (l0_1 : List (S37)) (l0_2 : List (List Int)) (a1 : Int) : Option (Bool) := (pipe_in.f a1 0 (l0_0.length : Int)).bind fun t125 => (some t125)
set_option maxHeartbeats 8000000 in
set_option maxRecDepth 100000 in
theorem pipe_place.calls (A0_0 : Option Addr) (c0_0 : Nat) (l0_0 : List (S39)) (A0_1 : Option Addr) (c0_1 : Nat) (l0_1 : List (S37)) (A0_2 : Option Addr) (c0_2 : Nat) (l0_2 : List (List Int)) (a1 : Int) (r : Bool) (w : World) (hr0_0 : Kd.C k39 w A0_0 l0_0.length l0_0) (hc0_0 : l0_0.length ≤ c0_0) (hr0_1 : Kd.C k37 w A0_1 l0_1.length l0_1) (hc0_1 : l0_1.length ≤ c0_1) (hr0_2 : Kd.C (Kd.slice 3 (Kd.int .i64)) w A0_2 l0_2.length l0_2) (hc0_2 : l0_2.length ≤ c0_2) (h : pipe_place.f l0_0 l0_1 l0_2 a1 = some r) :
  Calls Try.prog 62 #[.agg #[.slice A0_0 l0_0.length c0_0, .slice A0_1 l0_1.length c0_1, .slice A0_2 l0_2.length c0_2], .int .i64 a1] w fun e w' => e = .returned (.bool r) ∧ Below w.heap.size w w' := by
 have hu26 := Try.underlying26
 have HR0_0 := qab.mk hr0_0
 have HC0_0 := qab.mk hc0_0
 clear hr0_0 hc0_0
 have HR0_1 := qab.mk hr0_1
 have HC0_1 := qab.mk hc0_1
 clear hr0_1 hc0_1
 have HR0_2 := qab.mk hr0_2
 have HC0_2 := qab.mk hc0_2
 clear hr0_2 hc0_2
 have HB := qab.mk (Below.refl w.heap.size w)
 have H : ((pipe_in.f a1 0 (l0_0.length : Int)).bind fun t125 => (some t125)) = some r := h
 clear h
 replace H := Option.bind_eq_some_iff.mp H
 obtain ⟨t125, A30, H⟩ := H
 replace H : (some t125) = some r := H
 have A3 := qab.mk A30
 clear A30
 obtain rfl := Option.some.inj H
 go_enter Try.func62, Try.ntmps62
 go_wp2_with (first | ((with_reducible refine qar (N := 2) rfl ?_); refine qap ?hg (N := 2) ?hd (cs := #[.slice A0_0 l0_0.length c0_0, .slice A0_1 l0_1.length c0_1, .slice A0_2 l0_2.length c0_2]) (t := 26) ?hr ?_; (case hd => rfl); (case hg => rfl); (case hr => first | (go_simp; done) | (go_simp; rfl)); intro gb124 hg w4 hbox hb; have n0_ := qab.mk (qag (by repeat (first | (with_reducible first | exact HB.out | apply qae | apply qad | apply qaf) | exact HB.out)) hb); have n1_ := qab.mk (hbox); have n2_ := qab.mk ((by rw [hg]; exact (qan (by repeat (first | (with_reducible first | exact HB.out | apply qae | apply qad | apply qaf) | exact HB.out))) : w.heap.size ≤ gb124)); have n3_ := qab.mk ((by rw [hg]; exact (qan (by repeat (first | (with_reducible first | exact HB.out | apply qae | apply qad | apply qaf) | exact HB.out))) : w.heap.size ≤ gb124)); clear HB; have HB := n0_; have BK124 := n1_; have GW124 := n2_; have GE124 := n3_; clear n0_ n1_ n2_ n3_; clear hb hbox hg; have hcz5_0 : w4.cell? ⟨gb124, 0, none⟩ = some (.slice A0_0 l0_0.length c0_0) := (qaa BK124.out 0).trans rfl; have hcz5_1 : w4.cell? ⟨gb124, 1, none⟩ = some (.slice A0_1 l0_1.length c0_1) := (qaa BK124.out 1).trans rfl; have hcz5_2 : w4.cell? ⟨gb124, 2, none⟩ = some (.slice A0_2 l0_2.length c0_2) := (qaa BK124.out 2).trans rfl; have hfz5_0 := qac BK124.out 0; have hfz5_1 := qac BK124.out 1; have hfz5_2 := qac BK124.out 2) | ((with_reducible refine gate_callee (f := 55) rfl ?_); refine goesL_ (some 9) rfl rfl Try.func55 (by kernel_rfl) rfl #[.int .i64 a1, .int .i64 0, .int .i64 (l0_0.length : Int)] rfl (by (try simp only [List.map_toArray, List.map_cons, List.map_nil]); first | done | rfl | (simp only [List.length_drop, List.length_take]; rfl)) ?_; (with_reducible refine (pipe_in.calls a1 0 (l0_0.length : Int) t125 _ A3.out).mono ?_); rintro e w' ⟨rfl, ⟨nd, rfl⟩⟩; refine ⟨_, rfl, ?_⟩))
 go_ret
 exact ⟨by first | rfl | (simp [qas, qat] <;> rfl) | (simp [*, qas, qat] <;> rfl), by repeat (first | (with_reducible first | exact HB.out | apply qae | apply qad | apply qaf | refine qai ?_ GE124.out) | exact HB.out)⟩
end Go.Proofs.Ytipphcjgdebecaa.PA
namespace Go.Proofs.Ytipphcjgdebecaa.PA
open Go.RowKit Go.Proofs.YtipphcjgdebecaaW.PrintWords Go.Proofs.YtipphcjgdebecaaW.PrintLast Go.Proofs.YtipphcjgdebecaaW.PrintMore
attribute [local go_sem] max2_int min2_int max_two min_two max_three min_three max_four min_four
def frz : List S37 → Int → Int → Int × Int
 | [], _, can => (can, -1)
 | s :: t, h, can => if s.f1 = 0 then (if s.f0 = 0 ∧ can < 0 then h + 1 else can, h + 1) else frz t (h + 1) (if s.f0 = 0 ∧ can < 0 then h + 1 else can)
theorem frz_round (l : List S37) (k : Nat) (hk : k < l.length) (can : Int) : frz (l.drop k) k can = if (rd_T37 l k).f1 = 0 then (if (rd_T37 l k).f0 = 0 ∧ can < 0 then (k : Int) + 1 else can, (k : Int) + 1) else frz (l.drop (k + 1)) ((k + 1 : Nat) : Int) (if (rd_T37 l k).f0 = 0 ∧ can < 0 then (k : Int) + 1 else can) := by
 rw [List.drop_eq_getElem_cons hk]
 have : rd_T37 l k = l[k] := by simp [rd_T37, hk]
 rw [this]
 simp only [frz]
 rfl
def pipe_net_freezes.f (l0_0 : List (S39)) (l0_1 : List (S37)) (l0_2 : List (List Int)) (a0_3 : Int) (a1 : Int) : Option (Int × Int) := if 0 ≤ a1 ∧ a1 < l0_0.length ∧ 0 ≤ a0_3 ∧ l0_1.length ≤ 1000 then some (frz (warmthV l0_0 l0_1 a0_3 a1) 0 (-1)) else none
set_option maxHeartbeats 4000000 in
set_option maxRecDepth 100000 in
theorem pipe_net_freezes.calls (A0_0 : Option Addr) (c0_0 : Nat) (l0_0 : List (S39)) (A0_1 : Option Addr) (c0_1 : Nat) (l0_1 : List (S37)) (A0_2 : Option Addr) (c0_2 : Nat) (l0_2 : List (List Int)) (a0_3 : Int) (a1 : Int) (r1 : Int) (r2 : Int) (w : World) (hr0_0 : Kd.C k39 w A0_0 l0_0.length l0_0) (hc0_0 : l0_0.length ≤ c0_0) (hr0_1 : Kd.C k37 w A0_1 l0_1.length l0_1) (hc0_1 : l0_1.length ≤ c0_1) (hr0_2 : Kd.C (Kd.slice 3 (Kd.int .i64)) w A0_2 l0_2.length l0_2) (hc0_2 : l0_2.length ≤ c0_2) (h : pipe_net_freezes.f l0_0 l0_1 l0_2 a0_3 a1 = some (r1, r2)) :
  Calls Try.prog 77 #[.agg #[.slice A0_0 l0_0.length c0_0, .slice A0_1 l0_1.length c0_1, .slice A0_2 l0_2.length c0_2, .int .i64 a0_3], .int .i64 a1] w fun e w' => e = .returned (.tuple #[.int .i64 r1, .int .i64 r2]) ∧ Below w.heap.size w w' := by
 unfold pipe_net_freezes.f at h
 split at h
 case isFalse => cases h
 rename_i hc
 have h' := Option.some.inj h
 clear h
 have HF := qab.mk h'
 clear h'
 have HR0 := qab.mk hr0_0
 have HR1 := qab.mk hr0_1
 clear hr0_0 hr0_1 hr0_2
 have hu99 := Try.underlying99
 have hu37 := Try.underlying37
 have HB := qab.mk (Below.refl w.heap.size w)
 obtain ⟨q0, q1, q2, q3⟩ := hc
 go_enter Try.func77, Try.ntmps77
 go_wp2_with ((with_reducible refine qar (N := 2) rfl ?_); refine qap ?hg (N := 2) ?hd (cs := #[.slice A0_0 l0_0.length c0_0, .slice A0_1 l0_1.length c0_1, .slice A0_2 l0_2.length c0_2, .int .i64 a0_3]) (t := 99) ?hr ?_; (case hd => rfl); (case hg => rfl); (case hr => first | (go_simp; done) | (go_simp; rfl)); intro gb hg_gb w2 hbox hb; have BKgb := qab.mk hbox; have n_HB := qab.mk (qag HB.out hb); have GEgb : w.heap.size ≤ gb := (by rw [hg_gb]; exact HB.out.size); clear HB; have HB := n_HB; clear n_HB; have hfgb := qac BKgb.out; have hcgb_0 : w2.cell? ⟨gb, 0, none⟩ = some (.slice A0_0 l0_0.length c0_0) := (qaa BKgb.out 0).trans rfl; have hcgb_1 : w2.cell? ⟨gb, 1, none⟩ = some (.slice A0_1 l0_1.length c0_1) := (qaa BKgb.out 1).trans rfl; have hcgb_2 : w2.cell? ⟨gb, 2, none⟩ = some (.slice A0_2 l0_2.length c0_2) := (qaa BKgb.out 2).trans rfl; have hcgb_3 : w2.cell? ⟨gb, 3, none⟩ = some (.int .i64 a0_3) := (qaa BKgb.out 3).trans rfl; clear hbox hb hg_gb)
 go_step3
 go_wp2_with fail
 go_step3
 go_wp2_with (go_at_call 79; refine (warmth_calls _ _ _ _ _ _ _ _ _ _ (Kd.qam HR0.out HB.out) (Kd.qam HR1.out HB.out) q0 q1 q2 q3).mono ?_; rintro e w3 ⟨v, rfl, ho, hb⟩; obtain ⟨A, n, c, rfl⟩ := R_shape ho; have HO := qab.mk (Kd.R_lower ho HB.out.size); clear ho; have n_HB := qab.mk (qag HB.out hb); clear HB; have HB := n_HB; clear n_HB; clear hb)
 clear hfgb hcgb_0 hcgb_1 hcgb_2 hcgb_3 BKgb
 have HN : qab (n = (warmthV l0_0 l0_1 a0_3 a1).length) := ⟨(Kd.R_reads' HO.out).1⟩
 have hn : n ≤ 1000 := by rw [HN.out]; simpa [warmthV] using q3
 generalize hl : warmthV l0_0 l0_1 a0_3 a1 = l at HO HF HN
 clear hl
 go_loopw [6, 7, 14] (fun s6 s7 s14 wr => ∃ (k : Nat) (can : Int), k ≤ n ∧ -1 ≤ can ∧ s14 = .int .i64 k ∧ s6 = .int .i64 can ∧ s7 = .int .i64 (-1) ∧ qab (frz (l.drop k) k can = (r1, r2)) ∧ qab (Kd.R k37 37 wr w.heap.size (fun _ => True) (.slice A n c) l) ∧ qab (Below w.heap.size w wr)) (fun _ _ s _ => n - (intOf s).toNat)
 case atStart => exact ⟨0, -1, by omega, by omega, rfl, rfl, rfl, HF, HO, HB⟩
 case round =>
  clear HO HB HF
  obtain ⟨k, can, hk, hcan, rfl, rfl, rfl, HF, HO, HB⟩ := hrel
  by_cases hlt : k < n
  ·
   have hki : (k : Int) < n := by omega
   have hC := (Kd.R_reads' HO.out).2.2
   rw [← HN.out] at hC
   obtain ⟨ad, e, hx0, hx1⟩ := at_T37 hC k (by omega) hki
   cases e
   simp only [Int.toNat_natCast] at hx0 hx1
   clear hC
   have ne0 := World.new_ne wr _ hx0
   have hrd := frz_round l k (by rw [← HN.out]; exact hlt) can
   have HD := qab.mk hrd
   clear hrd
   obtain ⟨x0, hx0e⟩ : ∃ x0, x0 = (rd_T37 l k).f0 := ⟨_, rfl⟩
   obtain ⟨x1, hx1e⟩ : ∃ x1, x1 = (rd_T37 l k).f1 := ⟨_, rfl⟩
   rw [← hx0e] at hx0 HD
   rw [← hx1e] at hx1 HD
   clear hx0e hx1e
   by_cases c1 : x1 = 0
   ·
    have HE : qab ((if x0 = 0 ∧ can < 0 then (k : Int) + 1 else can, (k : Int) + 1) = (r1, r2)) := ⟨by rw [← HF.out, HD.out, if_pos c1]⟩
    have hb1 : (x1 == 0) = true := by simp [c1]
    clear c1
    by_cases c2 : x0 = 0
    ·
     have hb2 : (x0 == 0) = true := by simp [c2]
     have C2 := qab.mk c2
     clear c2
     by_cases c3 : can < 0
     ·
      go_wp2_with fail
      try rw [Exit.noGoto_ret]
      go_ret2
      have he := HE.out
      rw [if_pos ⟨C2.out, c3⟩] at he
      cases he
      exact ⟨rfl, HB.out.alloc HB.out.size _⟩
     ·
      go_wp2_with fail
      try rw [Exit.noGoto_ret]
      go_ret2
      have he := HE.out
      rw [if_neg (by omega)] at he
      cases he
      exact ⟨rfl, HB.out.alloc HB.out.size _⟩
    ·
     have hb2 : (x0 == 0) = false := by simp [c2]
     have C2 := qab.mk c2
     clear c2
     go_wp2_with fail
     try rw [Exit.noGoto_ret]
     go_ret2
     have he := HE.out
     rw [if_neg (fun h => C2.out h.1)] at he
     cases he
     exact ⟨rfl, HB.out.alloc HB.out.size _⟩
   ·
    have HE : qab (frz (l.drop (k + 1)) ((k + 1 : Nat) : Int) (if x0 = 0 ∧ can < 0 then (k : Int) + 1 else can) = (r1, r2)) := ⟨by rw [← HF.out, HD.out, if_neg c1]⟩
    have hb1 : (x1 == 0) = false := by simp [c1]
    clear c1
    by_cases c2 : x0 = 0
    ·
     have hb2 : (x0 == 0) = true := by simp [c2]
     have C2 := qab.mk c2
     clear c2
     by_cases c3 : can < 0
     ·
      go_wp2_with fail
      go_roundw
      case rel => exact ⟨k + 1, (k : Int) + 1, by omega, by omega, by go_num, by go_num, rfl, ⟨by rw [← HE.out, if_pos ⟨C2.out, c3⟩]⟩, ⟨Kd.R_alloc HO.out _⟩, ⟨HB.out.alloc HB.out.size _⟩⟩
      case measure => simp [intOf]; omega
     ·
      go_wp2_with fail
      go_roundw
      case rel => exact ⟨k + 1, can, by omega, by omega, by go_num, rfl, rfl, ⟨by rw [← HE.out, if_neg (by omega)]⟩, ⟨Kd.R_alloc HO.out _⟩, ⟨HB.out.alloc HB.out.size _⟩⟩
      case measure => simp [intOf]; omega
    ·
     have hb2 : (x0 == 0) = false := by simp [c2]
     have C2 := qab.mk c2
     clear c2
     go_wp2_with fail
     go_roundw
     case rel => exact ⟨k + 1, can, by omega, by omega, by go_num, rfl, rfl, ⟨by rw [← HE.out, if_neg (fun h => C2.out h.1)]⟩, ⟨Kd.R_alloc HO.out _⟩, ⟨HB.out.alloc HB.out.size _⟩⟩
     case measure => simp [intOf]; omega
  ·
   have he := HF.out
   rw [List.drop_eq_nil_of_le (by rw [← HN.out]; omega)] at he
   simp only [frz] at he
   cases he
   go_wp2_with fail
   try rw [Exit.noGoto_ret]
   go_ret2
   exact ⟨rfl, HB.out⟩
end Go.Proofs.Ytipphcjgdebecaa.PA
namespace Go.Proofs.Ytipphcjgdebecaa.PA
open Go.RowKit Go.Proofs.YtipphcjgdebecaaW.PrintWords Go.Proofs.YtipphcjgdebecaaW.PrintLast Go.Proofs.YtipphcjgdebecaaW.PrintMore
attribute [local go_sem] max2_int min2_int max_two min_two max_three min_three max_four min_four
def pipe_net_due.f (l0_0 : List (S39)) (l0_1 : List (S37)) (l0_2 : List (List Int)) (a0_3 : Int) (a1 : Int) : Option (Int) := (pipe_net_freezes.f l0_0 l0_1 l0_2 a0_3 a1).bind fun bt127 => (if bt127.1 ≥ 0 then (some (wrap64 (bt127.1 - 1))) else (some (l0_1.length : Int)))
set_option maxHeartbeats 8000000 in
set_option maxRecDepth 100000 in
theorem pipe_net_due.calls (A0_0 : Option Addr) (c0_0 : Nat) (l0_0 : List (S39)) (A0_1 : Option Addr) (c0_1 : Nat) (l0_1 : List (S37)) (A0_2 : Option Addr) (c0_2 : Nat) (l0_2 : List (List Int)) (a0_3 : Int) (a1 : Int) (r : Int) (w : World) (hr0_0 : Kd.C k39 w A0_0 l0_0.length l0_0) (hc0_0 : l0_0.length ≤ c0_0) (hr0_1 : Kd.C k37 w A0_1 l0_1.length l0_1) (hc0_1 : l0_1.length ≤ c0_1) (hr0_2 : Kd.C (Kd.slice 3 (Kd.int .i64)) w A0_2 l0_2.length l0_2) (hc0_2 : l0_2.length ≤ c0_2) (h : pipe_net_due.f l0_0 l0_1 l0_2 a0_3 a1 = some r) :
  Calls Try.prog 89 #[.agg #[.slice A0_0 l0_0.length c0_0, .slice A0_1 l0_1.length c0_1, .slice A0_2 l0_2.length c0_2, .int .i64 a0_3], .int .i64 a1] w fun e w' => e = .returned (.int .i64 r) ∧ Below w.heap.size w w' := by
 have hu99 := Try.underlying99
 have HR0_0 := qab.mk hr0_0
 have HC0_0 := qab.mk hc0_0
 clear hr0_0 hc0_0
 have HR0_1 := qab.mk hr0_1
 have HC0_1 := qab.mk hc0_1
 clear hr0_1 hc0_1
 have HR0_2 := qab.mk hr0_2
 have HC0_2 := qab.mk hc0_2
 clear hr0_2 hc0_2
 have HB := qab.mk (Below.refl w.heap.size w)
 have H : ((pipe_net_freezes.f l0_0 l0_1 l0_2 a0_3 a1).bind fun bt127 => (if bt127.1 ≥ 0 then (some (wrap64 (bt127.1 - 1))) else (some (l0_1.length : Int)))) = some r := h
 clear h
 replace H := Option.bind_eq_some_iff.mp H
 obtain ⟨⟨t127, t128⟩, A30, H⟩ := H
 replace H : (if t127 ≥ 0 then (some (wrap64 (t127 - 1))) else (some (l0_1.length : Int))) = some r := H
 have A3 := qab.mk A30
 clear A30
 by_cases c4 : t127 ≥ 0
 ·
  rw [if_pos c4] at H
  have c4b0 : decide (0 ≤ t127) = true := decide_eq_true c4
  clear c4
  obtain rfl := Option.some.inj H
  go_enter Try.func89, Try.ntmps89
  go_wp2_with (first | ((with_reducible refine qar (N := 2) rfl ?_); refine qap ?hg (N := 2) ?hd (cs := #[.slice A0_0 l0_0.length c0_0, .slice A0_1 l0_1.length c0_1, .slice A0_2 l0_2.length c0_2, .int .i64 a0_3]) (t := 99) ?hr ?_; (case hd => rfl); (case hg => rfl); (case hr => first | (go_simp; done) | (go_simp; rfl)); intro gb126 hg w5 hbox hb; have n0_ := qab.mk (qag (by repeat (first | (with_reducible first | exact HB.out | apply qae | apply qad | apply qaf) | exact HB.out)) hb); have n1_ := qab.mk (hbox); have n2_ := qab.mk ((by rw [hg]; exact (qan (by repeat (first | (with_reducible first | exact HB.out | apply qae | apply qad | apply qaf) | exact HB.out))) : w.heap.size ≤ gb126)); have n3_ := qab.mk ((by rw [hg]; exact (qan (by repeat (first | (with_reducible first | exact HB.out | apply qae | apply qad | apply qaf) | exact HB.out))) : w.heap.size ≤ gb126)); clear HB; have HB := n0_; have BK126 := n1_; have GW126 := n2_; have GE126 := n3_; clear n0_ n1_ n2_ n3_; clear hb hbox hg; have hcz6_0 : w5.cell? ⟨gb126, 0, none⟩ = some (.slice A0_0 l0_0.length c0_0) := (qaa BK126.out 0).trans rfl; have hcz6_1 : w5.cell? ⟨gb126, 1, none⟩ = some (.slice A0_1 l0_1.length c0_1) := (qaa BK126.out 1).trans rfl; have hcz6_2 : w5.cell? ⟨gb126, 2, none⟩ = some (.slice A0_2 l0_2.length c0_2) := (qaa BK126.out 2).trans rfl; have hcz6_3 : w5.cell? ⟨gb126, 3, none⟩ = some (.int .i64 a0_3) := (qaa BK126.out 3).trans rfl; have hfz6_0 := qac BK126.out 0; have hfz6_1 := qac BK126.out 1; have hfz6_2 := qac BK126.out 2; have hfz6_3 := qac BK126.out 3) | ((with_reducible refine gate_callee (f := 77) rfl ?_); refine goesL_ (some 10) rfl rfl Try.func77 (by kernel_rfl) rfl #[.agg #[.slice A0_0 l0_0.length c0_0, .slice A0_1 l0_1.length c0_1, .slice A0_2 l0_2.length c0_2, .int .i64 a0_3], .int .i64 a1] rfl (by (try simp only [List.map_toArray, List.map_cons, List.map_nil]); first | done | rfl | (simp only [List.length_drop, List.length_take]; rfl)) ?_; (with_reducible refine (pipe_net_freezes.calls _ _ l0_0 _ _ l0_1 _ _ l0_2 a0_3 a1 t127 t128 _ ?side1 ?side2 ?side3 ?side4 ?side5 ?side6 A3.out).mono ?_); (case side1 => repeat (first | exact (Kd.qam HR0_0.out HB.out) | (with_reducible refine Kd.C_alloc ?_ _) | (with_reducible refine Kd.C_drewN ?_ _) | (with_reducible refine Kd.C_drew ?_))); (case side2 => exact HC0_0.out); (case side3 => repeat (first | exact (Kd.qam HR0_1.out HB.out) | (with_reducible refine Kd.C_alloc ?_ _) | (with_reducible refine Kd.C_drewN ?_ _) | (with_reducible refine Kd.C_drew ?_))); (case side4 => exact HC0_1.out); (case side5 => repeat (first | exact (Kd.qam HR0_2.out HB.out) | (with_reducible refine Kd.C_alloc ?_ _) | (with_reducible refine Kd.C_drewN ?_ _) | (with_reducible refine Kd.C_drew ?_))); (case side6 => exact HC0_2.out); rintro e w7 ⟨rfl, hb⟩; refine ⟨_, rfl, ?_⟩; have n0_ := qab.mk (qah (g := gb126) (o := .cells #[.slice A0_0 l0_0.length c0_0, .slice A0_1 l0_1.length c0_1, .slice A0_2 l0_2.length c0_2, .int .i64 a0_3] 99 (0, 0)) (by (with_reducible repeat (first | refine qal ?_ _ | refine qao ?_ | refine qaj ?_ _)); exact BK126.out) hb); have n1_ := qab.mk (qag (by repeat (first | (with_reducible first | exact HB.out | apply qae | apply qad | apply qaf | refine qai ?_ GE126.out) | exact HB.out)) hb); clear BK126; clear HB; have BK126 := n0_; have HB := n1_; clear n0_ n1_; (try clear hb); (try clear hb2); (try clear hk); (try clear hi)))
  go_ret
  exact ⟨by first | rfl | (simp [qas, qat] <;> rfl) | (simp [*, qas, qat] <;> rfl), by repeat (first | (with_reducible first | exact HB.out | apply qae | apply qad | apply qaf | refine qai ?_ GE126.out) | exact HB.out)⟩
 ·
  rw [if_neg c4] at H
  have c4b0 : decide (0 ≤ t127) = false := decide_eq_false c4
  clear c4
  obtain rfl := Option.some.inj H
  go_enter Try.func89, Try.ntmps89
  go_wp2_with (first | ((with_reducible refine qar (N := 2) rfl ?_); refine qap ?hg (N := 2) ?hd (cs := #[.slice A0_0 l0_0.length c0_0, .slice A0_1 l0_1.length c0_1, .slice A0_2 l0_2.length c0_2, .int .i64 a0_3]) (t := 99) ?hr ?_; (case hd => rfl); (case hg => rfl); (case hr => first | (go_simp; done) | (go_simp; rfl)); intro gb126 hg w8 hbox hb; have n0_ := qab.mk (qag (by repeat (first | (with_reducible first | exact HB.out | apply qae | apply qad | apply qaf) | exact HB.out)) hb); have n1_ := qab.mk (hbox); have n2_ := qab.mk ((by rw [hg]; exact (qan (by repeat (first | (with_reducible first | exact HB.out | apply qae | apply qad | apply qaf) | exact HB.out))) : w.heap.size ≤ gb126)); have n3_ := qab.mk ((by rw [hg]; exact (qan (by repeat (first | (with_reducible first | exact HB.out | apply qae | apply qad | apply qaf) | exact HB.out))) : w.heap.size ≤ gb126)); clear HB; have HB := n0_; have BK126 := n1_; have GW126 := n2_; have GE126 := n3_; clear n0_ n1_ n2_ n3_; clear hb hbox hg; have hcz9_0 : w8.cell? ⟨gb126, 0, none⟩ = some (.slice A0_0 l0_0.length c0_0) := (qaa BK126.out 0).trans rfl; have hcz9_1 : w8.cell? ⟨gb126, 1, none⟩ = some (.slice A0_1 l0_1.length c0_1) := (qaa BK126.out 1).trans rfl; have hcz9_2 : w8.cell? ⟨gb126, 2, none⟩ = some (.slice A0_2 l0_2.length c0_2) := (qaa BK126.out 2).trans rfl; have hcz9_3 : w8.cell? ⟨gb126, 3, none⟩ = some (.int .i64 a0_3) := (qaa BK126.out 3).trans rfl; have hfz9_0 := qac BK126.out 0; have hfz9_1 := qac BK126.out 1; have hfz9_2 := qac BK126.out 2; have hfz9_3 := qac BK126.out 3) | ((with_reducible refine gate_callee (f := 77) rfl ?_); refine goesL_ (some 10) rfl rfl Try.func77 (by kernel_rfl) rfl #[.agg #[.slice A0_0 l0_0.length c0_0, .slice A0_1 l0_1.length c0_1, .slice A0_2 l0_2.length c0_2, .int .i64 a0_3], .int .i64 a1] rfl (by (try simp only [List.map_toArray, List.map_cons, List.map_nil]); first | done | rfl | (simp only [List.length_drop, List.length_take]; rfl)) ?_; (with_reducible refine (pipe_net_freezes.calls _ _ l0_0 _ _ l0_1 _ _ l0_2 a0_3 a1 t127 t128 _ ?side1 ?side2 ?side3 ?side4 ?side5 ?side6 A3.out).mono ?_); (case side1 => repeat (first | exact (Kd.qam HR0_0.out HB.out) | (with_reducible refine Kd.C_alloc ?_ _) | (with_reducible refine Kd.C_drewN ?_ _) | (with_reducible refine Kd.C_drew ?_))); (case side2 => exact HC0_0.out); (case side3 => repeat (first | exact (Kd.qam HR0_1.out HB.out) | (with_reducible refine Kd.C_alloc ?_ _) | (with_reducible refine Kd.C_drewN ?_ _) | (with_reducible refine Kd.C_drew ?_))); (case side4 => exact HC0_1.out); (case side5 => repeat (first | exact (Kd.qam HR0_2.out HB.out) | (with_reducible refine Kd.C_alloc ?_ _) | (with_reducible refine Kd.C_drewN ?_ _) | (with_reducible refine Kd.C_drew ?_))); (case side6 => exact HC0_2.out); rintro e w10 ⟨rfl, hb⟩; refine ⟨_, rfl, ?_⟩; have n0_ := qab.mk (qah (g := gb126) (o := .cells #[.slice A0_0 l0_0.length c0_0, .slice A0_1 l0_1.length c0_1, .slice A0_2 l0_2.length c0_2, .int .i64 a0_3] 99 (0, 0)) (by (with_reducible repeat (first | refine qal ?_ _ | refine qao ?_ | refine qaj ?_ _)); exact BK126.out) hb); have n1_ := qab.mk (qag (by repeat (first | (with_reducible first | exact HB.out | apply qae | apply qad | apply qaf | refine qai ?_ GE126.out) | exact HB.out)) hb); clear BK126; clear HB; have BK126 := n0_; have HB := n1_; clear n0_ n1_; (try clear hb); (try clear hb2); (try clear hk); (try clear hi); have hcz11_0 : w10.cell? ⟨gb126, 0, none⟩ = some (.slice A0_0 l0_0.length c0_0) := (qaa BK126.out 0).trans rfl; have hcz11_1 : w10.cell? ⟨gb126, 1, none⟩ = some (.slice A0_1 l0_1.length c0_1) := (qaa BK126.out 1).trans rfl; have hcz11_2 : w10.cell? ⟨gb126, 2, none⟩ = some (.slice A0_2 l0_2.length c0_2) := (qaa BK126.out 2).trans rfl; have hcz11_3 : w10.cell? ⟨gb126, 3, none⟩ = some (.int .i64 a0_3) := (qaa BK126.out 3).trans rfl; have hfz11_0 := qac BK126.out 0; have hfz11_1 := qac BK126.out 1; have hfz11_2 := qac BK126.out 2; have hfz11_3 := qac BK126.out 3))
  go_ret
  exact ⟨by first | rfl | (simp [qas, qat] <;> rfl) | (simp [*, qas, qat] <;> rfl), by repeat (first | (with_reducible first | exact HB.out | apply qae | apply qad | apply qaf | refine qai ?_ GE126.out) | exact HB.out)⟩
end Go.Proofs.Ytipphcjgdebecaa.PA
namespace Go.Proofs.Ytipphcjgdebecaa.PA
open Go.RowKit Go.Proofs.YtipphcjgdebecaaW.PrintWords Go.Proofs.YtipphcjgdebecaaW.PrintLast Go.Proofs.YtipphcjgdebecaaW.PrintMore
attribute [local go_sem] max2_int min2_int max_two min_two max_three min_three max_four min_four
theorem ta137 (v : Value) (W : World) : (Instr.typeAssert (.iface 137 v) 20 137 true).run Try.prog W = .ok (.tuple #[v, .bool true]) W := by
 have h := Try.underlying137
 simp [Instr.typeAssert, go_sem, h]
set_option maxRecDepth 100000 in
set_option maxHeartbeats 1000000 in
theorem repaired1_late (g : Nat) (x : Bool) (i : Int) (w : World) (hb : w.heap[g]? = some (.cells #[.bool x] 4 (0, 0))) :
  CallsD Try.prog 103 #[.pointer (some ⟨g, 0, none⟩)] (.panicking ({ v := .iface 137 (.agg #[.int .i64 i]), recovered := false } :: [])) w fun e u' w' =>
   e = .returned (.tuple #[]) ∧ u' = .panicking ({ v := .iface 137 (.agg #[.int .i64 i]), recovered := true } :: []) ∧ w' = (w.alloc (.cells #[.int .i64 i] 137)).setCell ⟨g, 0, none⟩ (.bool false) := by
 have hta := ta137
 have hb1 := qaj hb (.cells #[.int .i64 i] 137)
 have h1 : (w.alloc (.cells #[.int .i64 i] 137)).cell? ⟨g, 0, none⟩ = some (.bool x) := qaa hb1 0
 have h2 : (w.alloc (.cells #[.int .i64 i] 137)).frozen? ⟨g, 0, none⟩ = false := qac hb1 0
 clear hb hb1
 refine callsD_of_wpS Try.func103 rfl fun c₀ cs hu => ?_
 apply wpS_seq
 apply wpS_region
 simp [wpOpsS, go_sem, recoverD, hu, Try.ntmps103, Exit.thenS]
 refine wpS_of_wp ?_
 go_wp2
 cases c₀
 simp_all [bodyPostS, results, Try.results103]
set_option maxRecDepth 100000 in
set_option maxHeartbeats 1000000 in
theorem repaired1_idle (p : Addr) (w : World) :
  CallsD Try.prog 103 #[.pointer (some p)] .returning w fun e u' w' => e = .returned (.tuple #[]) ∧ u' = .returning ∧ w' = w := by
 refine callsD_of_wpS Try.func103 rfl fun c₀ cs hu => ?_
 apply wpS_seq
 apply wpS_region
 simp [wpOpsS, go_sem, recoverD, hu, Try.ntmps103, Exit.thenS]
 refine wpS_of_wp ?_
 go_wp2
 cases c₀
 simp_all [bodyPostS, results, Try.results103]
def repV (l0 : List S39) (l2 : List (List Int)) (D : List Int) (s : Sp) (i : Int) : Sp × Int × Bool :=
 if hourV l0 l2 s i > rd D i then (⟨0, 0, 0⟩, 0, false) else (nextV l0 l2 s i, wrap64 (rd D i - hourV l0 l2 s i), true)
set_option maxRecDepth 100000 in
set_option maxHeartbeats 4000000 in
theorem repaired_calls (A0 : Option Addr) (c0 : Nat) (l0 : List S39) (v1 : Value) (A2 : Option Addr) (c2 : Nat) (l2 : List (List Int)) (wp : Int) (s : Sp) (i : Int) (A3 : Option Addr) (c3 : Nat) (D : List Int) (w : World)
  (hr0 : Kd.C k39 w A0 l0.length l0) (hr2 : Kd.C (Kd.slice 3 (Kd.int .i64)) w A2 l2.length l2) (hr3 : Kd.C (Kd.int .i64) w A3 D.length D)
  (p0 : 0 ≤ s.p) (p1 : s.p < l2.length) (i0 : 0 ≤ i) (i1 : i < l0.length) (i2 : i + 1 < (rd_L1 l2 s.p).length) (i3 : i < D.length) (i4 : i < 60) :
  Calls Try.prog 92 #[.agg #[.slice A0 l0.length c0, v1, .slice A2 l2.length c2, .int .i64 wp], spV s, .int .i64 i, .slice A3 D.length c3] w fun e w' =>
   e = .returned (.tuple #[spV (repV l0 l2 D s i).1, .int .i64 (repV l0 l2 D s i).2.1, .bool (repV l0 l2 D s i).2.2]) ∧ Below w.heap.size w w' := by
 have hu26 := Try.underlying26
 have hu99 := Try.underlying99
 have hu123 := Try.underlying123
 have hmf : ∀ (fn : Fn) (first cap : Array Value) (w : World), (Instr.makeFunc fn first cap).run Try.prog w = .ok (.func fn first cap) w := fun _ _ _ _ => rfl
 have H0 := qab.mk hr0
 have H2 := qab.mk hr2
 have H3 := qab.mk hr3
 clear hr0 hr2 hr3
 have HB := qab.mk (Below.refl w.heap.size w)
 unfold repV
 obtain ⟨p, h, r⟩ := s
 simp only [spV_eq]
 dsimp only at p0 p1 i2
 by_cases hlate : hourV l0 l2 ⟨p, h, r⟩ i > rd D i
 ·
  simp only [if_pos hlate]
  have HL := qab.mk hlate
  clear hlate
  go_enter_defers Try.func92, Try.ntmps92
  go_wp2_with ((first | ((with_reducible refine qar (N := 4) rfl ?_); refine qap ?hg (N := 4) ?hd (cs := #[.slice A0 l0.length c0, v1, .slice A2 l2.length c2, .int .i64 wp]) (t := 99) ?hr ?_; (case hd => rfl); (case hg => rfl); (case hr => first | (go_simp; done) | (go_simp; rfl)); intro gb hg_gb w2 hbox hb; have BKgb := qab.mk hbox; have n_HB := qab.mk (qag HB.out hb); have GEgb : w.heap.size ≤ gb := (by rw [hg_gb]; exact HB.out.size); clear HB; have HB := n_HB; clear n_HB; clear hbox hb hg_gb) | ((with_reducible refine qar (N := 5) rfl ?_); refine qap ?hg (N := 5) ?hd (cs := #[.int .i64 p, .int .i64 h, .int .i64 r]) (t := 123) ?hr ?_; (case hd => rfl); (case hg => rfl); (case hr => first | (go_simp; done) | (go_simp; rfl)); intro gs hg_gs w3 hbox hb; have BKgs := qab.mk hbox; have n_BKgb := qab.mk (qah BKgb.out hb); clear BKgb; have BKgb := n_BKgb; clear n_BKgb; have n_HB := qab.mk (qag HB.out hb); have GEgs : w.heap.size ≤ gs := (by rw [hg_gs]; exact HB.out.size); clear HB; have HB := n_HB; clear n_HB; clear hbox hb hg_gs) | ((with_reducible refine qar (N := 8) rfl ?_); refine qap ?hg (N := 8) ?hd (cs := #[.int .i64 0, .int .i64 0, .int .i64 0]) (t := 123) ?hr ?_; (case hd => rfl); (case hg => rfl); (case hr => first | (go_simp; done) | (go_simp; rfl)); intro gz hg_gz w4 hbox hb; have BKgz := qab.mk hbox; have n_BKgb := qab.mk (qah BKgb.out hb); clear BKgb; have BKgb := n_BKgb; clear n_BKgb; have n_BKgs := qab.mk (qah BKgs.out hb); clear BKgs; have BKgs := n_BKgs; clear n_BKgs; have n_HB := qab.mk (qag HB.out hb); have GEgz : w.heap.size ≤ gz := (by rw [hg_gz]; exact HB.out.size); clear HB; have HB := n_HB; clear n_HB; clear hbox hb hg_gz) | ((with_reducible refine qar (N := 10) rfl ?_); refine qap ?hg (N := 10) ?hd (cs := #[.bool false]) (t := 4) ?hr ?_; (case hd => rfl); (case hg => rfl); (case hr => first | (go_simp; done) | (go_simp; rfl)); intro gi hg_gi w5 hbox hb; have BKgi := qab.mk hbox; have n_BKgb := qab.mk (qah BKgb.out hb); clear BKgb; have BKgb := n_BKgb; clear n_BKgb; have n_BKgs := qab.mk (qah BKgs.out hb); clear BKgs; have BKgs := n_BKgs; clear n_BKgs; have n_BKgz := qab.mk (qah BKgz.out hb); clear BKgz; have BKgz := n_BKgz; clear n_BKgz; have n_HB := qab.mk (qag HB.out hb); have GEgi : w.heap.size ≤ gi := (by rw [hg_gi]; exact HB.out.size); clear HB; have HB := n_HB; clear n_HB; clear hbox hb hg_gi; have hfgb := qac BKgb.out; have hcgb_0 : w5.cell? ⟨gb, 0, none⟩ = some (.slice A0 l0.length c0) := (qaa BKgb.out 0).trans rfl; have hcgb_1 : w5.cell? ⟨gb, 1, none⟩ = some (v1) := (qaa BKgb.out 1).trans rfl; have hcgb_2 : w5.cell? ⟨gb, 2, none⟩ = some (.slice A2 l2.length c2) := (qaa BKgb.out 2).trans rfl; have hcgb_3 : w5.cell? ⟨gb, 3, none⟩ = some (.int .i64 wp) := (qaa BKgb.out 3).trans rfl; have hfgs := qac BKgs.out; have hcgs_0 : w5.cell? ⟨gs, 0, none⟩ = some (.int .i64 p) := (qaa BKgs.out 0).trans rfl; have hcgs_1 : w5.cell? ⟨gs, 1, none⟩ = some (.int .i64 h) := (qaa BKgs.out 1).trans rfl; have hcgs_2 : w5.cell? ⟨gs, 2, none⟩ = some (.int .i64 r) := (qaa BKgs.out 2).trans rfl; have hfgz := qac BKgz.out; have hcgz_0 : w5.cell? ⟨gz, 0, none⟩ = some (.int .i64 0) := (qaa BKgz.out 0).trans rfl; have hcgz_1 : w5.cell? ⟨gz, 1, none⟩ = some (.int .i64 0) := (qaa BKgz.out 1).trans rfl; have hcgz_2 : w5.cell? ⟨gz, 2, none⟩ = some (.int .i64 0) := (qaa BKgz.out 2).trans rfl; have hfgi := qac BKgi.out; have hcgi_0 : w5.cell? ⟨gi, 0, none⟩ = some (.bool false) := (qaa BKgi.out 0).trans rfl)))
  refine (repairs_calls _ _ _ _ _ _ _ _ ⟨p, h, r⟩ i _ _ D w5 (Kd.qam H0.out HB.out) (Kd.qam H2.out HB.out) (Kd.qam H3.out HB.out) p0 p1 i0 i1 i2 i3 i4).mono ?_
  rintro e w6 ⟨he, hb⟩
  rw [if_pos HL.out] at he
  subst he
  clear hfgb hcgb_0 hcgb_1 hcgb_2 hcgb_3 hfgs hcgs_0 hcgs_1 hcgs_2 hfgz hcgz_0 hcgz_1 hcgz_2 hfgi hcgi_0
  have n_BKgb := qab.mk (qah BKgb.out hb); clear BKgb; have BKgb := n_BKgb; clear n_BKgb; have n_BKgs := qab.mk (qah BKgs.out hb); clear BKgs; have BKgs := n_BKgs; clear n_BKgs; have n_BKgz := qab.mk (qah BKgz.out hb); clear BKgz; have BKgz := n_BKgz; clear n_BKgz; have n_BKgi := qab.mk (qah BKgi.out hb); clear BKgi; have BKgi := n_BKgi; clear n_BKgi; have n_HB := qab.mk (qag HB.out hb); clear HB; have HB := n_HB; clear n_HB; clear hb
  try dsimp only
  refine leaves_cons (f := 103) (args := #[.pointer (some ⟨gi, 0, none⟩)]) (by simp) (by simp [go_sem]) ?_
  refine (repaired1_late gi false i w6 BKgi.out).mono ?_
  rintro e u' w'' ⟨rfl, rfl, rfl⟩
  have B1 := blk_far (p := ⟨gi, 0, none⟩) (qaj BKgz.out (.cells #[.int .i64 i] 137)) (blk_ne BKgz.out BKgi.out (by decide)) (.bool false)
  have B2 := blk_set (qaj BKgi.out (.cells #[.int .i64 i] 137)) 0 (.bool false)
  have B3 := qai (j := 0) (v := .bool false) (HB.out.alloc HB.out.size (.cells #[.int .i64 i] 137)) GEgi
  generalize (w6.alloc (.cells #[.int .i64 i] 137)).setCell ⟨gi, 0, none⟩ (.bool false) = w7 at B1 B2 B3 ⊢
  have z0 : w7.cell? ⟨gz, 0, none⟩ = some (.int .i64 0) := qaa B1 0
  have z1 : w7.cell? ⟨gz, 1, none⟩ = some (.int .i64 0) := qaa B1 1
  have z2 : w7.cell? ⟨gz, 2, none⟩ = some (.int .i64 0) := qaa B1 2
  have z3 : w7.cell? ⟨gi, 0, none⟩ = some (.bool false) := qaa B2 0
  simp [Leaves, settle, results, Try.results92, go_sem, z0, z1, z2, z3, hu123]
  exact ⟨rfl, B3⟩
 ·
  simp only [if_neg hlate]
  have HL := qab.mk hlate
  clear hlate
  go_enter_defers Try.func92, Try.ntmps92
  go_wp2_with ((first | ((with_reducible refine qar (N := 4) rfl ?_); refine qap ?hg (N := 4) ?hd (cs := #[.slice A0 l0.length c0, v1, .slice A2 l2.length c2, .int .i64 wp]) (t := 99) ?hr ?_; (case hd => rfl); (case hg => rfl); (case hr => first | (go_simp; done) | (go_simp; rfl)); intro gb hg_gb w2 hbox hb; have BKgb := qab.mk hbox; have n_HB := qab.mk (qag HB.out hb); have GEgb : w.heap.size ≤ gb := (by rw [hg_gb]; exact HB.out.size); clear HB; have HB := n_HB; clear n_HB; clear hbox hb hg_gb) | ((with_reducible refine qar (N := 5) rfl ?_); refine qap ?hg (N := 5) ?hd (cs := #[.int .i64 p, .int .i64 h, .int .i64 r]) (t := 123) ?hr ?_; (case hd => rfl); (case hg => rfl); (case hr => first | (go_simp; done) | (go_simp; rfl)); intro gs hg_gs w3 hbox hb; have BKgs := qab.mk hbox; have n_BKgb := qab.mk (qah BKgb.out hb); clear BKgb; have BKgb := n_BKgb; clear n_BKgb; have n_HB := qab.mk (qag HB.out hb); have GEgs : w.heap.size ≤ gs := (by rw [hg_gs]; exact HB.out.size); clear HB; have HB := n_HB; clear n_HB; clear hbox hb hg_gs) | ((with_reducible refine qar (N := 8) rfl ?_); refine qap ?hg (N := 8) ?hd (cs := #[.int .i64 0, .int .i64 0, .int .i64 0]) (t := 123) ?hr ?_; (case hd => rfl); (case hg => rfl); (case hr => first | (go_simp; done) | (go_simp; rfl)); intro gz hg_gz w4 hbox hb; have BKgz := qab.mk hbox; have n_BKgb := qab.mk (qah BKgb.out hb); clear BKgb; have BKgb := n_BKgb; clear n_BKgb; have n_BKgs := qab.mk (qah BKgs.out hb); clear BKgs; have BKgs := n_BKgs; clear n_BKgs; have n_HB := qab.mk (qag HB.out hb); have GEgz : w.heap.size ≤ gz := (by rw [hg_gz]; exact HB.out.size); clear HB; have HB := n_HB; clear n_HB; clear hbox hb hg_gz) | ((with_reducible refine qar (N := 10) rfl ?_); refine qap ?hg (N := 10) ?hd (cs := #[.bool false]) (t := 4) ?hr ?_; (case hd => rfl); (case hg => rfl); (case hr => first | (go_simp; done) | (go_simp; rfl)); intro gi hg_gi w5 hbox hb; have BKgi := qab.mk hbox; have n_BKgb := qab.mk (qah BKgb.out hb); clear BKgb; have BKgb := n_BKgb; clear n_BKgb; have n_BKgs := qab.mk (qah BKgs.out hb); clear BKgs; have BKgs := n_BKgs; clear n_BKgs; have n_BKgz := qab.mk (qah BKgz.out hb); clear BKgz; have BKgz := n_BKgz; clear n_BKgz; have n_HB := qab.mk (qag HB.out hb); have GEgi : w.heap.size ≤ gi := (by rw [hg_gi]; exact HB.out.size); clear HB; have HB := n_HB; clear n_HB; clear hbox hb hg_gi; have hfgb := qac BKgb.out; have hcgb_0 : w5.cell? ⟨gb, 0, none⟩ = some (.slice A0 l0.length c0) := (qaa BKgb.out 0).trans rfl; have hcgb_1 : w5.cell? ⟨gb, 1, none⟩ = some (v1) := (qaa BKgb.out 1).trans rfl; have hcgb_2 : w5.cell? ⟨gb, 2, none⟩ = some (.slice A2 l2.length c2) := (qaa BKgb.out 2).trans rfl; have hcgb_3 : w5.cell? ⟨gb, 3, none⟩ = some (.int .i64 wp) := (qaa BKgb.out 3).trans rfl; have hfgs := qac BKgs.out; have hcgs_0 : w5.cell? ⟨gs, 0, none⟩ = some (.int .i64 p) := (qaa BKgs.out 0).trans rfl; have hcgs_1 : w5.cell? ⟨gs, 1, none⟩ = some (.int .i64 h) := (qaa BKgs.out 1).trans rfl; have hcgs_2 : w5.cell? ⟨gs, 2, none⟩ = some (.int .i64 r) := (qaa BKgs.out 2).trans rfl; have hfgz := qac BKgz.out; have hcgz_0 : w5.cell? ⟨gz, 0, none⟩ = some (.int .i64 0) := (qaa BKgz.out 0).trans rfl; have hcgz_1 : w5.cell? ⟨gz, 1, none⟩ = some (.int .i64 0) := (qaa BKgz.out 1).trans rfl; have hcgz_2 : w5.cell? ⟨gz, 2, none⟩ = some (.int .i64 0) := (qaa BKgz.out 2).trans rfl; have hfgi := qac BKgi.out; have hcgi_0 : w5.cell? ⟨gi, 0, none⟩ = some (.bool false) := (qaa BKgi.out 0).trans rfl)))
  refine (repairs_calls _ _ _ _ _ _ _ _ ⟨p, h, r⟩ i _ _ D w5 (Kd.qam H0.out HB.out) (Kd.qam H2.out HB.out) (Kd.qam H3.out HB.out) p0 p1 i0 i1 i2 i3 i4).mono ?_
  rintro e w6 ⟨he, hb⟩
  rw [if_neg (Int.not_lt.2 HL.out)] at he
  subst he
  clear hfgb hcgb_0 hcgb_1 hcgb_2 hcgb_3 hfgs hcgs_0 hcgs_1 hcgs_2 hfgz hcgz_0 hcgz_1 hcgz_2 hfgi hcgi_0
  have nzi := blk_ne BKgz.out BKgi.out (by decide)
  have n_BKgb := qab.mk (qah BKgb.out hb); clear BKgb; have BKgb := n_BKgb; clear n_BKgb; have n_BKgs := qab.mk (qah BKgs.out hb); clear BKgs; have BKgs := n_BKgs; clear n_BKgs; have n_BKgz := qab.mk (qah BKgz.out hb); clear BKgz; have BKgz := n_BKgz; clear n_BKgz; have n_BKgi := qab.mk (qah BKgi.out hb); clear BKgi; have BKgi := n_BKgi; clear n_BKgi; have n_HB := qab.mk (qag HB.out hb); clear HB; have HB := n_HB; clear n_HB; clear hb
  clear BKgb BKgs
  obtain ⟨q, hq⟩ : ∃ q, nextV l0 l2 ⟨p, h, r⟩ i = q := ⟨_, rfl⟩
  rw [hq]
  have HQ := qab.mk hq
  clear hq
  obtain ⟨q0, q1, q2⟩ := q
  simp only [spV_eq]
  have hfgz := qac BKgz.out; have hcgz_0 : w6.cell? ⟨gz, 0, none⟩ = some (.int .i64 0) := (qaa BKgz.out 0).trans rfl; have hcgz_1 : w6.cell? ⟨gz, 1, none⟩ = some (.int .i64 0) := (qaa BKgz.out 1).trans rfl; have hcgz_2 : w6.cell? ⟨gz, 2, none⟩ = some (.int .i64 0) := (qaa BKgz.out 2).trans rfl
  have hfgi := qac BKgi.out; have hcgi_0 : w6.cell? ⟨gi, 0, none⟩ = some (.bool false) := (qaa BKgi.out 0).trans rfl
  have nzi2 := nzi.symm
  go_wp2
  refine leaves_cons (f := 103) (args := #[.pointer (some ⟨gi, 0, none⟩)]) (by simp) (by simp [go_sem]) ?_
  refine (repaired1_idle ⟨gi, 0, none⟩ _).mono ?_
  rintro e u' w'' ⟨rfl, rfl, rfl⟩
  have B1 := blk_far (p := ⟨gi, 0, none⟩) (blk_set (blk_set (blk_set (blk_set (blk_set (blk_set BKgz.out 0 (.int .i64 q0)) 1 (.int .i64 q1)) 2 (.int .i64 q2)) 0 (.int .i64 q0)) 1 (.int .i64 q1)) 2 (.int .i64 q2)) nzi (.bool true)
  have B2 := blk_set (blk_far (p := ⟨gz, 2, none⟩) (blk_far (p := ⟨gz, 1, none⟩) (blk_far (p := ⟨gz, 0, none⟩) (blk_far (p := ⟨gz, 2, none⟩) (blk_far (p := ⟨gz, 1, none⟩) (blk_far (p := ⟨gz, 0, none⟩) BKgi.out nzi2 (.int .i64 q0)) nzi2 (.int .i64 q1)) nzi2 (.int .i64 q2)) nzi2 (.int .i64 q0)) nzi2 (.int .i64 q1)) nzi2 (.int .i64 q2)) 0 (.bool true)
  have B3 := qai (j := 0) (v := .bool true) (qai (j := 2) (v := .int .i64 q2) (qai (j := 1) (v := .int .i64 q1) (qai (j := 0) (v := .int .i64 q0) (qai (j := 2) (v := .int .i64 q2) (qai (j := 1) (v := .int .i64 q1) (qai (j := 0) (v := .int .i64 q0) HB.out GEgz) GEgz) GEgz) GEgz) GEgz) GEgz) GEgi
  dsimp only
  generalize World.setCell _ ⟨gi, 0, none⟩ (.bool true) = w7 at B1 B2 B3 ⊢
  have z0 : w7.cell? ⟨gz, 0, none⟩ = some (.int .i64 q0) := qaa B1 0
  have z1 : w7.cell? ⟨gz, 1, none⟩ = some (.int .i64 q1) := qaa B1 1
  have z2 : w7.cell? ⟨gz, 2, none⟩ = some (.int .i64 q2) := qaa B1 2
  have z3 : w7.cell? ⟨gi, 0, none⟩ = some (.bool true) := qaa B2 0
  simp [Leaves, settle, results, Try.results92, go_sem, z0, z1, z2, z3, hu123]
  exact ⟨by rw [HQ.out]; rfl, B3⟩
end Go.Proofs.Ytipphcjgdebecaa.PA
namespace Go.Proofs.Ytipphcjgdebecaa.PA
open Go.RowKit Go.Proofs.YtipphcjgdebecaaW.PrintWords Go.Proofs.YtipphcjgdebecaaW.PrintLast Go.Proofs.YtipphcjgdebecaaW.PrintMore
attribute [local go_sem] max2_int min2_int max_two min_two max_three min_three max_four min_four
abbrev Way := List Int × Int × Bool
def ofV (l0 : List S39) (l2 : List (List Int)) (D : List Int) (f : Sp → Way) (s : Sp) (i : Int) : Int × Bool :=
 if (repV l0 l2 D s i).2.2 = true then (min (repV l0 l2 D s i).2.1 (f (repV l0 l2 D s i).1).2.1, (f (repV l0 l2 D s i).1).2.2) else (0, false)
def goodV (l0 : List S39) (l2 : List (List Int)) (D : List Int) (f : Sp → Way) (slack : Int) (s : Sp) (i : Int) : Bool :=
 (repV l0 l2 D s i).2.2 && decide (slack ≤ (repV l0 l2 D s i).2.1) && (f (repV l0 l2 D s i).1).2.2 && decide (slack ≤ (f (repV l0 l2 D s i).1).2.1)
def sameV (l0 : List S39) (l2 : List (List Int)) (D : List Int) (f : Sp → Way) (slack : Int) : Nat → Sp → List Int → List Int
 | 0, _, out => out
 | k + 1, s, out => if s.r = 0 then out else
  match (loopsOf s.r 5).find? (goodV l0 l2 D f slack s) with
  | some i => sameV l0 l2 D f slack k (repV l0 l2 D s i).1 (out ++ [i])
  | none => out
def stepV (l0 : List S39) (l1 : List S37) (l2 : List (List Int)) (D : List Int) (f : Sp → Way) (s : Sp) : Way :=
 if s.r = 0 then ([], (l1.length : Int), true) else
  (if (g1 (ofV l0 l2 D f s) (loopsOf s.r 5)).2.2 = true then sameV l0 l2 D f (g1 (ofV l0 l2 D f s) (loopsOf s.r 5)).2.1 5 (repV l0 l2 D s (g1 (ofV l0 l2 D f s) (loopsOf s.r 5)).1).1 [(g1 (ofV l0 l2 D f s) (loopsOf s.r 5)).1] else [],
   (g1 (ofV l0 l2 D f s) (loopsOf s.r 5)).2.1, (g1 (ofV l0 l2 D f s) (loopsOf s.r 5)).2.2)
def searchV (l0 : List S39) (l1 : List S37) (l2 : List (List Int)) (D : List Int) : Nat → Sp → Way
 | 0, _ => ([], (l1.length : Int), true)
 | k + 1, s => stepV l0 l1 l2 D (searchV l0 l1 l2 D k) s
def cntB (r : Int) : Nat := (loopsOf r 5).length
theorem bits_all : (List.range 32).all (fun r => (List.range 5).all (fun i => !(bitB r i) ||
  (decide (0 ≤ bits .andNot .i64 (r : Int) (wrap64 (2 ^ i))) && decide (bits .andNot .i64 (r : Int) (wrap64 (2 ^ i)) < 32) &&
   decide (loopsOf (bits .andNot .i64 (r : Int) (wrap64 (2 ^ i))) 5 = (loopsOf (r : Int) 5).filter (fun j => j != (i : Int)))))) = true := by kernel_rfl
theorem mem_loopsOf (f : Int) (n : Nat) (x : Int) : x ∈ loopsOf f n ↔ ∃ k : Nat, x = k ∧ k < n ∧ bitB f k = true := by
 induction n with
 | zero => simp [loopsOf]
 | succ n ih =>
  unfold loopsOf
  split
  ·
   rename_i h
   simp only [List.mem_append, ih, List.mem_singleton]
   constructor
   ·
    rintro (⟨k, rfl, hk, hb⟩ | rfl)
    ·
     exact ⟨k, rfl, by omega, hb⟩
    ·
     exact ⟨n, rfl, by omega, h⟩
   ·
    rintro ⟨k, rfl, hk, hb⟩
    rcases Nat.lt_or_ge k n with h1 | h1
    ·
     exact .inl ⟨k, rfl, h1, hb⟩
    ·
     exact .inr (by congr 1; omega)
  ·
   rename_i h
   rw [ih]
   constructor
   ·
    rintro ⟨k, rfl, hk, hb⟩
    exact ⟨k, rfl, by omega, hb⟩
   ·
    rintro ⟨k, rfl, hk, hb⟩
    refine ⟨k, rfl, ?_, hb⟩
    rcases Nat.lt_or_ge k n with h1 | h1
    ·
     exact h1
    ·
     obtain rfl : k = n := by omega
     exact absurd hb h
theorem nodup_loopsOf (f : Int) (n : Nat) : (loopsOf f n).Nodup := by
 induction n with
 | zero => simp [loopsOf]
 | succ n ih =>
  unfold loopsOf
  split
  ·
   rw [List.nodup_append]
   refine ⟨ih, by simp, ?_⟩
   intro a ha b hb
   simp only [List.mem_singleton] at hb
   obtain ⟨k, rfl, hk, _⟩ := (mem_loopsOf f n a).1 ha
   subst hb
   intro e
   have : (k : Int) = n := e
   omega
  ·
   exact ih
theorem rest_of (r : Int) (h0 : 0 ≤ r) (h1 : r < 32) (i : Int) (hi : i ∈ loopsOf r 5) :
  0 ≤ bits .andNot .i64 r (wrap64 (2 ^ i.toNat)) ∧ bits .andNot .i64 r (wrap64 (2 ^ i.toNat)) < 32 ∧
   loopsOf (bits .andNot .i64 r (wrap64 (2 ^ i.toNat))) 5 = (loopsOf r 5).filter (fun j => j != i) := by
 obtain ⟨k, rfl, hk, hb⟩ := (mem_loopsOf r 5 i).1 hi
 obtain ⟨n, rfl⟩ := Int.eq_ofNat_of_zero_le h0
 have h := bits_all
 rw [List.all_eq_true] at h
 have h2 := h n (by simp; omega)
 rw [List.all_eq_true] at h2
 have h3 := h2 k (by simp; omega)
 rw [hb] at h3
 simp only [Bool.not_true, Bool.false_or, Bool.and_eq_true, decide_eq_true_eq] at h3
 rw [Int.toNat_natCast]
 exact ⟨h3.1.1, h3.1.2, h3.2⟩
theorem cnt_next (r : Int) (h0 : 0 ≤ r) (h1 : r < 32) (i : Int) (hi : i ∈ loopsOf r 5) : cntB (bits .andNot .i64 r (wrap64 (2 ^ i.toNat))) + 1 = cntB r := by
 unfold cntB
 rw [(rest_of r h0 h1 i hi).2.2]
 have := (nodup_loopsOf r 5).erase_eq_filter i
 rw [← this, List.length_erase_of_mem hi]
 have := List.length_pos_of_mem hi
 omega
theorem bits_zero : (List.range 32).all (fun r => decide ((r : Int) = 0) == decide (loopsOf (r : Int) 5 = [])) = true := by kernel_rfl
theorem cnt_zero (r : Int) (h0 : 0 ≤ r) (h1 : r < 32) : cntB r = 0 ↔ r = 0 := by
 obtain ⟨n, rfl⟩ := Int.eq_ofNat_of_zero_le h0
 have h := bits_zero
 rw [List.all_eq_true] at h
 have h2 := h n (by simp; omega)
 rw [beq_iff_eq] at h2
 unfold cntB
 rw [List.length_eq_zero_iff]
 exact (decide_eq_decide.1 h2).symm
theorem cnt_le (r : Int) : cntB r ≤ 5 := by
 unfold cntB
 have : ∀ n, (loopsOf r n).length ≤ n := by
  intro n
  induction n with
  | zero => simp [loopsOf]
  | succ n ih =>
   unfold loopsOf
   split
   ·
    simp
    omega
   ·
    omega
 exact this 5
def OkS (s : Sp) : Prop := 0 ≤ s.r ∧ s.r < 32
section
variable (l0 : List S39) (l1 : List S37) (l2 : List (List Int)) (D : List Int)
theorem rep_next (s : Sp) (i : Int) (h : (repV l0 l2 D s i).2.2 = true) : (repV l0 l2 D s i).1 = nextV l0 l2 s i := by
 unfold repV at h ⊢
 split
 ·
  rename_i hc
  rw [if_pos hc] at h
  cases h
 ·
  rfl
theorem next_ok (s : Sp) (hs : OkS s) (i : Int) (hi : i ∈ loopsOf s.r 5) (h : (repV l0 l2 D s i).2.2 = true) : OkS (repV l0 l2 D s i).1 ∧ cntB (repV l0 l2 D s i).1.r + 1 = cntB s.r := by
 rw [rep_next l0 l2 D s i h]
 have h1 := rest_of s.r hs.1 hs.2 i hi
 exact ⟨⟨h1.1, h1.2.1⟩, cnt_next s.r hs.1 hs.2 i hi⟩
theorem g1_congr (of of' : Int → Int × Bool) (l : List Int) (h : ∀ x ∈ l, of x = of' x) : g1 of l = g1 of' l := by
 unfold g1
 generalize ((0, 0, false) : Int × Int × Bool) = a
 induction l generalizing a with
 | nil => rfl
 | cons x t ih =>
  simp only [List.foldl_cons]
  have : g1s of a x = g1s of' a x := by unfold g1s; rw [h x (by simp)]
  rw [this]
  exact ih (fun y hy => h y (by simp [hy])) _
theorem g1_mem (of : Int → Int × Bool) (l : List Int) (h : (g1 of l).2.2 = true) : (g1 of l).1 ∈ l ∧ of (g1 of l).1 = ((g1 of l).2.1, true) := by
 have key : ∀ (l : List Int) (a : Int × Int × Bool), (l.foldl (g1s of) a).2.2 = true → (l.foldl (g1s of) a = a) ∨ ((l.foldl (g1s of) a).1 ∈ l ∧ of (l.foldl (g1s of) a).1 = ((l.foldl (g1s of) a).2.1, true)) := by
  intro l
  induction l with
  | nil => intro a _; exact .inl rfl
  | cons x t ih =>
   intro a ha
   simp only [List.foldl_cons] at ha ⊢
   rcases ih _ ha with h1 | h1
   ·
    rw [h1]
    unfold g1s
    split
    ·
     rename_i hc
     exact .inr ⟨by simp, Prod.ext rfl hc.1⟩
    ·
     exact .inl rfl
   ·
    exact .inr ⟨by simp [h1.1], h1.2⟩
 rcases key l _ h with h1 | h1
 ·
  unfold g1 at h
  rw [h1] at h
  cases h
 ·
  exact h1
theorem sameV_congr (f g : Sp → Way) (slack : Int) (n : Nat) (hfg : ∀ s, OkS s → cntB s.r < n → f s = g s) : ∀ (k : Nat) (s : Sp) (out : List Int), OkS s → cntB s.r ≤ n → sameV l0 l2 D f slack k s out = sameV l0 l2 D g slack k s out := by
 intro k
 induction k with
 | zero => intro s out _ _; rfl
 | succ k ih =>
  intro s out hs hc
  unfold sameV
  split
  ·
   rfl
  ·
   have hgood : ∀ i ∈ loopsOf s.r 5, goodV l0 l2 D f slack s i = goodV l0 l2 D g slack s i := by
    intro i hi
    unfold goodV
    cases hr : (repV l0 l2 D s i).2.2 with
    | false => simp
    | true =>
     have hn := next_ok l0 l2 D s hs i hi hr
     rw [hfg _ hn.1 (by omega)]
   have hfind : (loopsOf s.r 5).find? (goodV l0 l2 D f slack s) = (loopsOf s.r 5).find? (goodV l0 l2 D g slack s) := by
    generalize loopsOf s.r 5 = l at hgood
    induction l with
    | nil => rfl
    | cons x t iht =>
     simp only [List.find?_cons]
     rw [hgood x (by simp), iht (fun i hi => hgood i (by simp [hi]))]
   rw [hfind]
   cases hf : (loopsOf s.r 5).find? (goodV l0 l2 D g slack s) with
   | none => rfl
   | some i =>
    have hi := List.mem_of_find?_eq_some hf
    have hp := List.find?_some hf
    have hr : (repV l0 l2 D s i).2.2 = true := by
     unfold goodV at hp
     simp only [Bool.and_eq_true] at hp
     exact hp.1.1.1
    have hn := next_ok l0 l2 D s hs i hi hr
    exact ih _ _ hn.1 (by omega)
theorem ofV_yes (f : Sp → Way) (s : Sp) (i n : Int) (h : ofV l0 l2 D f s i = (n, true)) : (repV l0 l2 D s i).2.2 = true ∧ min (repV l0 l2 D s i).2.1 (f (repV l0 l2 D s i).1).2.1 = n ∧ (f (repV l0 l2 D s i).1).2.2 = true := by
 unfold ofV at h
 split at h
 ·
  rename_i hr
  injection h with h1 h2
  exact ⟨hr, h1, h2⟩
 ·
  injection h with h1 h2
  cases h2
theorem stepV_congr (f g : Sp → Way) (s : Sp) (hs : OkS s) (hfg : ∀ s', OkS s' → cntB s'.r < cntB s.r → f s' = g s') : stepV l0 l1 l2 D f s = stepV l0 l1 l2 D g s := by
 unfold stepV
 split
 ·
  rfl
 ·
  have hof : g1 (ofV l0 l2 D f s) (loopsOf s.r 5) = g1 (ofV l0 l2 D g s) (loopsOf s.r 5) := by
   apply g1_congr
   intro i hi
   unfold ofV
   split
   ·
    rename_i hr
    have hn := next_ok l0 l2 D s hs i hi hr
    rw [hfg _ hn.1 (by omega)]
   ·
    rfl
  rw [hof]
  by_cases hfound : (g1 (ofV l0 l2 D g s) (loopsOf s.r 5)).2.2 = true
  ·
   rw [if_pos hfound, if_pos hfound]
   have hm := g1_mem _ _ hfound
   have hr := (ofV_yes l0 l2 D g s _ _ hm.2).1
   have hn := next_ok l0 l2 D s hs _ hm.1 hr
   rw [sameV_congr l0 l2 D f g _ (cntB s.r) hfg 5 _ _ hn.1 (by omega)]
  ·
   rw [if_neg hfound, if_neg hfound]
theorem searchV_stable : ∀ (n : Nat) (s : Sp), OkS s → cntB s.r ≤ n → ∀ k k', n ≤ k → n ≤ k' → searchV l0 l1 l2 D k s = searchV l0 l1 l2 D k' s := by
 intro n
 induction n with
 | zero =>
  intro s hs hc k k' _ _
  have hz : s.r = 0 := (cnt_zero s.r hs.1 hs.2).1 (by omega)
  have : ∀ k, searchV l0 l1 l2 D k s = ([], (l1.length : Int), true) := by
   intro k
   cases k with
   | zero => rfl
   | succ k => unfold searchV stepV; rw [if_pos hz]
  rw [this, this]
 | succ n ih =>
  intro s hs hc k k' hk hk'
  obtain ⟨a, rfl⟩ : ∃ a, k = a + 1 := ⟨k - 1, by omega⟩
  obtain ⟨b, rfl⟩ : ∃ b, k' = b + 1 := ⟨k' - 1, by omega⟩
  show stepV l0 l1 l2 D (searchV l0 l1 l2 D a) s = stepV l0 l1 l2 D (searchV l0 l1 l2 D b) s
  exact stepV_congr l0 l1 l2 D _ _ s hs (fun s' hs' hc' => ih s' hs' (by omega) a b (by omega) (by omega))
def bestV (s : Sp) : Way := searchV l0 l1 l2 D 5 s
theorem bestV_eq (s : Sp) (hs : OkS s) : bestV l0 l1 l2 D s = stepV l0 l1 l2 D (bestV l0 l1 l2 D) s := by
 have : bestV l0 l1 l2 D s = searchV l0 l1 l2 D 6 s := searchV_stable l0 l1 l2 D 5 s hs (cnt_le _) 5 6 (by omega) (by omega)
 rw [this]
 rfl
theorem good_some (s : Sp) (hs : OkS s) (h0 : s.r ≠ 0) (slack : Int) (hr : (bestV l0 l1 l2 D s).2.2 = true) (hsl : slack ≤ (bestV l0 l1 l2 D s).2.1) :
  ∃ i, (loopsOf s.r 5).find? (goodV l0 l2 D (bestV l0 l1 l2 D) slack s) = some i := by
 rw [bestV_eq l0 l1 l2 D s hs] at hr hsl
 unfold stepV at hr hsl
 rw [if_neg h0] at hr hsl
 dsimp only at hr hsl
 have hm := g1_mem _ _ hr
 have h2 := ofV_yes l0 l2 D _ s _ _ hm.2
 have hg : ((loopsOf s.r 5).find? (goodV l0 l2 D (bestV l0 l1 l2 D) slack s)).isSome = true := by
  rw [List.find?_isSome]
  refine ⟨_, hm.1, ?_⟩
  unfold goodV
  simp only [Bool.and_eq_true, decide_eq_true_eq]
  refine ⟨⟨⟨h2.1, ?_⟩, h2.2.2⟩, ?_⟩ <;> omega
 exact Option.isSome_iff_exists.1 hg
end
end Go.Proofs.Ytipphcjgdebecaa.PA
namespace Go.Proofs.Ytipphcjgdebecaa.PA
open Go.RowKit Go.Proofs.YtipphcjgdebecaaW.PrintWords Go.Proofs.YtipphcjgdebecaaW.PrintLast Go.Proofs.YtipphcjgdebecaaW.PrintMore
attribute [local go_sem] max2_int min2_int max_two min_two max_three min_three max_four min_four
theorem eqA123 (d : Nat) (w : World) (a b : Sp) : (Op.equalIn (d + 2) 123 (spV a) (spV b)).run Try.prog w = .ok (a.p == b.p && (a.h == b.h && (a.r == b.r))) w := by
 refine eqA_of Try.underlying123 (by kernel_rfl) ?_
 refine eqf_cons (by rfl) (by go_simp; rfl) (by go_simp; rfl) (by go_simp) ?_
 refine eqf_cons (by rfl) (by go_simp; rfl) (by go_simp; rfl) (by go_simp) ?_
 exact eqf_last (by rfl) (by go_simp; rfl) (by go_simp; rfl) (by go_simp)
theorem eq123 (w : World) (a b : Sp) : (Op.equal 123 (spV a) (spV b)).run Try.prog w = .ok (decide (a = b)) w := by
 have h := eqA123 9998 w a b
 have e : (a.p == b.p && (a.h == b.h && (a.r == b.r))) = decide (a = b) := by
  rw [Bool.eq_iff_iff]
  simp only [Bool.and_eq_true, beq_iff_eq, decide_eq_true_eq]
  constructor
  ·
   rintro ⟨h1, h2, h3⟩
   cases a; cases b; simp_all
  ·
   rintro rfl
   exact ⟨rfl, rfl, rfl⟩
 rw [e] at h
 exact h
structure KeyKind (κ : Type) [DecidableEq κ] where
 t : TypeId
 enc : κ → Value
 inj : ∀ a b, enc a = enc b → a = b
 check : ∀ (w : World) (em : Bool) (a : κ), (Instr.checkKey em 10000 t (enc a)).run Try.prog w = .ok () w
 find : ∀ (w : World) (a : κ) (es : List MapEntry) (ks : List κ), es.map (·.key) = ks.map enc → (Instr.findKey t (enc a) es).run Try.prog w = .ok ((ks.findIdx? (· == a)).bind fun i => (es[i]?).map fun e => (i, e.val)) w
 stays : ∀ (w : World) (a : κ), (Instr.keyThatStays (enc a) (enc a)).run Try.prog w = .ok (enc a) w
theorem findAsking_run {κ : Type} [DecidableEq κ] (t : TypeId) (enc : κ → Value) (hEq : ∀ (w : World) (a b : κ), (Op.equal t (enc a) (enc b)).run Try.prog w = .ok (decide (a = b)) w) (w : World) (a : κ) :
  ∀ (es : List MapEntry) (ks : List κ) (j : Nat), es.map (·.key) = ks.map enc → (Instr.findAsking t (enc a) es j).run Try.prog w = .ok ((ks.findIdx? (· == a)).bind fun i => (es[i]?).map fun e => (i + j, e.val)) w := by
 intro es
 induction es with
 | nil =>
  intro ks j h
  cases ks with
  | nil => rfl
  | cons k t => cases h
 | cons e es ih =>
  intro ks j h
  cases ks with
  | nil => cases h
  | cons k ks =>
   simp only [List.map_cons, List.cons.injEq] at h
   unfold Instr.findAsking
   have hrun := hEq w a k
   rw [← h.1] at hrun
   simp only [Sem.run_bind, hrun, Result.andThen_ok]
   by_cases hk : a = k
   ·
    subst hk
    simp [List.findIdx?_cons]
   ·
    have hk' : (k == a) = false := by simp [Ne.symm hk]
    simp only [hk, decide_false, Bool.false_eq_true, if_false, ih ks (j + 1) h.2, List.findIdx?_cons, hk', cond_false]
    cases List.findIdx? (· == a) ks with
    | none => rfl
    | some i => simp [Nat.add_assoc, Nat.add_comm 1 j]
theorem check123 (w : World) (em : Bool) (p h r : Int) : (Instr.checkKey em 10000 123 (.agg #[.int .i64 p, .int .i64 h, .int .i64 r])).run Try.prog w = .ok () w := by kernel_rfl
def spotKey : KeyKind Sp where
 t := 123
 enc := spV
 inj a b h := by
  cases a; cases b
  simp only [spV, Value.agg.injEq, Array.mk.injEq, List.cons.injEq, Value.int.injEq, true_and, and_true] at h
  simp [h]
 check w em a := by
  obtain ⟨p, h, r⟩ := a
  exact check123 w em p h r
 find w a es ks h := by
  unfold Instr.findKey
  have hu := Try.underlying123
  have hF := findAsking_run 123 spV eq123 w a es ks 0 h
  cases es with
  | nil =>
   cases ks with
   | nil => simp [go_sem, hu, Instr.findNow]
   | cons k t => cases h
  | cons e es =>
   have : Instr.findNow (.struct #[{ name := "place", type := 3, offset := 0, embedded := false, tag := "", pkgPath := "talik/pipe", byteOffset := 0 }, { name := "hours", type := 3, offset := 1, embedded := false, tag := "", pkgPath := "talik/pipe", byteOffset := 8 }, { name := "rest", type := 3, offset := 2, embedded := false, tag := "", pkgPath := "talik/pipe", byteOffset := 16 }]) (spV a) (e :: es) 0 = none := rfl
   simp only [Sem.run_bind, run_underlying hu, Result.andThen_ok, this]
   exact hF
 stays w a := by
  have : Instr.sameBits 10000 (spV a) (spV a) = true := by simp [Instr.sameBits, spV]
  simp [Instr.keyThatStays, this]
def intKey : KeyKind Int where
 t := 3
 enc := .int .i64
 inj a b h := by injection h
 check w em a := by
  have h3 := Try.underlying3
  unfold Instr.checkKey
  simp [go_sem, h3]
 find w a es ks h := by
  unfold Instr.findKey
  have hu := Try.underlying3
  have key : ∀ (es : List MapEntry) (ks : List Int) (j : Nat), es.map (·.key) = ks.map (Value.int .i64) → Instr.findNow (.int .i64) (.int .i64 a) es j = some ((ks.findIdx? (· == a)).bind fun i => (es[i]?).map fun e => (i + j, e.val)) := by
   intro es
   induction es with
   | nil =>
    intro ks j h
    cases ks with
    | nil => rfl
    | cons k t => cases h
   | cons e es ih =>
    intro ks j h
    cases ks with
    | nil => cases h
    | cons k ks =>
     simp only [List.map_cons, List.cons.injEq] at h
     unfold Instr.findNow
     rw [h.1]
     by_cases hk : a = k
     ·
      subst hk
      simp [Instr.sameNow, List.findIdx?_cons]
     ·
      have hk' : (k == a) = false := by simp [Ne.symm hk]
      have hk2 : (a == k) = false := by simp [hk]
      simp only [Instr.sameNow, if_true, hk2, ih ks (j + 1) h.2, List.findIdx?_cons, hk', cond_false, Bool.false_eq_true, if_false]
      cases List.findIdx? (· == a) ks with
      | none => rfl
      | some i => simp [Nat.add_assoc, Nat.add_comm 1 j]
  simp only [Sem.run_bind, run_underlying hu, Result.andThen_ok, key es ks 0 h]
  rfl
 stays w a := by
  have : Instr.sameBits 10000 (.int .i64 a) (.int .i64 a) = true := by simp [Instr.sameBits]
  simp [Instr.keyThatStays, this]
def MapIs {κ : Type} [DecidableEq κ] (K : KeyKind κ) (W : World) (b : Nat) (I : κ → Value → Prop) (has : κ → Prop) : Prop :=
 ∃ (es : Array MapEntry) (clock : Nat) (ks : List κ), W.heap[b]? = some (.map es clock) ∧ es.toList.map (·.key) = ks.map K.enc ∧ ks.Nodup ∧ (∀ (i : Nat) (k : κ) (e : MapEntry), ks[i]? = some k → es.toList[i]? = some e → I k e.val) ∧ (∀ k, has k → k ∈ ks)
section
variable {κ : Type} [DecidableEq κ] {K : KeyKind κ} {W W' : World} {b : Nat} {I I' : κ → Value → Prop} {has has' : κ → Prop}
theorem MapIs.imp (h : MapIs K W b I has) (hI : ∀ k v, I k v → I' k v) (hh : ∀ k, has' k → has k) : MapIs K W b I' has' := by
 obtain ⟨es, clock, ks, h1, h2, h3, h4, h5⟩ := h
 exact ⟨es, clock, ks, h1, h2, h3, fun i k e a c => hI _ _ (h4 i k e a c), fun k hk => h5 k (hh k hk)⟩
theorem MapIs.at (h : MapIs K W b I has) (hb : W'.heap[b]? = W.heap[b]?) : MapIs K W' b I has := by
 obtain ⟨es, clock, ks, h1, h2⟩ := h
 exact ⟨es, clock, ks, hb.trans h1, h2⟩
theorem MapIs.lt (h : MapIs K W b I has) : b < W.heap.size := by
 obtain ⟨es, clock, ks, h1, h2⟩ := h
 exact blk_lt h1
theorem MapIs.noCells (h : MapIs K W b I has) {cs : Array Value} {t : TypeId} {g : Nat} (hg : W.heap[g]? = some (.cells cs t (0, 0))) : g ≠ b := by
 obtain ⟨es, clock, ks, h1, h2⟩ := h
 rintro rfl
 rw [hg] at h1
 cases h1
set_option maxRecDepth 100000 in
theorem MapIs.look (h : MapIs K W b I has) {t el : TypeId} (ht : Try.prog.underlying t = some (.map K.t el)) {z : Value} (hz : (zeroValue el).run Try.prog W = .ok z W) (a : κ) :
  (∃ v, I a v ∧ (Instr.lookup t (.map (some b)) (K.enc a) true).run Try.prog W = .ok (.tuple #[v, .bool true]) W ∧ (Instr.lookup t (.map (some b)) (K.enc a) false).run Try.prog W = .ok v W) ∨
  (¬ has a ∧ (Instr.lookup t (.map (some b)) (K.enc a) true).run Try.prog W = .ok (.tuple #[z, .bool false]) W ∧ (Instr.lookup t (.map (some b)) (K.enc a) false).run Try.prog W = .ok z W) := by
 obtain ⟨es, clock, ks, h1, h2, h3, h4, h5⟩ := h
 have hf := K.find W a es.toList ks h2
 have hlen : es.size = ks.length := by have := congrArg List.length h2; simpa using this
 have hg := MapKept.run_getObj_map (P := Try.prog) h1
 cases hx : ks.findIdx? (· == a) with
 | none =>
  rw [hx, Option.bind_none] at hf
  right
  refine ⟨fun hh => ?_, ?_, ?_⟩
  ·
   rw [List.findIdx?_eq_none_iff] at hx
   have := hx a (h5 a hh)
   simp at this
  ·
   simp [Instr.lookup, run_underlying ht, hg, K.check, hf, hz]
  ·
   simp [Instr.lookup, run_underlying ht, hg, K.check, hf, hz]
 | some i =>
  rw [List.findIdx?_eq_some_iff_getElem] at hx
  obtain ⟨hi, hk, _⟩ := hx
  have hk' : ks[i] = a := by simpa using hk
  have hi' : i < es.toList.length := by simpa [hlen] using hi
  left
  refine ⟨es.toList[i].val, ?_, ?_, ?_⟩
  ·
   exact h4 i a _ (by rw [List.getElem?_eq_getElem hi, hk']) (List.getElem?_eq_getElem hi')
  ·
   have hx2 : ks.findIdx? (· == a) = some i := by
    rw [List.findIdx?_eq_some_iff_getElem]
    refine ⟨hi, hk, fun j hj => ?_⟩
    have := (List.nodup_iff_pairwise_ne.1 h3)
    rw [List.pairwise_iff_getElem] at this
    have hne := this j i (by omega) hi hj
    rw [hk'] at hne
    simpa using hne
   rw [hx2, Option.bind_some, List.getElem?_eq_getElem hi', Option.map_some] at hf
   simp [Instr.lookup, run_underlying ht, hg, K.check, hf]
  ·
   have hx2 : ks.findIdx? (· == a) = some i := by
    rw [List.findIdx?_eq_some_iff_getElem]
    refine ⟨hi, hk, fun j hj => ?_⟩
    have := (List.nodup_iff_pairwise_ne.1 h3)
    rw [List.pairwise_iff_getElem] at this
    have hne := this j i (by omega) hi hj
    rw [hk'] at hne
    simpa using hne
   rw [hx2, Option.bind_some, List.getElem?_eq_getElem hi', Option.map_some] at hf
   simp [Instr.lookup, run_underlying ht, hg, K.check, hf]
set_option maxRecDepth 100000 in
theorem MapIs.looks (h : MapIs K W b I has) {t el : TypeId} (ht : Try.prog.underlying t = some (.map K.t el)) {z : Value} (hz : ∀ W', (zeroValue el).run Try.prog W' = .ok z W') (a : κ) :
  (∃ v, I a v ∧ ∀ W' : World, W'.heap[b]? = W.heap[b]? → (Instr.lookup t (.map (some b)) (K.enc a) true).run Try.prog W' = .ok (.tuple #[v, .bool true]) W') ∨
  (∀ W' : World, W'.heap[b]? = W.heap[b]? → (Instr.lookup t (.map (some b)) (K.enc a) true).run Try.prog W' = .ok (.tuple #[z, .bool false]) W') := by
 obtain ⟨es, clock, ks, h1, h2, h3, h4, h5⟩ := h
 have hf := fun W' => K.find W' a es.toList ks h2
 have hlen : es.size = ks.length := by have := congrArg List.length h2; simpa using this
 have hg := fun (W' : World) (e : W'.heap[b]? = W.heap[b]?) => MapKept.run_getObj_map (P := Try.prog) (e.trans h1)
 cases hx : ks.findIdx? (· == a) with
 | none =>
  rw [hx] at hf
  right
  intro W' e
  have hf' := hf W'
  rw [Option.bind_none] at hf'
  simp [Instr.lookup, run_underlying ht, hg W' e, K.check, hf', hz]
 | some i =>
  have hx2 := hx
  rw [List.findIdx?_eq_some_iff_getElem] at hx
  obtain ⟨hi, hk, _⟩ := hx
  have hk' : ks[i] = a := by simpa using hk
  have hi' : i < es.toList.length := by simpa [hlen] using hi
  left
  refine ⟨es.toList[i].val, h4 i a _ (by rw [List.getElem?_eq_getElem hi, hk']) (List.getElem?_eq_getElem hi'), fun W' e => ?_⟩
  have hf' := hf W'
  rw [hx2, Option.bind_some, List.getElem?_eq_getElem hi', Option.map_some] at hf'
  simp [Instr.lookup, run_underlying ht, hg W' e, K.check, hf']
set_option maxRecDepth 100000 in
theorem MapIs.update (h : MapIs K W b I has) {t el : TypeId} (ht : Try.prog.underlying t = some (.map K.t el)) (a : κ) (v : Value) :
  ∃ W', (Instr.mapUpdate t (.map (some b)) (K.enc a) v).run Try.prog W = .ok () W' ∧ W.grownBy W' (some b) ∧ MapIs K W' b (fun k u => (k = a ∧ u = v) ∨ (k ≠ a ∧ I k u)) (fun k => k = a ∨ has k) := by
 obtain ⟨es, clock, ks, h1, h2, h3, h4, h5⟩ := h
 have hf := K.find W a es.toList ks h2
 have hlen : es.size = ks.length := by have := congrArg List.length h2; simpa using this
 have hg := MapKept.run_getObj_map (P := Try.prog) h1
 have hgrow : ∀ o, W.grownBy (ChangeMaps.setBlock W b o) (some b) := fun o => ⟨rfl, rfl, rfl, by simp [ChangeMaps.setBlock], fun i _ hi => ChangeMaps.heap_setBlock_other h1 _ (fun e => hi (by rw [e]))⟩
 cases hx : ks.findIdx? (· == a) with
 | none =>
  rw [hx, Option.bind_none] at hf
  have hna : a ∉ ks := by
   intro ha
   rw [List.findIdx?_eq_none_iff] at hx
   have := hx a ha
   simp at this
  refine ⟨ChangeMaps.setBlock W b (.map (es.push { key := K.enc a, val := v, born := clock }) (clock + 1)), ?_, hgrow _, es.push { key := K.enc a, val := v, born := clock }, clock + 1, ks ++ [a], ChangeMaps.heap_setBlock_same h1 _, by simp [h2], ?_, ?_, ?_⟩
  ·
   simp [Instr.mapUpdate, run_underlying ht, hg, K.check, hf, MapKept.run_setObj_map _ h1, ChangeMaps.setBlock]
  ·
   rw [List.nodup_append]
   exact ⟨h3, by simp, fun x hxm y hy => by simp at hy; subst hy; intro e; exact hna (e ▸ hxm)⟩
  ·
   intro i k e hk he
   rcases Nat.lt_or_ge i ks.length with hi | hi
   ·
    rw [List.getElem?_append_left hi] at hk
    rw [Array.toList_push, List.getElem?_append_left (by simpa [hlen] using hi)] at he
    exact .inr ⟨fun e => hna (e ▸ List.mem_of_getElem? hk), h4 i k e hk he⟩
   ·
    rw [List.getElem?_append_right hi] at hk
    rw [Array.toList_push, List.getElem?_append_right (by simpa [hlen] using hi)] at he
    simp only [Array.length_toList, hlen] at he
    cases hd : i - ks.length with
    | zero =>
     rw [hd] at hk he
     simp at hk he
     exact .inl ⟨hk.symm, by rw [← he]⟩
    | succ n =>
     rw [hd] at hk
     simp at hk
  ·
   rintro k (rfl | hk)
   ·
    simp
   ·
    exact List.mem_append_left _ (h5 k hk)
 | some i =>
  have hx2 := hx
  rw [List.findIdx?_eq_some_iff_getElem] at hx
  obtain ⟨hi, hk, _⟩ := hx
  have hk' : ks[i] = a := by simpa using hk
  have hi' : i < es.toList.length := by simpa [hlen] using hi
  have hi2 : i < es.size := by simpa using hi'
  rw [hx2, Option.bind_some, List.getElem?_eq_getElem hi', Option.map_some] at hf
  have hkey : (es[i]?.map (·.key)).getD (K.enc a) = K.enc a := by
   have e1 : (es.toList.map (·.key))[i]? = (ks.map K.enc)[i]? := by rw [h2]
   rw [List.getElem?_map, List.getElem?_map, List.getElem?_eq_getElem hi, hk'] at e1
   rw [← Array.getElem?_toList, e1]
   rfl
  refine ⟨ChangeMaps.setBlock W b (.map (es.modify i fun e => { e with key := K.enc a, val := v }) clock), ?_, hgrow _, es.modify i fun e => { e with key := K.enc a, val := v }, clock, ks, ChangeMaps.heap_setBlock_same h1 _, ?_, h3, ?_, ?_⟩
  ·
   simp [Instr.mapUpdate, run_underlying ht, hg, K.check, hf, MapKept.run_setObj_map _ h1, ChangeMaps.setBlock, hkey, K.stays]
  ·
   rw [Array.toList_modify, ← h2]
   apply List.ext_getElem?
   intro j
   rw [List.getElem?_map, List.getElem?_map, List.getElem?_modify]
   split
   ·
    rename_i hj
    subst hj
    rw [List.getElem?_eq_getElem hi']
    have e1 : (es.toList.map (·.key))[i]? = (ks.map K.enc)[i]? := by rw [h2]
    rw [List.getElem?_map, List.getElem?_map, List.getElem?_eq_getElem hi, hk', List.getElem?_eq_getElem hi'] at e1
    simp only [Option.map_some, Option.some.injEq] at e1
    simpa using e1.symm
   ·
    simp
  ·
   intro j k e hkj he
   rw [Array.toList_modify, List.getElem?_modify] at he
   split at he
   ·
    rename_i hj
    subst hj
    rw [List.getElem?_eq_getElem hi] at hkj
    rw [List.getElem?_eq_getElem hi'] at he
    simp only [Option.map_eq_map, Option.map_some, Option.some.injEq] at he hkj
    exact .inl ⟨by rw [← hkj, hk'], by rw [← he]⟩
   ·
    rename_i hj
    have he2 : es.toList[j]? = some e := by simpa using he
    refine .inr ⟨fun e1 => hj ?_, h4 j k e hkj he2⟩
    subst e1
    have hjl : j < ks.length := (List.getElem?_eq_some_iff.1 hkj).1
    have e2 : ks[j] = ks[i] := by rw [hk']; rw [List.getElem?_eq_getElem hjl] at hkj; injection hkj
    have hp := List.nodup_iff_pairwise_ne.1 h3
    rw [List.pairwise_iff_getElem] at hp
    rcases Nat.lt_trichotomy i j with h | h | h
    ·
     exact absurd e2.symm (hp i j hi hjl h)
    ·
     exact h
    ·
     exact absurd e2 (hp j i hjl hi h)
  ·
   rintro k (rfl | hk)
   ·
    rw [← hk']; exact List.getElem_mem _
   ·
    exact h5 k hk
end
end Go.Proofs.Ytipphcjgdebecaa.PA
namespace Go.Proofs.Ytipphcjgdebecaa.PA
open Go.RowKit Go.Proofs.YtipphcjgdebecaaW.PrintWords Go.Proofs.YtipphcjgdebecaaW.PrintLast Go.Proofs.YtipphcjgdebecaaW.PrintMore
attribute [local go_sem] max2_int min2_int max_two min_two max_three min_three max_four min_four
structure OE where
 w0 : World
 A0 : Option Addr
 c0 : Nat
 l0 : List S39
 A1 : Option Addr
 c1 : Nat
 l1 : List S37
 A2 : Option Addr
 c2 : Nat
 l2 : List (List Int)
 wp : Int
 Bn : Nat
 Bk : Nat
 Bd : Nat
 Bs : Nat
 m : Nat
 Ad : Option Addr
 cd : Nat
 D : List Int
def OE.S (E : OE) (s : Sp) : Way := bestV E.l0 E.l1 E.l2 E.D s
structure OE.Fit (E : OE) : Prop where
 r0 : Kd.C k39 E.w0 E.A0 E.l0.length E.l0
 r1 : Kd.C k37 E.w0 E.A1 E.l1.length E.l1
 r2 : Kd.C (Kd.slice 3 (Kd.int .i64)) E.w0 E.A2 E.l2.length E.l2
 h5 : E.l0.length ≤ 5
 hD : E.D.length = E.l0.length
 h2 : E.l2.length = E.l0.length + 1
 hrow : ∀ p : Int, 0 ≤ p → p ≤ E.l0.length → (rd_L1 E.l2 p).length = E.l0.length + 1
 bn : E.w0.heap.size ≤ E.Bn
 bk : E.w0.heap.size ≤ E.Bk
 bd : E.w0.heap.size ≤ E.Bd
 bs : E.w0.heap.size ≤ E.Bs
 bm : E.w0.heap.size ≤ E.m
abbrev NETC (E : OE) : Array Value := #[.slice E.A0 E.l0.length E.c0, .slice E.A1 E.l1.length E.c1, .slice E.A2 E.l2.length E.c2, .int .i64 E.wp]
abbrev SEARCHF (E : OE) : Value := .func (.func 90) #[] #[.pointer (some ⟨E.Bn, 0, none⟩), .pointer (some ⟨E.Bk, 0, none⟩), .pointer (some ⟨E.Bd, 0, none⟩), .pointer (some ⟨E.Bs, 0, none⟩)]
abbrev OE.Row (E : OE) (A : Nat → Prop) (W : World) (v : Value) (l : List Int) : Prop := Kd.R (Kd.int .i64) 3 W E.w0.heap.size (fun k => k ≠ E.m ∧ ¬ A k) v l
structure EnvInv (E : OE) (A : Nat → Prop) (W : World) : Prop where
 an : ¬ A E.Bn
 ak : ¬ A E.Bk
 ad : ¬ A E.Bd
 as_ : ¬ A E.Bs
 am : ¬ A E.m
 lo : ∀ k, A k → E.w0.heap.size ≤ k
 xn : W.heap[E.Bn]? = some (.cells (NETC E) 99 (0, 0))
 xk : W.heap[E.Bk]? = some (.cells #[.map (some E.m)] 120 (0, 0))
 xd : W.heap[E.Bd]? = some (.cells #[.slice E.Ad E.D.length E.cd] 47 (0, 0))
 xs : W.heap[E.Bs]? = some (.cells #[SEARCHF E] 121 (0, 0))
 hb : Below E.w0.heap.size E.w0 W
 due : E.Row A W (.slice E.Ad E.D.length E.cd) E.D
 map : MapIs spotKey W E.m (fun s u => OkS s ∧ ∃ v, u = .agg #[v, .int .i64 (E.S s).2.1, .bool (E.S s).2.2] ∧ E.Row A W v (E.S s).1) (fun _ => False)
section
variable {E : OE} {A A' : Nat → Prop} {W W' : World}
theorem EnvInv.imp (h : EnvInv E A W) (hA : ∀ k, A' k → E.w0.heap.size ≤ k ∧ (A k ∨ W.heap.size ≤ k)) : EnvInv E A' W := by
 have hn : ∀ {g o}, W.heap[g]? = some o → ¬ A g → ¬ A' g := fun hg hn hk => by
  rcases (hA _ hk).2 with h1 | h1
  ·
   exact hn h1
  ·
   have := blk_lt hg
   omega
 have hR : ∀ v l, E.Row A W v l → E.Row A' W v l := fun v l hr => Kd.R_mono (Kd.R_bound hr) (fun k hk => ⟨hk.1.1, fun ha => by
  rcases (hA _ ha).2 with h1 | h1
  ·
   exact hk.1.2 h1
  ·
   have := hk.2.2.1
   omega⟩)
 refine ⟨hn h.xn h.an, hn h.xk h.ak, hn h.xd h.ad, hn h.xs h.as_, ?_, fun k hk => (hA k hk).1, h.xn, h.xk, h.xd, h.xs, h.hb, hR _ _ h.due, h.map.imp (fun s u hu => ⟨hu.1, hu.2.imp fun v hv => ⟨hv.1, hR _ _ hv.2⟩⟩) (fun _ hk => hk)⟩
 intro hk
 rcases (hA _ hk).2 with h1 | h1
 ·
  exact h.am h1
 ·
  have := h.map.lt
  omega
theorem EnvInv.step (h : EnvInv E A W) (hk : KB A W W') : EnvInv E A W' := by
 have hR : ∀ v l, E.Row A W v l → E.Row A W' v l := fun v l hr => hk.R hr (fun k hk => hk.2)
 exact ⟨h.an, h.ak, h.ad, h.as_, h.am, h.lo, hk.blk h.xn h.an, hk.blk h.xk h.ak, hk.blk h.xd h.ad, hk.blk h.xs h.as_,
  ⟨hk.os.trans h.hb.os, hk.tape.trans h.hb.tape, hk.output.trans h.hb.output, Nat.le_trans h.hb.size hk.size, fun k hlt => (hk.block k (Nat.lt_of_lt_of_le hlt h.hb.size) (fun ha => by have := h.lo k ha; omega)).trans (h.hb.block k hlt)⟩,
  hR _ _ h.due, (h.map.at (hk.block _ h.map.lt h.am)).imp (fun s u hu => ⟨hu.1, hu.2.imp fun v hv => ⟨hv.1, hR _ _ hv.2⟩⟩) (fun _ hk => hk)⟩
theorem EnvInv.own' {row : Option Nat} (h : EnvInv E A W) (hg : W.grownBy W' row) (hr : ∀ r, row = some r → E.w0.heap.size ≤ r ∧ r ≠ E.m ∧ ∃ o : Obj, W.heap[r]? = some o ∧ o.isCells = false) : EnvInv E A W' := by
 have hR : ∀ v l, E.Row A W v l → E.Row A W' v l := fun v l hv => by
  refine Kd.R_mono (Kd.R_step (Kd.R_bound hv) (fun k hk hlt => hg.block k hlt (fun e => ?_))) (fun k hk => hk.1)
  obtain ⟨q, _, cells, hc⟩ := hk.2.2.2
  obtain ⟨_, _, o, ho, hn⟩ := hr k e.symm
  rw [hc] at ho
  injection ho with ho
  subst ho
  cases hn
 have hr' : ∀ r, row = some r → E.w0.heap.size ≤ r ∧ ∃ o : Obj, W.heap[r]? = some o ∧ o.isCells = false := fun r e => ⟨(hr r e).1, (hr r e).2.2⟩
 refine ⟨h.an, h.ak, h.ad, h.as_, h.am, h.lo, blk_own h.xn hg hr', blk_own h.xk hg hr', blk_own h.xd hg hr', blk_own h.xs hg hr',
  ⟨hg.os.trans h.hb.os, hg.tape.trans h.hb.tape, hg.output.trans h.hb.output, Nat.le_trans h.hb.size hg.size, fun k hlt => (hg.block k (Nat.lt_of_lt_of_le hlt h.hb.size) (fun e => by have := (hr k e.symm).1; omega)).trans (h.hb.block k hlt)⟩,
  hR _ _ h.due, (h.map.at (hg.block _ h.map.lt (fun e => (hr _ e.symm).2.1 rfl))).imp (fun s u hu => ⟨hu.1, hu.2.imp fun v hv => ⟨hv.1, hR _ _ hv.2⟩⟩) (fun _ hk => hk)⟩
theorem EnvInv.own {B : Nat} (hB : E.w0.heap.size ≤ B) (hm : E.m < B) {row : Option Nat} (h : EnvInv E A W) (hg : W.grownBy W' row) (hr : ∀ r, row = some r → B ≤ r ∧ ∃ o : Obj, W.heap[r]? = some o ∧ o.isCells = false) : EnvInv E A W' :=
 h.own' hg (fun r e => ⟨by have := (hr r e).1; omega, by have := (hr r e).1; omega, (hr r e).2⟩)
theorem EnvInv.put (h : EnvInv E A W) (hg : W.grownBy W' (some E.m)) {s : Sp} {u v : Value} (hs : OkS s) (hu : u = .agg #[v, .int .i64 (E.S s).2.1, .bool (E.S s).2.2]) (hv : E.Row A W v (E.S s).1) (bm : E.w0.heap.size ≤ E.m)
  (hm : MapIs spotKey W' E.m (fun k x => (k = s ∧ x = u) ∨ (k ≠ s ∧ OkS k ∧ ∃ v, x = .agg #[v, .int .i64 (E.S k).2.1, .bool (E.S k).2.2] ∧ E.Row A W v (E.S k).1)) (fun k => k = s ∨ False)) : EnvInv E A W' := by
 have hR : ∀ v l, E.Row A W v l → E.Row A W' v l := fun v l hr => Kd.R_grown hr hg (fun k hk e => hk.1 (by injection e))
 refine ⟨h.an, h.ak, h.ad, h.as_, h.am, h.lo, blk_grown h.xn hg (fun e => h.map.noCells h.xn (by injection e)), blk_grown h.xk hg (fun e => h.map.noCells h.xk (by injection e)), blk_grown h.xd hg (fun e => h.map.noCells h.xd (by injection e)), blk_grown h.xs hg (fun e => h.map.noCells h.xs (by injection e)),
  ⟨hg.os.trans h.hb.os, hg.tape.trans h.hb.tape, hg.output.trans h.hb.output, Nat.le_trans h.hb.size hg.size, fun k hlt => (hg.block k (Nat.lt_of_lt_of_le hlt h.hb.size) (fun e => by injection e with e; omega)).trans (h.hb.block k hlt)⟩,
  hR _ _ h.due, hm.imp (fun k x hx => ?_) (fun _ hk => hk.elim)⟩
 rcases hx with ⟨rfl, rfl⟩ | ⟨_, hk, w, hw, hr⟩
 ·
  exact ⟨hs, v, hu, hR _ _ hv⟩
 ·
  exact ⟨hk, w, hw, hR _ _ hr⟩
end
def OE.At (E : OE) (s : Sp) : Prop := OkS s ∧ 0 ≤ s.p ∧ s.p ≤ E.l0.length ∧ ∀ i ∈ loopsOf s.r 5, i < E.l0.length
theorem OE.At.next {E : OE} {s : Sp} (h : E.At s) {i : Int} (hi : i ∈ loopsOf s.r 5) (hr : (repV E.l0 E.l2 E.D s i).2.2 = true) : E.At (repV E.l0 E.l2 E.D s i).1 ∧ cntB (repV E.l0 E.l2 E.D s i).1.r + 1 = cntB s.r := by
 have h1 := next_ok E.l0 E.l2 E.D s h.1 i hi hr
 refine ⟨⟨h1.1, ?_⟩, h1.2⟩
 rw [rep_next E.l0 E.l2 E.D s i hr]
 obtain ⟨k, rfl, hk, _⟩ := (mem_loopsOf s.r 5 i).1 hi
 have h2 := h.2.2.2 _ hi
 refine ⟨by show (0 : Int) ≤ k + 1; omega, by show (k : Int) + 1 ≤ _; omega, ?_⟩
 intro j hj
 have h3 := (rest_of s.r h.1.1 h.1.2 k hi).2.2
 have hj' : j ∈ loopsOf s.r 5 := by
  have : j ∈ loopsOf (bits .andNot .i64 s.r (wrap64 (2 ^ (k : Int).toNat))) 5 := hj
  rw [h3] at this
  exact (List.mem_filter.1 this).1
 exact h.2.2.2 j hj'
def SearchC (E : OE) (s : Sp) : Prop := ∀ A W, EnvInv E A W → (∀ k, A k → k < W.heap.size) →
 Calls Try.prog 90 #[spV s, .pointer (some ⟨E.Bn, 0, none⟩), .pointer (some ⟨E.Bk, 0, none⟩), .pointer (some ⟨E.Bd, 0, none⟩), .pointer (some ⟨E.Bs, 0, none⟩)] W fun e W' =>
  ∃ v, e = .returned (.agg #[v, .int .i64 (E.S s).2.1, .bool (E.S s).2.2]) ∧ E.Row A W' v (E.S s).1 ∧ EnvInv E A W' ∧ KB (fun k => k = E.m) W W'
theorem loops_calls (f : Int) (w : World) : Calls Try.prog 76 #[.int .i64 f] w fun e w' => ∃ B, e = .returned (.func (.func 97) #[] #[.pointer (some ⟨B, 0, none⟩)]) ∧ w'.heap[B]? = some (.cells #[.int .i64 f] 3 (0, 0)) ∧ w.heap.size ≤ B ∧ Below w.heap.size w w' := by
 have hmf : ∀ (fn : Fn) (first cap : Array Value) (w : World), (Instr.makeFunc fn first cap).run Try.prog w = .ok (.func fn first cap) w := fun _ _ _ _ => rfl
 have HB := qab.mk (Below.refl w.heap.size w)
 go_enter Try.func76, Try.ntmps76
 go_wp2_with ((with_reducible refine qar (N := 1) rfl ?_); refine qap ?hg (N := 1) ?hd (cs := #[.int .i64 f]) (t := 3) ?hr ?_; (case hd => rfl); (case hg => rfl); (case hr => first | (go_simp; done) | (go_simp; rfl)); intro gb hg_gb w2 hbox hb; have BKgb := qab.mk hbox; have n_HB := qab.mk (qag HB.out hb); have GEgb : w.heap.size ≤ gb := (by rw [hg_gb]; exact HB.out.size); clear HB; have HB := n_HB; clear n_HB; have hfgb := qac BKgb.out; have hcgb_0 : w2.cell? ⟨gb, 0, none⟩ = some (.int .i64 f) := (qaa BKgb.out 0).trans rfl; clear hbox hb hg_gb)
 go_ret
 exact ⟨gb, rfl, BKgb.out, GEgb, HB.out⟩
end Go.Proofs.Ytipphcjgdebecaa.PA
namespace Go.Proofs.Ytipphcjgdebecaa.PA
open Go.RowKit Go.Proofs.YtipphcjgdebecaaW.PrintWords Go.Proofs.YtipphcjgdebecaaW.PrintLast Go.Proofs.YtipphcjgdebecaaW.PrintMore
attribute [local go_sem] max2_int min2_int max_two min_two max_three min_three max_four min_four
structure Inv91 (E : OE) (s : Sp) (gs gw mw : Nat) (A : Nat → Prop) (W : World) : Prop where
 env : EnvInv E A W
 as_ : ¬ A gs
 aw : ¬ A gw
 am : ¬ A mw
 xs : W.heap[gs]? = some (.cells #[.int .i64 s.p, .int .i64 s.h, .int .i64 s.r] 123 (0, 0))
 xw : W.heap[gw]? = some (.cells #[.map (some mw)] 125 (0, 0))
 map : MapIs intKey W mw (fun _ _ => True) (fun _ => False)
 ne : mw ≠ E.m
 lw : E.w0.heap.size ≤ mw
section
variable {E : OE} {s : Sp} {gs gw mw : Nat} {A A' : Nat → Prop} {W W' : World}
theorem Inv91.imp (h : Inv91 E s gs gw mw A W) (hA : ∀ k, A' k → E.w0.heap.size ≤ k ∧ (A k ∨ W.heap.size ≤ k)) : Inv91 E s gs gw mw A' W := by
 refine ⟨h.env.imp hA, fun hk => ?_, fun hk => ?_, fun hk => ?_, h.xs, h.xw, h.map, h.ne, h.lw⟩
 ·
  rcases (hA _ hk).2 with h1 | h1
  ·
   exact h.as_ h1
  ·
   have := blk_lt h.xs
   omega
 ·
  rcases (hA _ hk).2 with h1 | h1
  ·
   exact h.aw h1
  ·
   have := blk_lt h.xw
   omega
 ·
  rcases (hA _ hk).2 with h1 | h1
  ·
   exact h.am h1
  ·
   have := h.map.lt
   omega
theorem Inv91.step (h : Inv91 E s gs gw mw A W) (hk : KB A W W') : Inv91 E s gs gw mw A W' :=
 ⟨h.env.step hk, h.as_, h.aw, h.am, hk.blk h.xs h.as_, hk.blk h.xw h.aw, h.map.at (hk.block _ h.map.lt h.am), h.ne, h.lw⟩
theorem Inv91.after (h : Inv91 E s gs gw mw A W) (he : EnvInv E A W') (hk : KB (fun k => k = E.m) W W') : Inv91 E s gs gw mw A W' :=
 ⟨he, h.as_, h.aw, h.am, hk.blk h.xs (fun e => h.env.map.noCells h.xs e), hk.blk h.xw (fun e => h.env.map.noCells h.xw e), h.map.at (hk.block _ h.map.lt h.ne), h.ne, h.lw⟩
theorem Inv91.held {B : Nat} (hB : E.w0.heap.size ≤ B) (hm : E.m < B) (hmw : mw < B) : Held B (Inv91 E s gs gw mw) where
 mono A A' W hA h := h.imp (fun k hk => ⟨h.env.lo k (hA k hk), .inl (hA k hk)⟩)
 fresh A W h := h.imp (fun k hk => ⟨hk.elim (h.env.lo k) (fun x => Nat.le_trans h.env.hb.size x), hk⟩)
 step A W W' h hk := h.step hk
 own A W W' row h hg hr := ⟨h.env.own hB hm hg hr, h.as_, h.aw, h.am, blk_own h.xs hg hr, blk_own h.xw hg hr, h.map.at (hg.block _ h.map.lt (fun e => by have := (hr _ e.symm).1; omega)), h.ne, h.lw⟩
end
section
variable {P : Program} {ops : Array Oper} {o : Oper} {a : Act} {Q : Exit → Act → World → Prop} {Kc : Act → World → Prop} {W w1 : World}
theorem step_mapUpdate (hw : Region.wanted o (yielded ops a.tmps) = true) (t : TypeId) (m k v : Operand) (ho : o.op = .mapUpdate t m k v) (M K V : Value) (hm : a.eval m = M) (hk : a.eval k = K) (hv : a.eval v = V)
  (hrun : (Instr.mapUpdate t M K V).run P W = .ok () w1) (h : Kc (a.put o.dst undef) w1) : if Region.wanted o (yielded ops a.tmps) = true then Oper.wp P o a W Kc Q else Kc (a.put o.dst undef) W := by
 rw [if_pos hw]
 unfold Oper.wp
 simp [execOp, ho, hm, hk, hv, hrun, Result.andThen]
 exact h
end
set_option maxRecDepth 100000 in
theorem Inv91.put {E : OE} {s : Sp} {gs gw mw : Nat} {A : Nat → Prop} {W : World} (h : Inv91 E s gs gw mw A W) (x : Int) (u : Value) :
  ∃ W', (Instr.mapUpdate 125 (.map (some mw)) (.int .i64 x) u).run Try.prog W = .ok () W' ∧ Inv91 E s gs gw mw A W' ∧ KB (fun k => k = mw) W W' ∧ MapIs intKey W' mw (fun k v => k = x → v = u) (fun k => k = x) := by
 obtain ⟨W', hrun, hg, hm⟩ := h.map.update Try.underlying125 x u
 have hr : ∀ r, some mw = some r → E.w0.heap.size ≤ r ∧ r ≠ E.m ∧ ∃ o : Obj, W.heap[r]? = some o ∧ o.isCells = false := fun r e => by
  injection e with e
  subst e
  obtain ⟨es, clock, ks, h1, _⟩ := h.map
  exact ⟨h.lw, h.ne, _, h1, rfl⟩
 refine ⟨W', hrun, ⟨h.env.own' hg hr, h.as_, h.aw, h.am, blk_own h.xs hg (fun r e => ⟨(hr r e).1, (hr r e).2.2⟩), blk_own h.xw hg (fun r e => ⟨(hr r e).1, (hr r e).2.2⟩), hm.imp (fun _ _ _ => trivial) (fun _ hk => hk.elim), h.ne, h.lw⟩, (KB.of_grown hg).mono (fun k e => by injection e with e; exact e.symm), hm.imp (fun k v hk e => ?_) (fun k e => .inl e)⟩
 rcases hk with ⟨_, e1⟩ | ⟨e1, _⟩
 ·
  exact e1
 ·
  exact absurd e e1
theorem field97_1 (a b c : Value) (W : World) : (Instr.field 97 (.agg #[a, b, c]) 1).run Try.prog W = .ok b W := by kernel_rfl
theorem field97_2 (a b c : Value) (W : World) : (Instr.field 97 (.agg #[a, b, c]) 2).run Try.prog W = .ok c W := by kernel_rfl
theorem zero97 (W : World) : (zeroValue 97).run Try.prog W = .ok (.agg #[.slice none 0 0, .int .i64 0, .bool false]) W := by kernel_rfl
set_option maxRecDepth 100000 in
set_option maxHeartbeats 4000000 in
theorem of91_calls (E : OE) (hE : E.Fit) (s : Sp) (hs : E.At s) (gs gw mw : Nat) (IH : ∀ s', E.At s' → cntB s'.r < cntB s.r → SearchC E s') (x : Int) (hx : x ∈ loopsOf s.r 5) (A : Nat → Prop) (w : World) (hinv : Inv91 E s gs gw mw A w) (hA : ∀ k, A k → k < w.heap.size) :
  Calls Try.prog 91 #[.int .i64 x, .pointer (some ⟨E.Bn, 0, none⟩), .pointer (some ⟨gs, 0, none⟩), .pointer (some ⟨E.Bd, 0, none⟩), .pointer (some ⟨E.Bs, 0, none⟩), .pointer (some ⟨gw, 0, none⟩)] w fun e w' =>
   e = .returned (.tuple #[.int .i64 (ofV E.l0 E.l2 E.D E.S s x).1, .bool (ofV E.l0 E.l2 E.D E.S s x).2]) ∧ Inv91 E s gs gw mw A w' ∧ KB (fun k => k = E.m ∨ k = mw) w w' := by
 have hu99 := Try.underlying99
 have hu123 := Try.underlying123
 have hu26 := Try.underlying26
 have hx0 := (mem_loopsOf s.r 5 x).1 hx
 have hx5 := hs.2.2.2 x hx
 have hx05 : 0 ≤ x ∧ x < 5 := by
  obtain ⟨xk, hxk, hxk5, _⟩ := hx0
  omega
 clear hx0
 have hrep : Calls Try.prog 92 #[.agg (NETC E), .agg #[.int .i64 s.p, .int .i64 s.h, .int .i64 s.r], .int .i64 x, .slice E.Ad E.D.length E.cd] w fun e w' =>
   e = .returned (.tuple #[spV (repV E.l0 E.l2 E.D s x).1, .int .i64 (repV E.l0 E.l2 E.D s x).2.1, .bool (repV E.l0 E.l2 E.D s x).2.2]) ∧ Below w.heap.size w w' :=
  repaired_calls _ _ _ _ _ _ _ _ s x _ _ E.D w (Kd.qam hE.r0 hinv.env.hb) (Kd.qam hE.r2 hinv.env.hb) (Kd.R_reads' hinv.env.due).2.2 hs.2.1 (by have := hE.h2; have := hs.2.2.1; omega) (by omega) hx5 (by rw [hE.hrow s.p hs.2.1 hs.2.2.1]; omega) (by rw [hE.hD]; omega) (by omega)
 have hof : ofV E.l0 E.l2 E.D E.S s x = if (repV E.l0 E.l2 E.D s x).2.2 = true then (min (repV E.l0 E.l2 E.D s x).2.1 (E.S (repV E.l0 E.l2 E.D s x).1).2.1, (E.S (repV E.l0 E.l2 E.D s x).1).2.2) else (0, false) := rfl
 have HNX : qab ((repV E.l0 E.l2 E.D s x).2.2 = true → E.At (repV E.l0 E.l2 E.D s x).1 ∧ cntB (repV E.l0 E.l2 E.D s x).1.r < cntB s.r) := ⟨fun hr => by have h := hs.next hx hr; exact ⟨h.1, by omega⟩⟩
 rw [hof]
 clear hof
 generalize repV E.l0 E.l2 E.D s x = q at hrep HNX ⊢
 obtain ⟨⟨q0, q1, q2⟩, ow, can⟩ := q
 simp only [spV_eq] at hrep
 dsimp only at HNX ⊢
 have HB := qab.mk (Below.refl w.heap.size w)
 have HI := qab.mk hinv
 have HIH := qab.mk IH
 clear IH hx hs hE hinv
 have BKn := qab.mk HI.out.env.xn
 have BKd := qab.mk HI.out.env.xd
 have BKs := qab.mk HI.out.env.xs
 have BKp := qab.mk HI.out.xs
 have BKw := qab.mk HI.out.xw
 have hfn := qac BKn.out; have hcn_0 : w.cell? ⟨E.Bn, 0, none⟩ = some (.slice E.A0 E.l0.length E.c0) := (qaa BKn.out 0).trans rfl; have hcn_1 : w.cell? ⟨E.Bn, 1, none⟩ = some (.slice E.A1 E.l1.length E.c1) := (qaa BKn.out 1).trans rfl; have hcn_2 : w.cell? ⟨E.Bn, 2, none⟩ = some (.slice E.A2 E.l2.length E.c2) := (qaa BKn.out 2).trans rfl; have hcn_3 : w.cell? ⟨E.Bn, 3, none⟩ = some (.int .i64 E.wp) := (qaa BKn.out 3).trans rfl
 have hfp := qac BKp.out; have hcp_0 : w.cell? ⟨gs, 0, none⟩ = some (.int .i64 s.p) := (qaa BKp.out 0).trans rfl; have hcp_1 : w.cell? ⟨gs, 1, none⟩ = some (.int .i64 s.h) := (qaa BKp.out 1).trans rfl; have hcp_2 : w.cell? ⟨gs, 2, none⟩ = some (.int .i64 s.r) := (qaa BKp.out 2).trans rfl
 have hfd := qac BKd.out; have hcd_0 : w.cell? ⟨E.Bd, 0, none⟩ = some (.slice E.Ad E.D.length E.cd) := (qaa BKd.out 0).trans rfl
 cases can with
 | false =>
  simp only [Bool.false_eq_true, if_false]
  go_enter Try.func91, Try.ntmps91
  go_wp2_with (first | (go_at_call 92; refine hrep.mono ?_; clear hrep; rintro e w2 ⟨rfl, hb⟩; have n_HB := qab.mk (qag HB.out hb); clear HB; have HB := n_HB; clear n_HB; clear hb) | ((with_reducible refine qar (N := 9) rfl ?_); refine qap ?hg (N := 9) ?hd (cs := #[.int .i64 0, .int .i64 0, .int .i64 0]) (t := 123) ?hr ?_; (case hd => rfl); (case hg => rfl); (case hr => first | (go_simp; done) | (go_simp; rfl)); intro gx hg_gx w3 hbox hb; have BKgx := qab.mk hbox; have n_HB := qab.mk (qag HB.out hb); have GEgx : w.heap.size ≤ gx := (by rw [hg_gx]; exact HB.out.size); clear HB; have HB := n_HB; clear n_HB; have hfgx := qac BKgx.out; have hcgx_0 : w3.cell? ⟨gx, 0, none⟩ = some (.int .i64 0) := (qaa BKgx.out 0).trans rfl; have hcgx_1 : w3.cell? ⟨gx, 1, none⟩ = some (.int .i64 0) := (qaa BKgx.out 1).trans rfl; have hcgx_2 : w3.cell? ⟨gx, 2, none⟩ = some (.int .i64 0) := (qaa BKgx.out 2).trans rfl; clear hbox hb hg_gx))
  go_ret2
  have hbl := qai (j := 2) (v := .int .i64 q2) (qai (j := 1) (v := .int .i64 q1) (qai (j := 0) (v := .int .i64 q0) HB.out GEgx) GEgx) GEgx
  exact ⟨rfl, HI.out.step (KB.of_below hbl A), KB.of_below hbl _⟩
 | true =>
  have hnx := HNX.out rfl
  try dsimp only at hnx
  have hsr := HIH.out _ hnx.1 hnx.2
  unfold SearchC at hsr
  clear hnx HNX HIH
  simp only [if_true]
  generalize hS : E.S ⟨q0, q1, q2⟩ = S at hsr ⊢
  clear hS
  obtain ⟨So, Ss, Sr⟩ := S
  try dsimp only at hsr
  simp only [spV_eq] at hsr
  have HSR := qab.mk hsr
  clear hsr
  go_enter Try.func91, Try.ntmps91
  go_wp2_with (first | (go_at_call 92; refine hrep.mono ?_; clear hrep; rintro e w2 ⟨rfl, hb⟩; have n_HB := qab.mk (qag HB.out hb); clear HB; have HB := n_HB; clear n_HB; clear hb) | ((with_reducible refine qar (N := 9) rfl ?_); refine qap ?hg (N := 9) ?hd (cs := #[.int .i64 0, .int .i64 0, .int .i64 0]) (t := 123) ?hr ?_; (case hd => rfl); (case hg => rfl); (case hr => first | (go_simp; done) | (go_simp; rfl)); intro gx hg_gx w3 hbox hb; have BKgx := qab.mk hbox; have n_HB := qab.mk (qag HB.out hb); have GEgx : w.heap.size ≤ gx := (by rw [hg_gx]; exact HB.out.size); clear HB; have HB := n_HB; clear n_HB; have hfgx := qac BKgx.out; have hcgx_0 : w3.cell? ⟨gx, 0, none⟩ = some (.int .i64 0) := (qaa BKgx.out 0).trans rfl; have hcgx_1 : w3.cell? ⟨gx, 1, none⟩ = some (.int .i64 0) := (qaa BKgx.out 1).trans rfl; have hcgx_2 : w3.cell? ⟨gx, 2, none⟩ = some (.int .i64 0) := (qaa BKgx.out 2).trans rfl; clear hbox hb hg_gx))
  have hbl := qai (j := 2) (v := .int .i64 q2) (qai (j := 1) (v := .int .i64 q1) (qai (j := 0) (v := .int .i64 q0) HB.out GEgx) GEgx) GEgx
  have hbx : (((w3.setCell ⟨gx, 0, none⟩ (.int .i64 q0)).setCell ⟨gx, 1, none⟩ (.int .i64 q1)).setCell ⟨gx, 2, none⟩ (.int .i64 q2)).heap[gx]? = some (.cells #[.int .i64 q0, .int .i64 q1, .int .i64 q2] 123 (0, 0)) := blk_set (blk_set (blk_set BKgx.out 0 _) 1 _) 2 _
  generalize ((w3.setCell ⟨gx, 0, none⟩ (.int .i64 q0)).setCell ⟨gx, 1, none⟩ (.int .i64 q1)).setCell ⟨gx, 2, none⟩ (.int .i64 q2) = w4 at hbl hbx ⊢
  have hi4 : Inv91 E s gs gw mw A w4 := HI.out.step (KB.of_below hbl A)
  have hk4 : KB (fun k => k = E.m ∨ k = mw) w w4 := KB.of_below hbl _
  have htup : ∀ W, Inv91 E s gs gw mw A W → KB (fun k => k = E.m ∨ k = mw) w4 W → W.cell? ⟨gw, 0, none⟩ = some (.map (some mw)) ∧ W.cell? ⟨E.Bs, 0, none⟩ = some (SEARCHF E) ∧ W.cell? ⟨gx, 0, none⟩ = some (.int .i64 q0) ∧ W.cell? ⟨gx, 1, none⟩ = some (.int .i64 q1) ∧ W.cell? ⟨gx, 2, none⟩ = some (.int .i64 q2) ∧ qab (Inv91 E s gs gw mw A W ∧ KB (fun k => k = E.m ∨ k = mw) w4 W) := by
   intro W hi hk
   have hbW := hk.blk hbx (fun e => e.elim (fun e => hi4.env.map.noCells hbx e) (fun e => hi4.map.noCells hbx e))
   exact ⟨qaa hi.xw 0, qaa hi.env.xs 0, qaa hbW 0, qaa hbW 1, qaa hbW 2, ⟨hi, hk⟩⟩
  have hdr : Inv91 E s gs gw mw A w4.drew ∧ KB (fun k => k = E.m ∨ k = mw) w4 w4.drew := ⟨hi4.step ⟨rfl, rfl, rfl, Nat.le_refl _, fun _ _ _ => rfl⟩, ⟨rfl, rfl, rfl, Nat.le_refl _, fun _ _ _ => rfl⟩⟩
  have hS4 := htup w4.drew hdr.1 hdr.2
  have hA4 : ∀ k, A k → k < w4.heap.size := fun k hk => by have := hA k hk; have := hbl.size; omega
  have hsr2 : ∀ W, Inv91 E s gs gw mw A W ∧ KB (fun k => k = E.m ∨ k = mw) w4 W → Calls Try.prog 90 #[.agg #[.int .i64 q0, .int .i64 q1, .int .i64 q2], .pointer (some ⟨E.Bn, 0, none⟩), .pointer (some ⟨E.Bk, 0, none⟩), .pointer (some ⟨E.Bd, 0, none⟩), .pointer (some ⟨E.Bs, 0, none⟩)] W fun e W' =>
    ∃ v, e = .returned (.agg #[v, .int .i64 Ss, .bool Sr]) ∧ qab (W'.cell? ⟨gw, 0, none⟩ = some (.map (some mw)) ∧ W'.cell? ⟨E.Bs, 0, none⟩ = some (SEARCHF E) ∧ W'.cell? ⟨gx, 0, none⟩ = some (.int .i64 q0) ∧ W'.cell? ⟨gx, 1, none⟩ = some (.int .i64 q1) ∧ W'.cell? ⟨gx, 2, none⟩ = some (.int .i64 q2) ∧ qab (Inv91 E s gs gw mw A W' ∧ KB (fun k => k = E.m ∨ k = mw) w4 W')) ∧ ∃ W6, (Instr.mapUpdate 125 (.map (some mw)) (.int .i64 x) (.agg #[v, .int .i64 Ss, .bool Sr])).run Try.prog W' = .ok () W6 ∧ qab (W6.cell? ⟨gw, 0, none⟩ = some (.map (some mw)) ∧ W6.cell? ⟨E.Bs, 0, none⟩ = some (SEARCHF E) ∧ W6.cell? ⟨gx, 0, none⟩ = some (.int .i64 q0) ∧ W6.cell? ⟨gx, 1, none⟩ = some (.int .i64 q1) ∧ W6.cell? ⟨gx, 2, none⟩ = some (.int .i64 q2) ∧ qab (Inv91 E s gs gw mw A W6 ∧ KB (fun k => k = E.m ∨ k = mw) w4 W6)) ∧ qab (MapIs intKey W6 mw (fun k u => k = x → u = .agg #[v, .int .i64 Ss, .bool Sr]) (fun k => k = x)) := by
   rintro W ⟨hi, hk⟩
   refine (HSR.out A W hi.env (fun k hk' => Nat.lt_of_lt_of_le (hA4 k hk') hk.size)).mono ?_
   rintro e W' ⟨v, rfl, _, henv, hkb⟩
   have hi5 := hi.after henv hkb
   have hk5 := hk.trans hkb (fun k e => .inl (.inl e))
   obtain ⟨w6, hrun, hi6, hk6, hm6⟩ := hi5.put x (.agg #[v, .int .i64 Ss, .bool Sr])
   exact ⟨v, rfl, ⟨htup _ hi5 hk5⟩, w6, hrun, ⟨htup _ hi6 (hk5.trans hk6 (fun k e => .inl (.inr e)))⟩, ⟨hm6⟩⟩
  have HSR2 := qab.mk hsr2
  have HS4 := qab.mk hS4
  have HK4 := qab.mk hk4
  clear htup hdr hS4 hi4 hk4 hbl hbx hA hA4 hsr2 HSR BKn BKd BKs BKp BKw BKgx hfgx hcgx_0 hcgx_1 hcgx_2 HI
  go_region_held3 (fun w' => w'.cell? ⟨gw, 0, none⟩ = some (.map (some mw)) ∧ w'.cell? ⟨E.Bs, 0, none⟩ = some (SEARCHF E) ∧ w'.cell? ⟨gx, 0, none⟩ = some (.int .i64 q0) ∧ w'.cell? ⟨gx, 1, none⟩ = some (.int .i64 q1) ∧ w'.cell? ⟨gx, 2, none⟩ = some (.int .i64 q2) ∧ qab (Inv91 E s gs gw mw A w' ∧ KB (fun k => k = E.m ∨ k = mw) w4 w'))
   (first | exact HS4.out | exact HS5.out | exact HS6.out)
   (first | ((go_at_call 90; refine (HSR2.out _ (qab.out (And.right (And.right (And.right (And.right (And.right (by assumption)))))))).mono ?_; rintro e w5 ⟨v, rfl, HS5, w6, hrun, HS6, HM6⟩)) | ((refine step_mapUpdate (by rfl) 125 _ _ _ rfl _ _ _ rfl rfl rfl hrun ?_)))
  rename_i hHeld
  clear hHeld hrun
  simp only [Exit.then]
  have hl6 : (Instr.lookup 125 (.map (some mw)) (.int .i64 x) false).run Try.prog w6.drew = .ok (.agg #[v, .int .i64 Ss, .bool Sr]) w6.drew := by
   rcases (MapIs.at (W' := w6.drew) HM6.out rfl).look Try.underlying125 (zero97 _) x with ⟨u, hu, _, h2⟩ | ⟨hn, _, _⟩
   ·
    rw [hu rfl] at h2
    exact h2
   ·
    exact absurd rfl hn
  have hc6 : w6.drew.cell? ⟨gw, 0, none⟩ = some (.map (some mw)) := HS6.out.1
  have hfa := field97_1
  have hfb := field97_2
  go_wp2_with fail
  go_region_held3 (fun w' => w'.cell? ⟨gw, 0, none⟩ = some (.map (some mw)) ∧ (Instr.lookup 125 (.map (some mw)) (.int .i64 x) false).run Try.prog w' = .ok (.agg #[v, .int .i64 Ss, .bool Sr]) w')
   (exact ⟨hc6, hl6⟩)
   ((fail))
  all_goals
   simp only [Exit.then]
   go_wp2_with fail
   all_goals
    go_ret2
    have hfin := HS6.out.2.2.2.2.2.out
    refine ⟨?_, hfin.1.step ⟨rfl, rfl, rfl, Nat.le_refl _, fun _ _ _ => rfl⟩, (HK4.out.trans hfin.2 (fun k e => .inl e)).trans (T' := fun _ => False) ⟨rfl, rfl, rfl, Nat.le_refl _, fun _ _ _ => rfl⟩ (fun _ e => e.elim)⟩
    have hmin : (if Ss < ow then Ss else ow) = min ow Ss := by split <;> omega
    first | (have hm : min ow Ss = Ss := (by omega); rw [hm]; rfl) | (have hm : min ow Ss = ow := (by omega); rw [hm]; rfl) | (rw [← hmin]; rfl)
end Go.Proofs.Ytipphcjgdebecaa.PA
namespace Go.Proofs.Ytipphcjgdebecaa.PA
open Go.RowKit Go.Proofs.YtipphcjgdebecaaW.PrintWords Go.Proofs.YtipphcjgdebecaaW.PrintLast Go.Proofs.YtipphcjgdebecaaW.PrintMore
attribute [local go_sem] max2_int min2_int max_two min_two max_three min_three max_four min_four
theorem int_append_run (W : World) (v : Value) (xs : List Int) (x : Int) (base : Nat) (ok : Nat → Prop) (HO : Kd.R (Kd.int .i64) 3 W base ok v xs) (hbase : base ≤ W.heap.size) (hl : xs.length ≤ 1000) (hok : ∀ k, W.heap.size ≤ k → ok k) :
  ∃ v1 w1, (Builtin.append_ #[47, 47] 47 #[v, .slice (some ⟨W.heap.size, 0, none⟩) 1 1]).run Try.prog (W.alloc (.cells #[.int .i64 x] 3)) = .ok v1 w1 ∧ Kd.R (Kd.int .i64) 3 w1 base ok v1 (xs ++ [x]) ∧ W.grownBy w1 v.ownBlock ∧ (v1.ownBlock = v.ownBlock ∨ ∃ b, v1.ownBlock = some b ∧ W.heap.size ≤ b) := by
 have hown := (Kd.own_of_R (h1 := fun _ => rfl) HO).alloc (.cells #[.int .i64 x] 3)
 obtain ⟨i0, hi, hz0, hz1, hz2⟩ := info_parts info3
 obtain ⟨v1, w1, hrun, ho, hg, _, hat⟩ := run_append_own_at (W.alloc (.cells #[.int .i64 x] 3)) base 47 47 3 i0 (.int .i64 0) 1 8 Try.underlying47 hi hz0 hz1 hz2 rfl (by decide) v xs.length _ hown ⟨W.heap.size, 0, none⟩ 1 1 [.int .i64 x] rfl (Go.cell_one_new W (.int .i64 x) 3) (by simp [Value.oneCell']) (by simp only [maxLen]; omega) (by omega) (by simp; omega)
 have hgW : W.grownBy w1 v.ownBlock := World.grownBy.trans (World.grownBy_alloc W _ _) hg
 refine ⟨v1, w1, hrun, ?_, hgW, ?_⟩
 ·
  refine Kd.R_of_own (h1 := fun _ => rfl) ?_ ?_
  ·
   have e : encs (Value.int .i64) (xs ++ [x]) = encs (Value.int .i64) xs ++ [.int .i64 x] := by simp [encs]
   rw [e]
   simpa using ho
  ·
   intro k hk
   rcases hat with h1 | h1
   ·
    exact HO.1 k (by rw [← h1]; exact hk)
   ·
    rw [h1] at hk
    injection hk with hk
    subst hk
    exact hok _ (by simp)
 ·
  rcases hat with h1 | h1
  ·
   exact .inl h1
  ·
   exact .inr ⟨_, h1, by simp⟩
structure St93 (E : OE) (A : Nat → Prop) (w : World) (gn gq gd gf go gx : Nat) (slack : Int) (n : Sp) (o : List Int) (v : Value) (Ds : List Nat) (W : World) : Prop where
 env : EnvInv E (fun k => A k ∨ k = go ∨ k = gx ∨ some k = v.ownBlock) W
 xn : W.heap[gn]? = some (.cells (NETC E) 99 (0, 0))
 xq : W.heap[gq]? = some (.cells #[.int .i64 slack] 3 (0, 0))
 xd : W.heap[gd]? = some (.cells #[.slice E.Ad E.D.length E.cd] 47 (0, 0))
 xf : W.heap[gf]? = some (.cells #[SEARCHF E] 121 (0, 0))
 xo : W.heap[go]? = some (.cells #[v] 47 (0, 0))
 xx : W.heap[gx]? = some (.cells #[.int .i64 n.p, .int .i64 n.h, .int .i64 n.r] 123 (0, 0))
 row : Kd.R (Kd.int .i64) 3 W E.w0.heap.size (fun k => w.heap.size ≤ k ∧ k ≠ gq) v o
 kb : KB (fun k => k = E.m) w W
 lo : w.heap.size ≤ go ∧ w.heap.size ≤ gx
 marks : ∀ D ∈ Ds, W.heap[D]? = some (.deferred (some [])) ∧ w.heap.size ≤ D
section
variable {E : OE} {A : Nat → Prop} {w W W' : World} {gn gq gd gf go gx : Nat} {slack : Int} {n n' : Sp} {o : List Int} {v : Value} {Ds : List Nat}
theorem deferred_ne {g : Nat} {cs : Array Value} {t : TypeId} {D : Nat} (h : W.heap[g]? = some (.cells cs t (0, 0))) (hD : W.heap[D]? = some (.deferred (some []))) : D ≠ g := by
 rintro rfl
 rw [h] at hD
 cases hD
theorem St93.lt (h : St93 E A w gn gq gd gf go gx slack n o v Ds W) (hA : ∀ k, A k → k < w.heap.size) : ∀ k, (A k ∨ k = go ∨ k = gx ∨ some k = v.ownBlock) → k < W.heap.size := by
 rintro k (hk | rfl | rfl | hk)
 ·
  have := hA k hk
  have := h.kb.size
  omega
 ·
  exact blk_lt h.xo
 ·
  exact blk_lt h.xx
 ·
  exact Kd.R_lt h.row k hk.symm
theorem St93.below (h : St93 E A w gn gq gd gf go gx slack n o v Ds W) (hb : Below W.heap.size W W') : St93 E A w gn gq gd gf go gx slack n o v Ds W' :=
 ⟨h.env.step (KB.of_below hb _), qah h.xn hb, qah h.xq hb, qah h.xd hb, qah h.xf hb, qah h.xo hb, qah h.xx hb, Kd.R_below h.row hb, h.kb.then_below hb, h.lo, fun D hD => ⟨qah (h.marks D hD).1 hb, (h.marks D hD).2⟩⟩
theorem St93.after (h : St93 E A w gn gq gd gf go gx slack n o v Ds W) (he : EnvInv E (fun k => A k ∨ k = go ∨ k = gx ∨ some k = v.ownBlock) W') (hk : KB (fun k => k = E.m) W W') : St93 E A w gn gq gd gf go gx slack n o v Ds W' := by
 have ne : ∀ {g cs t}, W.heap[g]? = some (.cells cs t (0, 0)) → ¬ g = E.m := fun hg => h.env.map.noCells hg
 have hR := hk.R (Kd.R_bound h.row) (fun k hk' => by obtain ⟨q, _, cells, hc⟩ := hk'.2.2.2; exact ne hc)
 refine ⟨he, hk.blk h.xn (ne h.xn), hk.blk h.xq (ne h.xq), hk.blk h.xd (ne h.xd), hk.blk h.xf (ne h.xf), hk.blk h.xo (ne h.xo), hk.blk h.xx (ne h.xx), Kd.R_mono hR (fun k hk => hk.1), h.kb.trans hk (fun k e => .inl e), h.lo, fun D hD => ⟨hk.blk (h.marks D hD).1 (fun e => ?_), (h.marks D hD).2⟩⟩
 obtain ⟨es, clock, ks, h1, _⟩ := h.env.map
 have h2 := (h.marks D hD).1
 rw [e, h1] at h2
 cases h2
theorem St93.own {B : Nat} (hB : w.heap.size ≤ B) (hw : E.w0.heap.size ≤ w.heap.size) (hm : E.m < w.heap.size) (hDs : ∀ D ∈ Ds, D < B) {row : Option Nat} (h : St93 E A w gn gq gd gf go gx slack n o v Ds W) (hg : W.grownBy W' row) (hr : ∀ r, row = some r → B ≤ r ∧ ∃ o : Obj, W.heap[r]? = some o ∧ o.isCells = false) : St93 E A w gn gq gd gf go gx slack n o v Ds W' := by
 refine ⟨h.env.own (B := B) (by omega) (by omega) hg hr, blk_own h.xn hg hr, blk_own h.xq hg hr, blk_own h.xd hg hr, blk_own h.xf hg hr, blk_own h.xo hg hr, blk_own h.xx hg hr, ?_, h.kb.trans (KB.of_grown hg) (fun k e => .inr (by have := (hr k e).1; omega)), h.lo,
  fun D hD => ⟨(hg.block D (blk_lt (h.marks D hD).1) (fun e => by have := (hr D e.symm).1; have := hDs D hD; omega)).trans (h.marks D hD).1, (h.marks D hD).2⟩⟩
 refine Kd.R_mono (Kd.R_step (Kd.R_bound h.row) (fun k hk hlt => hg.block k hlt (fun e => ?_))) (fun k hk => hk.1)
 obtain ⟨q, _, cells, hc⟩ := hk.2.2.2
 obtain ⟨_, o', ho, hn⟩ := hr k e.symm
 rw [hc] at ho
 injection ho with ho
 subst ho
 cases hn
theorem St93.push (h : St93 E A w gn gq gd gf go gx slack n o v Ds W) (hw0 : E.w0.heap.size ≤ w.heap.size) {w1 : World} {v1 : Value} {x : Int} (hn : gn ≠ go ∧ gn ≠ gx ∧ gq ≠ go ∧ gq ≠ gx ∧ gd ≠ go ∧ gd ≠ gx ∧ gf ≠ go ∧ gf ≠ gx ∧ go ≠ gx)
  (hR : Kd.R (Kd.int .i64) 3 w1 E.w0.heap.size (fun k => w.heap.size ≤ k ∧ k ≠ gq) v1 (o ++ [x])) (hg : W.grownBy w1 v.ownBlock) (hat : v1.ownBlock = v.ownBlock ∨ ∃ b, v1.ownBlock = some b ∧ W.heap.size ≤ b) :
  St93 E A w gn gq gd gf go gx slack n' (o ++ [x]) v1 Ds ((((w1.setCell ⟨go, 0, none⟩ v1).setCell ⟨gx, 0, none⟩ (.int .i64 n'.p)).setCell ⟨gx, 1, none⟩ (.int .i64 n'.h)).setCell ⟨gx, 2, none⟩ (.int .i64 n'.r)) := by
 obtain ⟨d1, d2, d3, d4, d5, d6, d7, d8, d9⟩ := hn
 have d9' := d9.symm
 have kset : ∀ T : Nat → Prop, T go → T gx → KB T w1 ((((w1.setCell ⟨go, 0, none⟩ v1).setCell ⟨gx, 0, none⟩ (.int .i64 n'.p)).setCell ⟨gx, 1, none⟩ (.int .i64 n'.h)).setCell ⟨gx, 2, none⟩ (.int .i64 n'.r)) :=
  fun T t1 t2 => ((((KB.refl T w1).set (p := ⟨go, 0, none⟩) (.inl t1) _).set (p := ⟨gx, 0, none⟩) (.inl t2) _).set (p := ⟨gx, 1, none⟩) (.inl t2) _).set (p := ⟨gx, 2, none⟩) (.inl t2) _
 have far : ∀ {g : Nat} {cs : Array Value} {t : TypeId}, w1.heap[g]? = some (.cells cs t (0, 0)) → g ≠ go → g ≠ gx → ((((w1.setCell ⟨go, 0, none⟩ v1).setCell ⟨gx, 0, none⟩ (.int .i64 n'.p)).setCell ⟨gx, 1, none⟩ (.int .i64 n'.h)).setCell ⟨gx, 2, none⟩ (.int .i64 n'.r)).heap[g]? = some (.cells cs t (0, 0)) :=
  fun hg e1 e2 => blk_far (blk_far (blk_far (blk_far hg (p := ⟨go, 0, none⟩) e1 _) (p := ⟨gx, 0, none⟩) e2 _) (p := ⟨gx, 1, none⟩) e2 _) (p := ⟨gx, 2, none⟩) e2 _
 have k1 : ∀ {g : Nat} {cs : Array Value} {t : TypeId}, W.heap[g]? = some (.cells cs t (0, 0)) → t ≠ 3 → w1.heap[g]? = some (.cells cs t (0, 0)) := fun hg' ht => blk_grown hg' hg (Kd.R_ne h.row hg' (Ne.symm ht))
 have env1 : EnvInv E (fun k => (A k ∨ k = go ∨ k = gx ∨ some k = v.ownBlock) ∨ W.heap.size ≤ k) W := h.env.imp (fun k hk => ⟨hk.elim (h.env.lo k) (fun x => Nat.le_trans h.env.hb.size x), hk⟩)
 have env2 := env1.step ((KB.of_grown hg).mono (fun k e => .inl (.inr (.inr (.inr e.symm)))))
 have env3 := env2.step (kset _ (.inl (.inr (.inl rfl))) (.inl (.inr (.inr (.inl rfl)))))
 refine ⟨env3.imp (fun k hk => ?_), far (k1 h.xn (by decide)) d1 d2, ?_, far (k1 h.xd (by decide)) d5 d6, far (k1 h.xf (by decide)) d7 d8, ?_, ?_, ?_, ?_, h.lo, ?_⟩
 ·
  have hk' : (A k ∨ k = go ∨ k = gx ∨ some k = v.ownBlock) ∨ W.heap.size ≤ k := by
   rcases hk with hk | hk | hk | hk
   ·
    exact .inl (.inl hk)
   ·
    exact .inl (.inr (.inl hk))
   ·
    exact .inl (.inr (.inr (.inl hk)))
   ·
    rcases hat with e | ⟨b, e, hb⟩
    ·
     exact .inl (.inr (.inr (.inr (by rw [hk, e]))))
    ·
     rw [e] at hk
     injection hk with hk
     exact .inr (by omega)
  exact ⟨env1.lo k hk', .inl hk'⟩
 ·
  exact far (blk_grown h.xq hg (fun e => (h.row.1 gq e.symm).2 rfl)) d3 d4
 ·
  exact blk_far (blk_far (blk_far (blk_set (k1 h.xo (by decide)) 0 v1) (p := ⟨gx, 0, none⟩) d9 _) (p := ⟨gx, 1, none⟩) d9 _) (p := ⟨gx, 2, none⟩) d9 _
 ·
  exact blk_set (blk_set (blk_set (blk_far (k1 h.xx (by decide)) (p := ⟨go, 0, none⟩) d9' _) 0 _) 1 _) 2 _
 ·
  have ho := blk_far (p := ⟨go, 0, none⟩) (k1 h.xx (by decide)) d9' v1
  exact Kd.R_set (Kd.R_set (Kd.R_set (Kd.R_set hR (k1 h.xo (by decide)) (by decide) 0 v1) ho (by decide) 0 _) (blk_set ho 0 _) (by decide) 1 _) (blk_set (blk_set ho 0 _) 1 _) (by decide) 2 _
 ·
  refine (h.kb.trans (KB.of_grown hg) (fun k e => .inr (h.row.1 k e).1)).trans (kset (fun k => w.heap.size ≤ k) h.lo.1 h.lo.2) (fun k e => .inr e)
 ·
  intro D hD
  have hm := h.marks D hD
  have hD1 : w1.heap[D]? = some (.deferred (some [])) := (hg.block D (blk_lt hm.1) (fun e => by
   obtain ⟨cells, hc⟩ := Kd.R_typed h.row D e.symm
   rw [hm.1] at hc
   cases hc)).trans hm.1
  refine ⟨(kset (fun k => k = go ∨ k = gx) (.inl rfl) (.inr rfl)).blk hD1 (fun e => ?_), hm.2⟩
  rcases e with e | e
  ·
   exact deferred_ne (k1 h.xo (by decide)) hD1 e
  ·
   exact deferred_ne (k1 h.xx (by decide)) hD1 e
end
end Go.Proofs.Ytipphcjgdebecaa.PA
namespace Go.Proofs.Ytipphcjgdebecaa.PA
open Go.RowKit Go.Proofs.YtipphcjgdebecaaW.PrintWords Go.Proofs.YtipphcjgdebecaaW.PrintLast Go.Proofs.YtipphcjgdebecaaW.PrintMore
attribute [local go_sem] max2_int min2_int max_two min_two max_three min_three max_four min_four
attribute [local go_sem] Oper.semAt_some
def bAt (L : Array Bool) (i : Nat) : Bool := L.getD i false
def valid10 (L : Array Bool) : Bool := L.size == 7 && (!bAt L 2 || bAt L 1) && (!bAt L 3 || (bAt L 0 && bAt L 2)) && (!bAt L 5 || bAt L 3) && (!bAt L 6 || (bAt L 5 && bAt L 4))
def check10 (ops : Array Oper) (L : Array Bool) : Bool :=
 !valid10 L || ((Region.ready .any ops L).all (fun i => decide (i < 7) && !bAt L i && valid10 (L.setIfInBounds i true)) && (!(Region.ready .any ops L).isEmpty || L.all id) && (!L.all id || (Region.ready .any ops L).isEmpty))
def all10 : List (Array Bool) := (List.range 128).map fun k => #[k.testBit 0, k.testBit 1, k.testBit 2, k.testBit 3, k.testBit 4, k.testBit 5, k.testBit 6]
theorem mem_all10 (L : Array Bool) (h : L.size = 7) : L ∈ all10 := by
 obtain ⟨l⟩ := L
 match l, h with
 | [a, b, c, d, e, f, g], _ => cases a <;> cases b <;> cases c <;> cases d <;> cases e <;> cases f <;> cases g <;> decide
theorem opIn_value {n : Nat} {P : Program} {ops : Array Oper} {Q : Exit → Act → World → Prop} {i : Nat} {K : Act → World → Prop} {a : Act} {w w1 : World} {o : Oper} {v : Value} {l : Nat} (hi : ops[i]? = some o) (hg : o.guard = none)
  (hd : ∀ c, o.op ≠ .defer c) (hrun : (execOp a.eval o).run P w = .ok (.value v) w1) (h : K (a.put o.dst v) w1) : wpOpIn (Fence.wide.inRound l) n P ops Q i K a w := by
 refine wpOpIn_step hi fun K' hK => ?_
 have hw : Region.wanted o (yielded ops a.tmps) = true := by simp [Region.wanted, hg]
 rw [if_pos hw]
 unfold Oper.wpIn
 refine ⟨fun f hf => trivial, ?_⟩
 rw [Oper.semAt_eq _ _ _ hd, hrun]
 exact hK _ _ h
theorem opIn_skip {n : Nat} {P : Program} {ops : Array Oper} {Q : Exit → Act → World → Prop} {i : Nat} {K : Act → World → Prop} {a : Act} {w w1 : World} {o : Oper} {l : Nat} (hi : ops[i]? = some o) (hg : o.guard = none)
  (hd : ∀ c, o.op ≠ .defer c) (hrun : (execOp a.eval o).run P w = .ok .skip w1) (h : K (a.put o.dst undef) w1) : wpOpIn (Fence.wide.inRound l) n P ops Q i K a w := by
 refine wpOpIn_step hi fun K' hK => ?_
 have hw : Region.wanted o (yielded ops a.tmps) = true := by simp [Region.wanted, hg]
 rw [if_pos hw]
 unfold Oper.wpIn
 refine ⟨fun f hf => trivial, ?_⟩
 rw [Oper.semAt_eq _ _ _ hd, hrun]
 exact hK _ _ h
structure St10 (L : Array Bool) (a : Act) (gx go gy x : Nat) (vo v1 vs vy : Value) (xi : Int) : Prop where
 size : a.tmps.size = 73
 s13 : a.tmps.getD 13 undef = .pointer (some ⟨go, 0, none⟩)
 s14 : a.tmps.getD 14 undef = .pointer (some ⟨gx, 0, none⟩)
 s17 : a.tmps.getD 17 undef = .int .i64 xi
 s18 : a.tmps.getD 18 undef = .pointer (some ⟨gy, 0, none⟩)
 d0 : bAt L 0 = true → a.tmps.getD 67 undef = vo
 d1 : bAt L 1 = true → a.tmps.getD 68 undef = .int .i64 xi
 d2 : bAt L 2 = true → a.tmps.getD 69 undef = vs
 d3 : bAt L 3 = true → a.tmps.getD 70 undef = v1
 d4 : bAt L 4 = true → a.tmps.getD 71 undef = vy
theorem bAt_set {L : Array Bool} {i j : Nat} (hi : i < L.size) : bAt (L.setIfInBounds i true) j = (if i = j then true else bAt L j) := by
 unfold bAt
 by_cases h : i = j
 ·
  subst h
  simp [hi]
 ·
  simp [h, Array.getD_eq_getD_getElem?, Array.getElem?_setIfInBounds]
theorem getD_put {a : Act} {k j : Nat} {v : Value} (hk : k < a.tmps.size) : (a.put (some k) v).tmps.getD j undef = (if k = j then v else a.tmps.getD j undef) := by
 show (a.tmps.setIfInBounds k v).getD j undef = _
 by_cases h : k = j
 ·
  subst h
  simp [hk]
 ·
  simp [h, Array.getD_eq_getD_getElem?, Array.getElem?_setIfInBounds]
theorem St10.put {L : Array Bool} {a : Act} {gx go gy x : Nat} {vo v1 vs vy v : Value} {xi : Int} (h : St10 L a gx go gy x vo v1 vs vy xi) (i k : Nat) (hL : i < L.size) (hk : k < 73) (hki : k ≠ 13 ∧ k ≠ 14 ∧ k ≠ 17 ∧ k ≠ 18)
  (h0 : k = 67 → v = vo) (h1 : k = 68 → v = .int .i64 xi) (h2 : k = 69 → v = vs) (h3 : k = 70 → v = v1) (h4 : k = 71 → v = vy) (hi : i = k - 67) (hk2 : 67 ≤ k) : St10 (L.setIfInBounds i true) (a.put (some k) v) gx go gy x vo v1 vs vy xi := by
 have hks : k < a.tmps.size := by rw [h.size]; exact hk
 have key : ∀ (j kk : Nat) (u : Value), kk = j + 67 → (k = kk → v = u) → (bAt L j = true → a.tmps.getD kk undef = u) → bAt (L.setIfInBounds i true) j = true → (a.put (some k) v).tmps.getD kk undef = u := by
  intro j kk u hkk hvu hd hb
  rw [getD_put hks]
  by_cases e : k = kk
  ·
   rw [if_pos e]; exact hvu e
  ·
   rw [if_neg e]
   rw [bAt_set hL, if_neg (by omega)] at hb
   exact hd hb
 have far : ∀ (j : Nat) (u : Value), k ≠ j → a.tmps.getD j undef = u → (a.put (some k) v).tmps.getD j undef = u := fun j u hj hu => by rw [getD_put hks, if_neg hj]; exact hu
 exact ⟨by show (a.tmps.setIfInBounds k v).size = 73; simp [h.size], far _ _ hki.1 h.s13, far _ _ hki.2.1 h.s14, far _ _ hki.2.2.1 h.s17, far _ _ hki.2.2.2 h.s18, key 0 67 vo rfl h0 h.d0, key 1 68 _ rfl h1 h.d1, key 2 69 vs rfl h2 h.d2, key 3 70 v1 rfl h3 h.d3, key 4 71 vy rfl h4 h.d4⟩
theorem St10.skip {L : Array Bool} {a : Act} {gx go gy x : Nat} {vo v1 vs vy : Value} {xi : Int} (h : St10 L a gx go gy x vo v1 vs vy xi) (i : Nat) (hL : i < L.size) (hi : 5 ≤ i) : St10 (L.setIfInBounds i true) a gx go gy x vo v1 vs vy xi :=
 ⟨h.size, h.s13, h.s14, h.s17, h.s18, fun hb => h.d0 (by rwa [bAt_set hL, if_neg (by omega)] at hb), fun hb => h.d1 (by rwa [bAt_set hL, if_neg (by omega)] at hb), fun hb => h.d2 (by rwa [bAt_set hL, if_neg (by omega)] at hb), fun hb => h.d3 (by rwa [bAt_set hL, if_neg (by omega)] at hb), fun hb => h.d4 (by rwa [bAt_set hL, if_neg (by omega)] at hb)⟩
def wd10 (w0 w1 w2 w3 w4 : World) (L : Array Bool) : World := if bAt L 6 = true then w4 else if bAt L 5 = true then w3 else if bAt L 3 = true then w2 else if bAt L 2 = true then w1 else w0
def cnt10 (L : Array Bool) : Nat := (bAt L 0).toNat + (bAt L 1).toNat + (bAt L 2).toNat + (bAt L 3).toNat + (bAt L 4).toNat + (bAt L 5).toNat + (bAt L 6).toNat
theorem valid_size {L : Array Bool} (h : valid10 L = true) : L.size = 7 := by
 unfold valid10 at h
 simp only [Bool.and_eq_true, beq_iff_eq] at h
 exact h.1.1.1.1
theorem valid_imp {L : Array Bool} (h : valid10 L = true) : (bAt L 2 = true → bAt L 1 = true) ∧ (bAt L 3 = true → bAt L 0 = true ∧ bAt L 2 = true) ∧ (bAt L 5 = true → bAt L 3 = true) ∧ (bAt L 6 = true → bAt L 5 = true ∧ bAt L 4 = true) := by
 unfold valid10 at h
 simp only [Bool.and_eq_true, Bool.or_eq_true, Bool.not_eq_true'] at h
 obtain ⟨⟨⟨⟨_, a⟩, b⟩, c⟩, d⟩ := h
 refine ⟨fun e => ?_, fun e => ?_, fun e => ?_, fun e => ?_⟩
 ·
  rcases a with a | a
  ·
   rw [e] at a; cases a
  ·
   exact a
 ·
  rcases b with b | b
  ·
   rw [e] at b; cases b
  ·
   exact b
 ·
  rcases c with c | c
  ·
   rw [e] at c; cases c
  ·
   exact c
 ·
  rcases d with d | d
  ·
   rw [e] at d; cases d
  ·
   exact d
theorem cnt_set {L : Array Bool} (hL : L.size = 7) {i : Nat} (hi : i < 7) (hb : bAt L i = false) : cnt10 (L.setIfInBounds i true) = cnt10 L + 1 := by
 unfold cnt10
 have B := fun j => bAt_set (L := L) (i := i) (j := j) (by omega)
 simp only [B]
 match i, hi with
 | 0, _ => simp [hb]; omega
 | 1, _ => simp [hb]; omega
 | 2, _ => simp [hb]; omega
 | 3, _ => simp [hb]; omega
 | 4, _ => simp [hb]; omega
 | 5, _ => simp [hb]; omega
 | 6, _ => simp [hb]
theorem cnt_all {L : Array Bool} (hL : L.size = 7) (h : cnt10 L = 7) : L.all id = true := by
 obtain ⟨l⟩ := L
 match l, hL with
 | [a, b, c, d, e, f, g], _ => cases a <;> cases b <;> cases c <;> cases d <;> cases e <;> cases f <;> cases g <;> simp [cnt10, bAt] at h ⊢
theorem check_done {ops : Array Oper} {L : Array Bool} (h : check10 ops L = true) (hv : valid10 L = true) (ha : L.all id = true) : Region.ready .any ops L = [] := by
 unfold check10 at h
 rw [hv, ha] at h
 simp at h
 exact h.2
theorem check_all {ops : Array Oper} {L : Array Bool} (h : check10 ops L = true) (hv : valid10 L = true) (hr : Region.ready .any ops L = []) : L.all id = true := by
 unfold check10 at h
 rw [hv, hr] at h
 simp at h
 simpa using h
theorem check_mem {ops : Array Oper} {L : Array Bool} (h : check10 ops L = true) (hv : valid10 L = true) {i : Nat} (hi : i ∈ Region.ready .any ops L) : i < 7 ∧ bAt L i = false ∧ valid10 (L.setIfInBounds i true) = true := by
 unfold check10 at h
 rw [hv] at h
 simp only [Bool.not_true, Bool.false_or, Bool.and_eq_true, List.all_eq_true] at h
 have := h.1.1 i hi
 simp only [Bool.and_eq_true, decide_eq_true_eq, Bool.not_eq_true'] at this
 exact ⟨this.1.1, this.1.2, this.2⟩
theorem all_bit {L : Array Bool} (h : L.all id = true) (hs : 6 < L.size) : bAt L 6 = true := by
 rw [Array.all_eq_true] at h
 have := h 6 hs
 simpa [bAt, hs] using this
theorem wd_all {w0 w1 w2 w3 w4 : World} {L : Array Bool} (h : L.all id = true) (hs : 6 < L.size) : wd10 w0 w1 w2 w3 w4 L = w4 := by
 unfold wd10
 rw [all_bit h hs, if_pos rfl]
theorem wd_set {w0 w1 w2 w3 w4 : World} {L : Array Bool} {i : Nat} (hi : i < L.size) (hn : i = 0 ∨ i = 1 ∨ i = 4) : wd10 w0 w1 w2 w3 w4 (L.setIfInBounds i true) = wd10 w0 w1 w2 w3 w4 L := by
 have e2 : bAt (L.setIfInBounds i true) 2 = bAt L 2 := by rw [bAt_set hi, if_neg (by omega)]
 have e3 : bAt (L.setIfInBounds i true) 3 = bAt L 3 := by rw [bAt_set hi, if_neg (by omega)]
 have e5 : bAt (L.setIfInBounds i true) 5 = bAt L 5 := by rw [bAt_set hi, if_neg (by omega)]
 have e6 : bAt (L.setIfInBounds i true) 6 = bAt L 6 := by rw [bAt_set hi, if_neg (by omega)]
 unfold wd10
 rw [e2, e3, e5, e6]
set_option maxRecDepth 100000 in
set_option maxHeartbeats 2000000 in
theorem region10 {n l : Nat} {Q : Exit → Act → World → Prop} {a : Act} {W : World} {ops : Array Oper} {id : Nat} {t0 t1 t2 t4 t5 t6 : TypeId} {p0 p1 p2 p3 p4 p5 p6 : String} {f0 f1 f2 f3 f4 f5 f6 : Array Edge}
  (h0 : ops[0]? = some { dst := some 67, op := .load 47 (.tmp 13), type := t0, pos := p0, after := f0, guard := none })
  (h1 : ops[1]? = some { dst := some 68, op := .move (.tmp 17), type := t1, pos := p1, after := f1, guard := none })
  (h2 : ops[2]? = some { dst := some 69, op := .buildSlice 47 1 #[(0, .tmp 68)], type := t2, pos := p2, after := f2, guard := none })
  (h3 : ops[3]? = some { dst := some 70, op := .call { callee := .builtin .append, args := #[.tmp 67, .tmp 69], argTypes := #[47, 47] }, type := 47, pos := p3, after := f3, guard := none })
  (h4 : ops[4]? = some { dst := some 71, op := .load 123 (.tmp 18), type := t4, pos := p4, after := f4, guard := none })
  (h5 : ops[5]? = some { dst := none, op := .store 47 (.tmp 13) (.tmp 70), type := t5, pos := p5, after := f5, guard := none })
  (h6 : ops[6]? = some { dst := none, op := .store 123 (.tmp 14) (.tmp 71), type := t6, pos := p6, after := f6, guard := none })
  (hsz : ops.size = 7) (hV : all10.all (check10 ops) = true)
  {gx go gy x : Nat} {oA pA : Option Addr} {on oc pn pc : Nat} {xi y0 y1 y2 n0 n1 n2 : Int}
  (hs : St10 (Array.replicate 7 false) a gx go gy x (.slice oA on oc) (.slice pA pn pc) (.slice (some ⟨W.heap.size, 0, none⟩) 1 1) (.agg #[.int .i64 y0, .int .i64 y1, .int .i64 y2]) xi)
  (bo : W.heap[go]? = some (.cells #[.slice oA on oc] 47 (0, 0))) (by_ : W.heap[gy]? = some (.cells #[.int .i64 y0, .int .i64 y1, .int .i64 y2] 123 (0, 0))) {w1 : World}
  (hrun : (Builtin.append_ #[47, 47] 47 #[.slice oA on oc, .slice (some ⟨W.heap.size, 0, none⟩) 1 1]).run Try.prog (W.drew.alloc (.cells #[.int .i64 xi] 3)) = .ok (.slice pA pn pc) w1)
  (bo1 : w1.heap[go]? = some (.cells #[.slice oA on oc] 47 (0, 0))) (by1 : w1.heap[gy]? = some (.cells #[.int .i64 y0, .int .i64 y1, .int .i64 y2] 123 (0, 0))) (bx1 : w1.heap[gx]? = some (.cells #[.int .i64 n0, .int .i64 n1, .int .i64 n2] 123 (0, 0))) (nxo : gx ≠ go) (nyo : gy ≠ go)
  (hQ : ∀ a', Q .normal a' ((((w1.setCell ⟨go, 0, none⟩ (.slice pA pn pc)).setCell ⟨gx, 0, none⟩ (.int .i64 y0)).setCell ⟨gx, 1, none⟩ (.int .i64 y1)).setCell ⟨gx, 2, none⟩ (.int .i64 y2))) :
  (Code.region id ops true).wpIn (Fence.wide.inRound l) n Try.prog Q a W := by
 have hmx : Try.prog.follows .mixedOrders = true := by kernel_rfl
 refine wpIn_region_any hmx ?_
 rw [hsz]
 have bx3 := blk_far (p := ⟨go, 0, none⟩) bx1 nxo (.slice pA pn pc)
 have by3 := blk_far (p := ⟨go, 0, none⟩) by1 nyo (.slice pA pn pc)
 have hu123 := Try.underlying123
 have HQ := qab.mk hQ
 clear hQ
 have key : ∀ (fuel : Nat) (L : Array Bool) (a : Act), valid10 L = true → cnt10 L + fuel = 7 → St10 L a gx go gy x (.slice oA on oc) (.slice pA pn pc) (.slice (some ⟨W.heap.size, 0, none⟩) 1 1) (.agg #[.int .i64 y0, .int .i64 y1, .int .i64 y2]) xi →
   wpAnyIn (Fence.wide.inRound l) n Try.prog .any ops Q fuel L a (wd10 W.drew (W.drew.alloc (.cells #[.int .i64 xi] 3)) w1 (w1.setCell ⟨go, 0, none⟩ (.slice pA pn pc)) ((((w1.setCell ⟨go, 0, none⟩ (.slice pA pn pc)).setCell ⟨gx, 0, none⟩ (.int .i64 y0)).setCell ⟨gx, 1, none⟩ (.int .i64 y1)).setCell ⟨gx, 2, none⟩ (.int .i64 y2)) L) := by
  intro fuel
  induction fuel with
  | zero =>
   intro L a hv hc hst
   have hLs : L.size = 7 := valid_size hv
   have hck := List.all_eq_true.1 hV L (mem_all10 L hLs)
   have hall := cnt_all hLs (by omega)
   refine wpAnyIn_done (check_done hck hv hall) ?_ 0
   rw [wd_all hall (by omega)]
   exact HQ.out a
  | succ fuel ih =>
   intro L a hv hc hst
   have hLs : L.size = 7 := valid_size hv
   have hck := List.all_eq_true.1 hV L (mem_all10 L hLs)
   refine ⟨fun h0 => by rw [wd_all (check_all hck hv h0) (by omega)]; exact HQ.out a, fun i hi => ?_⟩
   obtain ⟨i7, hbi, hvi⟩ := check_mem hck hv hi
   have hcn := cnt_set hLs i7 hbi
   have hiL : i < L.size := by omega
   have B := fun j => bAt_set (L := L) (i := i) (j := j) hiL
   have pv := valid_imp hv
   have pvi := valid_imp hvi
   have nb : ∀ {j k : Nat}, (bAt L j = true → bAt L k = true) → bAt L k = false → bAt L j = false := fun h hk => by
    cases hb : bAt L _ with
    | false => rfl
    | true => rw [h hb] at hk; cases hk
   have B' := B
   match i, i7 with
   | 0, _ =>
    have b3 := nb (fun h => (pv.2.1 h).1) hbi
    have b5 := nb pv.2.2.1 b3
    have b6 := nb (fun h => (pv.2.2.2 h).1) b5
    have hco : ((wd10 W.drew (W.drew.alloc (.cells #[.int .i64 xi] 3)) w1 (w1.setCell ⟨go, 0, none⟩ (.slice pA pn pc)) ((((w1.setCell ⟨go, 0, none⟩ (.slice pA pn pc)).setCell ⟨gx, 0, none⟩ (.int .i64 y0)).setCell ⟨gx, 1, none⟩ (.int .i64 y1)).setCell ⟨gx, 2, none⟩ (.int .i64 y2)) L)).cell? ⟨go, 0, none⟩ = some (.slice oA on oc) := by
     unfold wd10
     rw [b6, b5, b3]
     cases bAt L 2
     ·
      exact qaa (w := W.drew) bo 0
     ·
      exact qaa (qaj (w := W.drew) bo _) 0
    refine opIn_value h0 rfl (by intro c hc; cases hc) (v := .slice oA on oc) (w1 := (wd10 W.drew (W.drew.alloc (.cells #[.int .i64 xi] 3)) w1 (w1.setCell ⟨go, 0, none⟩ (.slice pA pn pc)) ((((w1.setCell ⟨go, 0, none⟩ (.slice pA pn pc)).setCell ⟨gx, 0, none⟩ (.int .i64 y0)).setCell ⟨gx, 1, none⟩ (.int .i64 y1)).setCell ⟨gx, 2, none⟩ (.int .i64 y2)) L)) ?_ ?_
    ·
     have e := hst.s13
     generalize (wd10 W.drew (W.drew.alloc (.cells #[.int .i64 xi] 3)) w1 (w1.setCell ⟨go, 0, none⟩ (.slice pA pn pc)) ((((w1.setCell ⟨go, 0, none⟩ (.slice pA pn pc)).setCell ⟨gx, 0, none⟩ (.int .i64 y0)).setCell ⟨gx, 1, none⟩ (.int .i64 y1)).setCell ⟨gx, 2, none⟩ (.int .i64 y2)) L) = Wc at hco
     simp [go_sem, Act.eval, e, hco]
    ·
     have := ih (L.setIfInBounds 0 true) _ hvi (by omega) (hst.put 0 67 hiL (by decide) (by decide) (fun _ => rfl) (fun e => absurd e (by decide)) (fun e => absurd e (by decide)) (fun e => absurd e (by decide)) (fun e => absurd e (by decide)) rfl (by decide))
     rwa [wd_set (by omega) (by decide)] at this
   | 1, _ =>
    refine opIn_value h1 rfl (by intro c hc; cases hc) (v := .int .i64 xi) (w1 := (wd10 W.drew (W.drew.alloc (.cells #[.int .i64 xi] 3)) w1 (w1.setCell ⟨go, 0, none⟩ (.slice pA pn pc)) ((((w1.setCell ⟨go, 0, none⟩ (.slice pA pn pc)).setCell ⟨gx, 0, none⟩ (.int .i64 y0)).setCell ⟨gx, 1, none⟩ (.int .i64 y1)).setCell ⟨gx, 2, none⟩ (.int .i64 y2)) L)) ?_ ?_
    ·
     have e := hst.s17
     generalize (wd10 W.drew (W.drew.alloc (.cells #[.int .i64 xi] 3)) w1 (w1.setCell ⟨go, 0, none⟩ (.slice pA pn pc)) ((((w1.setCell ⟨go, 0, none⟩ (.slice pA pn pc)).setCell ⟨gx, 0, none⟩ (.int .i64 y0)).setCell ⟨gx, 1, none⟩ (.int .i64 y1)).setCell ⟨gx, 2, none⟩ (.int .i64 y2)) L) = Wc
     simp [go_sem, Act.eval, e]
    ·
     have := ih (L.setIfInBounds 1 true) _ hvi (by omega) (hst.put 1 68 hiL (by decide) (by decide) (fun e => absurd e (by decide)) (fun _ => rfl) (fun e => absurd e (by decide)) (fun e => absurd e (by decide)) (fun e => absurd e (by decide)) rfl (by decide))
     rwa [wd_set (by omega) (by decide)] at this
   | 2, _ =>
    have b3 := nb (fun h => (pv.2.1 h).2) hbi
    have b5 := nb pv.2.2.1 b3
    have b6 := nb (fun h => (pv.2.2.2 h).1) b5
    have hb1 : bAt L 1 = true := by
     have h := pvi.1 (by rw [B]; rfl)
     rwa [B, if_neg (by decide)] at h
    have hw : (wd10 W.drew (W.drew.alloc (.cells #[.int .i64 xi] 3)) w1 (w1.setCell ⟨go, 0, none⟩ (.slice pA pn pc)) ((((w1.setCell ⟨go, 0, none⟩ (.slice pA pn pc)).setCell ⟨gx, 0, none⟩ (.int .i64 y0)).setCell ⟨gx, 1, none⟩ (.int .i64 y1)).setCell ⟨gx, 2, none⟩ (.int .i64 y2)) L) = W.drew := by unfold wd10; rw [b6, b5, b3, hbi]; rfl
    rw [hw]
    refine opIn_value h2 rfl (by intro c hc; cases hc) (v := .slice (some ⟨W.heap.size, 0, none⟩) 1 1) (w1 := W.drew.alloc (.cells #[.int .i64 xi] 3)) ?_ ?_
    ·
     have e := hst.d1 hb1
     have e' : a.tmps[68]?.getD undef = .int .i64 xi := by simpa [Array.getD_eq_getD_getElem?] using e
     have hu47 := Try.underlying47
     simp [go_sem, Act.eval, e, e', hu47]
     try rfl
    ·
     have := ih (L.setIfInBounds 2 true) _ hvi (by omega) (hst.put 2 69 hiL (by decide) (by decide) (fun e => absurd e (by decide)) (fun e => absurd e (by decide)) (fun _ => rfl) (fun e => absurd e (by decide)) (fun e => absurd e (by decide)) rfl (by decide))
     have hw2 : wd10 W.drew (W.drew.alloc (.cells #[.int .i64 xi] 3)) w1 (w1.setCell ⟨go, 0, none⟩ (.slice pA pn pc)) ((((w1.setCell ⟨go, 0, none⟩ (.slice pA pn pc)).setCell ⟨gx, 0, none⟩ (.int .i64 y0)).setCell ⟨gx, 1, none⟩ (.int .i64 y1)).setCell ⟨gx, 2, none⟩ (.int .i64 y2)) (L.setIfInBounds 2 true) = W.drew.alloc (.cells #[.int .i64 xi] 3) := by
      simp [wd10, B, b6, b5, b3]
     rwa [hw2] at this
   | 3, _ =>
    have b5 := nb pv.2.2.1 hbi
    have b6 := nb (fun h => (pv.2.2.2 h).1) b5
    have hb := pvi.2.1 (by rw [B]; rfl)
    rw [B, B, if_neg (by decide), if_neg (by decide)] at hb
    have hw : (wd10 W.drew (W.drew.alloc (.cells #[.int .i64 xi] 3)) w1 (w1.setCell ⟨go, 0, none⟩ (.slice pA pn pc)) ((((w1.setCell ⟨go, 0, none⟩ (.slice pA pn pc)).setCell ⟨gx, 0, none⟩ (.int .i64 y0)).setCell ⟨gx, 1, none⟩ (.int .i64 y1)).setCell ⟨gx, 2, none⟩ (.int .i64 y2)) L) = W.drew.alloc (.cells #[.int .i64 xi] 3) := by unfold wd10; rw [b6, b5, hbi, hb.2]; rfl
    rw [hw]
    refine opIn_value h3 rfl (by intro c hc; cases hc) (v := .slice pA pn pc) (w1 := w1) ?_ ?_
    ·
     have e := hst.d0 hb.1
     have e2 := hst.d2 hb.2
     have ea : (#[Operand.tmp 67, Operand.tmp 69].map a.eval) = #[.slice oA on oc, .slice (some ⟨W.heap.size, 0, none⟩) 1 1] := by
      simp only [List.map_toArray, List.map_cons, List.map_nil, Act.eval, e, e2]
     rw [BigFrame.execOp_builtin, BigFrame.builtin_append, ea, Sem.run_bind, hrun]
     rfl
    ·
     have := ih (L.setIfInBounds 3 true) _ hvi (by omega) (hst.put 3 70 hiL (by decide) (by decide) (fun e => absurd e (by decide)) (fun e => absurd e (by decide)) (fun e => absurd e (by decide)) (fun _ => rfl) (fun e => absurd e (by decide)) rfl (by decide))
     have hw2 : wd10 W.drew (W.drew.alloc (.cells #[.int .i64 xi] 3)) w1 (w1.setCell ⟨go, 0, none⟩ (.slice pA pn pc)) ((((w1.setCell ⟨go, 0, none⟩ (.slice pA pn pc)).setCell ⟨gx, 0, none⟩ (.int .i64 y0)).setCell ⟨gx, 1, none⟩ (.int .i64 y1)).setCell ⟨gx, 2, none⟩ (.int .i64 y2)) (L.setIfInBounds 3 true) = w1 := by
      simp [wd10, B, b6, b5]
     rwa [hw2] at this
   | 4, _ =>
    have b6 := nb (fun h => (pv.2.2.2 h).2) hbi
    have hg : ((wd10 W.drew (W.drew.alloc (.cells #[.int .i64 xi] 3)) w1 (w1.setCell ⟨go, 0, none⟩ (.slice pA pn pc)) ((((w1.setCell ⟨go, 0, none⟩ (.slice pA pn pc)).setCell ⟨gx, 0, none⟩ (.int .i64 y0)).setCell ⟨gx, 1, none⟩ (.int .i64 y1)).setCell ⟨gx, 2, none⟩ (.int .i64 y2)) L)).heap[gy]? = some (.cells #[.int .i64 y0, .int .i64 y1, .int .i64 y2] 123 (0, 0)) := by
     unfold wd10
     rw [b6]
     cases bAt L 5
     ·
      cases bAt L 3
      ·
       cases bAt L 2
       ·
        exact by_
       ·
        exact qaj (w := W.drew) by_ _
      ·
       exact by1
     ·
      exact by3
    refine opIn_value h4 rfl (by intro c hc; cases hc) (v := .agg #[.int .i64 y0, .int .i64 y1, .int .i64 y2]) (w1 := (wd10 W.drew (W.drew.alloc (.cells #[.int .i64 xi] 3)) w1 (w1.setCell ⟨go, 0, none⟩ (.slice pA pn pc)) ((((w1.setCell ⟨go, 0, none⟩ (.slice pA pn pc)).setCell ⟨gx, 0, none⟩ (.int .i64 y0)).setCell ⟨gx, 1, none⟩ (.int .i64 y1)).setCell ⟨gx, 2, none⟩ (.int .i64 y2)) L)) ?_ ?_
    ·
     have e := hst.s18
     generalize (wd10 W.drew (W.drew.alloc (.cells #[.int .i64 xi] 3)) w1 (w1.setCell ⟨go, 0, none⟩ (.slice pA pn pc)) ((((w1.setCell ⟨go, 0, none⟩ (.slice pA pn pc)).setCell ⟨gx, 0, none⟩ (.int .i64 y0)).setCell ⟨gx, 1, none⟩ (.int .i64 y1)).setCell ⟨gx, 2, none⟩ (.int .i64 y2)) L) = Wc at hg
     have c0 : Wc.cell? ⟨gy, 0, none⟩ = some (.int .i64 y0) := qaa hg 0
     have c1 : Wc.cell? ⟨gy, 1, none⟩ = some (.int .i64 y1) := qaa hg 1
     have c2 : Wc.cell? ⟨gy, 2, none⟩ = some (.int .i64 y2) := qaa hg 2
     simp [go_sem, Act.eval, e, c0, c1, c2, hu123]
    ·
     have := ih (L.setIfInBounds 4 true) _ hvi (by omega) (hst.put 4 71 hiL (by decide) (by decide) (fun e => absurd e (by decide)) (fun e => absurd e (by decide)) (fun e => absurd e (by decide)) (fun e => absurd e (by decide)) (fun _ => rfl) rfl (by decide))
     rwa [wd_set (by omega) (by decide)] at this
   | 5, _ =>
    have b6 := nb (fun h => (pv.2.2.2 h).1) hbi
    have hb := pvi.2.2.1 (by rw [B]; rfl)
    rw [B, if_neg (by decide)] at hb
    have hw : (wd10 W.drew (W.drew.alloc (.cells #[.int .i64 xi] 3)) w1 (w1.setCell ⟨go, 0, none⟩ (.slice pA pn pc)) ((((w1.setCell ⟨go, 0, none⟩ (.slice pA pn pc)).setCell ⟨gx, 0, none⟩ (.int .i64 y0)).setCell ⟨gx, 1, none⟩ (.int .i64 y1)).setCell ⟨gx, 2, none⟩ (.int .i64 y2)) L) = w1 := by unfold wd10; rw [b6, hbi, hb]; rfl
    rw [hw]
    refine opIn_skip h5 rfl (by intro c hc; cases hc) (w1 := w1.setCell ⟨go, 0, none⟩ (.slice pA pn pc)) ?_ ?_
    ·
     have e := hst.s13
     have e2 := hst.d3 hb
     have c0 : w1.cell? ⟨go, 0, none⟩ = some (.slice oA on oc) := qaa bo1 0
     have z0 : w1.frozen? ⟨go, 0, none⟩ = false := qac bo1 0
     simp [go_sem, Act.eval, e, e2, c0, z0]
    ·
     have := ih (L.setIfInBounds 5 true) _ hvi (by omega) (hst.skip 5 hiL (by decide))
     have hw2 : wd10 W.drew (W.drew.alloc (.cells #[.int .i64 xi] 3)) w1 (w1.setCell ⟨go, 0, none⟩ (.slice pA pn pc)) ((((w1.setCell ⟨go, 0, none⟩ (.slice pA pn pc)).setCell ⟨gx, 0, none⟩ (.int .i64 y0)).setCell ⟨gx, 1, none⟩ (.int .i64 y1)).setCell ⟨gx, 2, none⟩ (.int .i64 y2)) (L.setIfInBounds 5 true) = (w1.setCell ⟨go, 0, none⟩ (.slice pA pn pc)) := by
      simp [wd10, B, b6]
     rwa [hw2] at this
   | 6, _ =>
    have hb := pvi.2.2.2 (by rw [B]; rfl)
    rw [B, B, if_neg (by decide), if_neg (by decide)] at hb
    have hw : (wd10 W.drew (W.drew.alloc (.cells #[.int .i64 xi] 3)) w1 (w1.setCell ⟨go, 0, none⟩ (.slice pA pn pc)) ((((w1.setCell ⟨go, 0, none⟩ (.slice pA pn pc)).setCell ⟨gx, 0, none⟩ (.int .i64 y0)).setCell ⟨gx, 1, none⟩ (.int .i64 y1)).setCell ⟨gx, 2, none⟩ (.int .i64 y2)) L) = (w1.setCell ⟨go, 0, none⟩ (.slice pA pn pc)) := by unfold wd10; rw [hbi, hb.1]; rfl
    rw [hw]
    refine opIn_skip h6 rfl (by intro c hc; cases hc) (w1 := ((((w1.setCell ⟨go, 0, none⟩ (.slice pA pn pc)).setCell ⟨gx, 0, none⟩ (.int .i64 y0)).setCell ⟨gx, 1, none⟩ (.int .i64 y1)).setCell ⟨gx, 2, none⟩ (.int .i64 y2))) ?_ ?_
    ·
     have e := hst.s14
     have e2 := hst.d4 hb.2
     have c0 : (w1.setCell ⟨go, 0, none⟩ (.slice pA pn pc)).cell? ⟨gx, 0, none⟩ = some (.int .i64 n0) := qaa bx3 0
     have c1 : (w1.setCell ⟨go, 0, none⟩ (.slice pA pn pc)).cell? ⟨gx, 1, none⟩ = some (.int .i64 n1) := qaa bx3 1
     have c2 : (w1.setCell ⟨go, 0, none⟩ (.slice pA pn pc)).cell? ⟨gx, 2, none⟩ = some (.int .i64 n2) := qaa bx3 2
     have z0 : ∀ i, (w1.setCell ⟨go, 0, none⟩ (.slice pA pn pc)).frozen? ⟨gx, i, none⟩ = false := qac bx3
     generalize (w1.setCell ⟨go, 0, none⟩ (.slice pA pn pc)) = Wc at c0 c1 c2 z0
     simp [go_sem, Act.eval, e, e2, c0, c1, c2, z0, hu123]
    ·
     have := ih (L.setIfInBounds 6 true) _ hvi (by omega) (hst.skip 6 hiL (by decide))
     have hw2 : wd10 W.drew (W.drew.alloc (.cells #[.int .i64 xi] 3)) w1 (w1.setCell ⟨go, 0, none⟩ (.slice pA pn pc)) ((((w1.setCell ⟨go, 0, none⟩ (.slice pA pn pc)).setCell ⟨gx, 0, none⟩ (.int .i64 y0)).setCell ⟨gx, 1, none⟩ (.int .i64 y1)).setCell ⟨gx, 2, none⟩ (.int .i64 y2)) (L.setIfInBounds 6 true) = ((((w1.setCell ⟨go, 0, none⟩ (.slice pA pn pc)).setCell ⟨gx, 0, none⟩ (.int .i64 y0)).setCell ⟨gx, 1, none⟩ (.int .i64 y1)).setCell ⟨gx, 2, none⟩ (.int .i64 y2)) := by
      simp [wd10, B]
     rwa [hw2] at this
 have h := key 7 (Array.replicate 7 false) a (by rfl) (by rfl) hs
 exact h
end Go.Proofs.Ytipphcjgdebecaa.PA
namespace Go.Proofs.Ytipphcjgdebecaa.PA
open Go.RowKit Go.Proofs.YtipphcjgdebecaaW.PrintWords Go.Proofs.YtipphcjgdebecaaW.PrintLast Go.Proofs.YtipphcjgdebecaaW.PrintMore
attribute [local go_sem] max2_int min2_int max_two min_two max_three min_three max_four min_four
attribute [local go_sem] Oper.semAt_some
theorem leave93 (E : OE) (A : Nat → Prop) (w : World) (tmps : Array Value) (v : Value) (o : List Int) (ok : Nat → Prop) (hm : E.m < w.heap.size) (hw0 : E.w0.heap.size ≤ w.heap.size) (ht : tmps.getD 12 undef = v) (R : Ending → World → Prop)
  (hfin : ∀ W, EnvInv E A W → Kd.R (Kd.int .i64) 3 W E.w0.heap.size ok v o → KB (fun k => k = E.m) w W → R (.returned v) W) :
  ∀ (Ds : List Nat) (W : World), Ds.Nodup → (∀ D ∈ Ds, W.heap[D]? = some (.deferred (some [])) ∧ w.heap.size ≤ D) → EnvInv E A W → Kd.R (Kd.int .i64) 3 W E.w0.heap.size ok v o → KB (fun k => k = E.m) w W →
   LeavesInM Fence.wide 12 Try.prog Try.f93 tmps R (Ds.map fun D => { target := .collected D, args := #[] }) .returning W := by
 intro Ds
 induction Ds with
 | nil =>
  intro W _ _ he hr hk
  refine ⟨_, results_tmp rfl _ _ _, ?_⟩
  rw [ht]
  exact hfin W he hr hk
 | cons D Ds ih =>
  intro W hnd hD he hr hk
  have h1 := hD D (by simp)
  refine ⟨by simp, .inl ⟨D, _, rfl, run_takeDeferred h1.1, ?_⟩⟩
  have hput := grownBy_putObj' W D (.deferred none)
  rw [List.nodup_cons] at hnd
  refine ih _ hnd.2 (fun D' hD' => ?_) ?_ ?_ ?_
  ·
   have h2 := hD D' (by simp [hD'])
   exact ⟨by rw [World.putObj_heap_other (by rintro rfl; exact hnd.1 hD')]; exact h2.1, h2.2⟩
  ·
   exact he.own' hput (fun r e => by injection e with e; subst e; exact ⟨by omega, by omega, _, h1.1, rfl⟩)
  ·
   refine Kd.R_mono (Kd.R_step (Kd.R_bound hr) (fun k hk' hlt => hput.block k hlt (fun e => ?_))) (fun k hk => hk.1)
   obtain ⟨q, _, cells, hc⟩ := hk'.2.2.2
   injection e with e
   subst e
   rw [h1.1] at hc
   cases hc
  ·
   exact hk.trans (KB.of_grown hput) (fun k e => .inr (by injection e with e; omega))
def fr93 (E : OE) (s : Sp) (first slack : Int) (gn gs gq gd gf go gx : Nat) (z15 z16 z22 z23 z24 z25 z26 z27 z28 z29 z30 z31 z32 t33 t34 t35 t36 t37 t38 : Value) : Array Value := #[.agg (NETC E), .agg #[.int .i64 s.p, .int .i64 s.h, .int .i64 s.r], .int .i64 first, .int .i64 slack, .slice E.Ad E.D.length E.cd, SEARCHF E, .pointer (some ⟨gn, 0, none⟩), .pointer (some ⟨gs, 0, none⟩), undef, .pointer (some ⟨gq, 0, none⟩), .pointer (some ⟨gd, 0, none⟩), .pointer (some ⟨gf, 0, none⟩), .slice none 0 0, .pointer (some ⟨go, 0, none⟩), .pointer (some ⟨gx, 0, none⟩), z15, z16, undef, undef, undef, undef, undef, z22, z23, z24, z25, z26, z27, z28, z29, z30, z31, z32, t33, t34, t35, t36, t37, t38, undef, undef, undef, undef, undef, undef, undef, undef, undef, undef, undef, undef, undef, undef, undef, undef, undef, undef, undef, undef, undef, undef, undef, undef, undef, undef, undef, undef, undef, undef, undef, undef, undef, undef]
def mu93 (gx : Nat) (W : World) : Nat := match W.cell? ⟨gx, 2, none⟩ with | some (.int _ r) => cntB r | _ => 0
theorem mu93_eq {gx : Nat} {W : World} {r : Int} (h : W.cell? ⟨gx, 2, none⟩ = some (.int .i64 r)) : mu93 gx W = cntB r := by unfold mu93; rw [h]
def LI93 (E : OE) (A : Nat → Prop) (w : World) (s : Sp) (first slack : Int) (gq gd gf go gx : Nat) (q0 q1 q2 : Int) (a : Act) (W : World) : Prop := ∃ (n : Sp) (o : List Int) (v : Value) (k : Nat) (Ds : List Nat) (z15 z16 z22 z23 z24 z25 z26 z27 z28 z29 z30 z31 z32 t33 t34 t35 t36 t37 t38 : Value), a = { tmps := fr93 E s first slack w.heap.size (w.heap.size + 1) gq gd gf go gx z15 z16 z22 z23 z24 z25 z26 z27 z28 z29 z30 z31 z32 t33 t34 t35 t36 t37 t38, defers := Ds.map fun D => { target := .collected D, args := #[] } } ∧
   qab (St93 E A w w.heap.size gq gd gf go gx slack n o v Ds W ∧ Ds.Nodup ∧ E.At n ∧ cntB n.r < cntB s.r ∧ cntB n.r ≤ k ∧ (E.S n).2.2 = true ∧ slack ≤ (E.S n).2.1 ∧ sameV E.l0 E.l2 E.D E.S slack k n o = sameV E.l0 E.l2 E.D E.S slack 5 ⟨q0, q1, q2⟩ [first] ∧ o.length + cntB n.r ≤ 5)
theorem find_at (p : Int → Bool) (l pre : List Int) (x : Int) (h : pre ++ [x] <+: l) (hn : ∀ i ∈ pre, p i = false) (hx : p x = true) : l.find? p = some x := by
 obtain ⟨t, rfl⟩ := h
 simp only [List.find?_append]
 have h1 : pre.find? p = none := by
  rw [List.find?_eq_none]
  intro i hi
  rw [hn i hi]
  simp
 rw [h1]
 simp [hx]
def IX93 (E : OE) (A : Nat → Prop) (w : World) (gq gd gf go gx : Nat) (slack : Int) (n : Sp) (o : List Int) (Ds : List Nat) (c : Code) (pre : List (LoopOf n.r)) (W : World) : Prop :=
 ∃ (pre0 : List (LoopOf n.r)) (x : LoopOf n.r) (v1 : Value), pre = pre0 ++ [x] ∧ c = .exit 2 ∧ (∀ i ∈ pre0.map (·.1), goodV E.l0 E.l2 E.D E.S slack n i = false) ∧ goodV E.l0 E.l2 E.D E.S slack n x.1 = true ∧ St93 E A w w.heap.size gq gd gf go gx slack (repV E.l0 E.l2 E.D n x.1).1 (o ++ [x.1]) v1 Ds W
theorem allocs7 (w : World) (o1 o2 o3 o4 o5 o6 o7 : Obj) : ∃ w4, ((((((w.alloc o1).alloc o2).alloc o3).alloc o4).alloc o5).alloc o6).alloc o7 = w4 ∧ w4.heap[w.heap.size]? = some o1 ∧ w4.heap[w.heap.size + 1]? = some o2 ∧ w4.heap[w.heap.size + 1 + 1]? = some o3 ∧ w4.heap[w.heap.size + 1 + 1 + 1]? = some o4 ∧
  w4.heap[w.heap.size + 1 + 1 + 1 + 1]? = some o5 ∧ w4.heap[w.heap.size + 1 + 1 + 1 + 1 + 1]? = some o6 ∧ w4.heap[w.heap.size + 1 + 1 + 1 + 1 + 1 + 1]? = some o7 ∧ w4.heap.size = w.heap.size + 7 ∧ Below w.heap.size w w4 := by
 obtain ⟨w4, hw4, a1, a2, a3, a4, hs, hb⟩ := allocs4 w o1 o2 o3 o4
 have h5 := blk_new w4 o5
 have h6 := blk_new (w4.alloc o5) o6
 have h7 := blk_new ((w4.alloc o5).alloc o6) o7
 rw [World.size_alloc] at h6
 rw [World.size_alloc, World.size_alloc] at h7
 rw [hs] at h5 h6 h7
 refine ⟨_, rfl, ?_, ?_, ?_, ?_, ?_, ?_, ?_, ?_, ?_⟩
 all_goals rw [hw4]
 ·
  exact qaj (qaj (qaj a1 _) _) _
 ·
  exact qaj (qaj (qaj a2 _) _) _
 ·
  exact qaj (qaj (qaj a3 _) _) _
 ·
  exact qaj (qaj (qaj a4 _) _) _
 ·
  exact qaj (qaj h5 _) _
 ·
  exact qaj h6 _
 ·
  exact h7
 ·
  simp [hs]
 ·
  exact qae (qae (qae hb _) _) _
theorem R_one {W : World} {g : Nat} {x : Int} {base : Nat} {ok : Nat → Prop} (hb : W.heap[g]? = some (.cells #[.int .i64 x] 3 (0, 0))) (hg : base ≤ g) (hok : ok g) : Kd.R (Kd.int .i64) 3 W base ok (.slice (some ⟨g, 0, none⟩) 1 1) [x] :=
 Kd.R_of_own (h1 := fun _ => rfl) ⟨rfl, .inr ⟨g, 1, _, rfl, hg, hb, Nat.le_refl _, by decide, rfl, rfl⟩⟩ (fun k hk => by
  have : g = k := by simpa [Value.ownBlock] using hk
  exact this ▸ hok)
set_option maxRecDepth 100000 in
set_option maxHeartbeats 8000000 in
theorem same_calls (E : OE) (hE : E.Fit) (s : Sp) (hs : E.At s) (first slack : Int) (hf : first ∈ loopsOf s.r 5) (hrp : (repV E.l0 E.l2 E.D s first).2.2 = true) (hr : (E.S (repV E.l0 E.l2 E.D s first).1).2.2 = true) (hsl : slack ≤ (E.S (repV E.l0 E.l2 E.D s first).1).2.1)
  (IH : ∀ s', E.At s' → cntB s'.r < cntB s.r → SearchC E s') (A : Nat → Prop) (w : World) (hinv : EnvInv E A w) (hA : ∀ k, A k → k < w.heap.size) :
  Calls Try.prog 93 #[.agg (NETC E), .agg #[.int .i64 s.p, .int .i64 s.h, .int .i64 s.r], .int .i64 first, .int .i64 slack, .slice E.Ad E.D.length E.cd, SEARCHF E] w fun e w' =>
   ∃ v, e = .returned v ∧ E.Row A w' v (sameV E.l0 E.l2 E.D E.S slack 5 (repV E.l0 E.l2 E.D s first).1 [first]) ∧ EnvInv E A w' ∧ KB (fun k => k = E.m) w w' := by
 have hu99 := Try.underlying99
 have hu123 := Try.underlying123
 have hu26 := Try.underlying26
 have HB := qab.mk (Below.refl w.heap.size w)
 have hx05 : 0 ≤ first ∧ first < 5 := by
  obtain ⟨xk, hxk, hxk5, _⟩ := (mem_loopsOf s.r 5 first).1 hf
  omega
 have hx5 := hs.2.2.2 first hf
 have hrep : ∀ W, Below E.w0.heap.size E.w0 W → (Kd.int .i64).C W E.Ad E.D.length E.D → Calls Try.prog 92 #[.agg (NETC E), .agg #[.int .i64 s.p, .int .i64 s.h, .int .i64 s.r], .int .i64 first, .slice E.Ad E.D.length E.cd] W fun e w' =>
   e = .returned (.tuple #[spV (repV E.l0 E.l2 E.D s first).1, .int .i64 (repV E.l0 E.l2 E.D s first).2.1, .bool (repV E.l0 E.l2 E.D s first).2.2]) ∧ Below W.heap.size W w' := fun W hW hC =>
  repaired_calls _ _ _ _ _ _ _ _ s first _ _ E.D W (Kd.qam hE.r0 hW) (Kd.qam hE.r2 hW) hC hs.2.1 (by have := hE.h2; have := hs.2.2.1; omega) (by omega) hx5 (by rw [hE.hrow s.p hs.2.1 hs.2.2.1]; omega) (by rw [hE.hD]; omega) (by omega)
 have hnx := hs.next hf hrp
 rw [hrp] at hrep
 generalize hq : repV E.l0 E.l2 E.D s first = q at hrep hnx hr hsl ⊢
 obtain ⟨⟨q0, q1, q2⟩, ow, can⟩ := q
 simp only [spV_eq] at hrep
 try dsimp only at hrep hnx hr hsl ⊢
 have HREP := qab.mk hrep
 have HNX := qab.mk hnx
 have HSL := qab.mk (And.intro hr hsl)
 have HI := qab.mk hinv
 have HIH := qab.mk IH
 clear IH hs hinv hrep hnx hr hsl hq hrp hf hx5
 refine (callsIn_wide (n := 12)).1 ?_
 refine callsIn_of_wp_marks Try.func93 rfl trivial ?_ rfl
 refine wpIn_wide.2 ?_
 simp only [Try.ntmps93, List.size_toArray, List.length_cons, List.length_nil, Nat.reduceAdd, Nat.reduceSub, Array.replicate_succ, Array.replicate_zero, List.push_toArray, List.append_toArray, List.nil_append, List.cons_append]
 have HW0 : qab (E.w0.heap.size ≤ w.heap.size) := ⟨HI.out.hb.size⟩
 go_wp2_with fail
 obtain ⟨w8, hw8, bn, bs, bq, bd, bf, bv, bo, hsz, hb⟩ := allocs7 w (.cells (NETC E) 99) (.cells #[.int .i64 s.p, .int .i64 s.h, .int .i64 s.r] 123) (.cells #[.int .i64 slack] 3) (.cells #[.slice E.Ad E.D.length E.cd] 47) (.cells #[SEARCHF E] 121) (.cells #[.int .i64 first] 3) (.cells #[.slice (some ⟨w.heap.size + 1 + 1 + 1 + 1 + 1, 0, none⟩) 1 1] 47)
 rw [hw8]
 clear hw8
 have hbe : Below E.w0.heap.size E.w0 w8 := HI.out.hb.trans (hb.mono HW0.out)
 refine (HREP.out w8 hbe (Kd.qam (Kd.R_reads' HI.out.due).2.2 hb)).mono ?_
 rintro e w9 ⟨rfl, hb9⟩
 have ROW := qab.mk (Kd.R_below (R_one (base := E.w0.heap.size) (ok := fun k => w.heap.size ≤ k ∧ k ≠ w.heap.size + 1 + 1) bv (by have := HW0.out; omega) ⟨by omega, by omega⟩) hb9)
 replace bn := qab.mk (qah bn hb9)
 replace bq := qab.mk (qah bq hb9)
 replace bd := qab.mk (qah bd hb9)
 replace bf := qab.mk (qah bf hb9)
 replace bo := qab.mk (qah bo hb9)
 have hsz9 : w.heap.size + 7 ≤ w9.heap.size := by have := hb9.size; omega
 have HB9 := qab.mk (qag hb hb9)
 clear hb hb9 hbe bs bv hsz
 have hwn : w9.heap.size = w9.heap.size := rfl
 go_wp2_with fail
 refine (wpIn_wide (n := 12)).1 ?_
 have St0 : St93 E A w w.heap.size (w.heap.size + 1 + 1) (w.heap.size + 1 + 1 + 1) (w.heap.size + 1 + 1 + 1 + 1) (w.heap.size + 1 + 1 + 1 + 1 + 1 + 1) w9.heap.size slack ⟨q0, q1, q2⟩ [first] (.slice (some ⟨w.heap.size + 1 + 1 + 1 + 1 + 1, 0, none⟩) 1 1) [] (w9.alloc (.cells #[.int .i64 q0, .int .i64 q1, .int .i64 q2] 123)) := by
  have hb10 := qae (Below.refl w9.heap.size w9) (.cells #[.int .i64 q0, .int .i64 q1, .int .i64 q2] 123)
  have hbw := HB9.out.alloc HB9.out.size (.cells #[.int .i64 q0, .int .i64 q1, .int .i64 q2] 123)
  refine ⟨?_, qah bn.out hb10, qah bq.out hb10, qah bd.out hb10, qah bf.out hb10, qah bo.out hb10, blk_new _ _, Kd.R_below ROW.out hb10, KB.of_below hbw _, ⟨by omega, by omega⟩, by simp⟩
  refine (HI.out.imp (A' := fun k => A k ∨ k = w.heap.size + 1 + 1 + 1 + 1 + 1 + 1 ∨ k = w9.heap.size ∨ some k = (Value.slice (some ⟨w.heap.size + 1 + 1 + 1 + 1 + 1, 0, none⟩) 1 1).ownBlock) (fun k hk => ?_)).step (KB.of_below hbw _)
  have hwe := HW0.out
  rcases hk with hk | hk | hk | hk
  ·
   exact ⟨HI.out.lo k hk, .inl hk⟩
  ·
   exact ⟨by omega, .inr (by omega)⟩
  ·
   exact ⟨by omega, .inr (by omega)⟩
  ·
   have : k = w.heap.size + 1 + 1 + 1 + 1 + 1 := by simpa [Value.ownBlock] using hk
   exact ⟨by omega, .inr (by omega)⟩
 have hne : w.heap.size ≠ w.heap.size + 1 + 1 + 1 + 1 + 1 + 1 ∧ w.heap.size ≠ w9.heap.size ∧ w.heap.size + 1 + 1 ≠ w.heap.size + 1 + 1 + 1 + 1 + 1 + 1 ∧ w.heap.size + 1 + 1 ≠ w9.heap.size ∧ w.heap.size + 1 + 1 + 1 ≠ w.heap.size + 1 + 1 + 1 + 1 + 1 + 1 ∧ w.heap.size + 1 + 1 + 1 ≠ w9.heap.size ∧ w.heap.size + 1 + 1 + 1 + 1 ≠ w.heap.size + 1 + 1 + 1 + 1 + 1 + 1 ∧ w.heap.size + 1 + 1 + 1 + 1 ≠ w9.heap.size ∧ w.heap.size + 1 + 1 + 1 + 1 + 1 + 1 ≠ w9.heap.size := by omega
 clear bn bq bd bf bo ROW HB9 hwn
 have ST0 := qab.mk St0
 have HNE := qab.mk hne
 clear St0 hne
 generalize w9.alloc (.cells #[.int .i64 q0, .int .i64 q1, .int .i64 q2] 123) = W0 at ST0 ⊢
 generalize w9.heap.size = gx at ST0 HNE hsz9 ⊢
 generalize w.heap.size + 1 + 1 + 1 + 1 + 1 + 1 = go at ST0 HNE ⊢
 generalize w.heap.size + 1 + 1 + 1 + 1 = gf at ST0 HNE ⊢
 generalize w.heap.size + 1 + 1 + 1 = gd at ST0 HNE ⊢
 generalize w.heap.size + 1 + 1 = gq at ST0 HNE ⊢
 refine wpIn_loop (LI93 E A w s first slack gq gd gf go gx q0 q1 q2)
  (fun _ W => mu93 gx W) ?h0 ?round
 case h0 =>
  have hnx := HNX.out
  have hc5 := cnt_le s.r
  have hnx2 : cntB q2 + 1 = cntB s.r := hnx.2
  exact ⟨⟨q0, q1, q2⟩, [first], _, 5, [], _, _, _, _, _, _, _, _, _, _, _, _, _, _, _, _, _, _, _, rfl, ⟨ST0.out, by simp, hnx.1, by show cntB q2 < _; omega, by show cntB q2 ≤ _; omega, HSL.out.1, HSL.out.2, rfl, by show 1 + cntB q2 ≤ 5; omega⟩⟩
 case round =>
  rintro a W ⟨n, o, v, k, Ds, z15, z16, z22, z23, z24, z25, z26, z27, z28, z29, z30, z31, z32, t33, t34, t35, t36, t37, t38, rfl, HST⟩
  refine wpIn_wide.2 ?_
  unfold fr93
  have hn0 : 0 ≤ n.r := HST.out.2.2.1.1.1
  have hc2 : W.cell? ⟨gx, 2, none⟩ = some (.int .i64 n.r) := qaa HST.out.1.xx 2
  by_cases hz : n.r = 0
  ·
   have hzb : (n.r != 0) = false := by simp [hz]
   have hco : W.cell? ⟨go, 0, none⟩ = some v := qaa HST.out.1.xo 0
   go_wp2_with fail
   have hst := HST.out
   have hm := HI.out.map.lt
   refine leave93 E (fun k => A k ∨ k = go ∨ k = gx ∨ some k = v.ownBlock) w _ v o (fun k => w.heap.size ≤ k ∧ k ≠ gq) hm HW0.out rfl _ ?_ Ds W hst.2.1 hst.1.marks hst.1.env hst.1.row hst.1.kb
   intro W' he hr hk
   have hout : sameV E.l0 E.l2 E.D E.S slack k n o = o := by
    cases k with
    | zero => rfl
    | succ k => unfold sameV; rw [if_pos hz]
   rw [← hst.2.2.2.2.2.2.2.1, hout]
   refine ⟨v, rfl, Kd.R_mono hr (fun k hk => ⟨by omega, fun ha => by have := hA k ha; omega⟩), he.imp (fun k hk => ⟨HI.out.lo k hk, .inl (.inl hk)⟩), hk⟩
  ·
   have hzb : (n.r != 0) = true := by simp [hz]
   go_wp2_with (go_at_call 76; refine (loops_calls n.r W).mono ?_; rintro e W1 ⟨BB, rfl, hBB, hge, hb⟩)
   refine (wpIn_wide (n := 12)).1 ?_
   have hst1 := HST.out.1.below hb
   have hlt1 : BB < W1.heap.size := blk_lt hBB
   have hDs1 : ∀ D ∈ Ds, D < W1.heap.size := fun D hD => blk_lt (hst1.marks D hD).1
   have hwW1 : w.heap.size ≤ W1.heap.size := hst1.kb.size
   have hmw := HI.out.map.lt
   have hAt := HST.out.2.2.1
   have hcs := HST.out.2.2.2.1
   have hkW := HST.out
   have HST1 := qab.mk hst1
   refine wpIn_rangeFunc_ownG rfl (by omega) (gf := 97) (lb := #[.pointer (some ⟨BB, 0, none⟩)]) rfl trivial (enters_of Try.func97 (by kernel_rfl) rfl) (loops_stops _ (by omega) n.r hn0 BB W1 hBB) (fun h k => KeptAt.trans h k) (keptAt_put hlt1) (Below.refl _ _) (fun _ => rfl)
    (fun (pre : List (LoopOf n.r)) W => St93 E A w w.heap.size gq gd gf go gx slack n o v Ds W ∧ BB < W.heap.size ∧ ∀ i ∈ pre.map (fun y : LoopOf n.r => y.1), goodV E.l0 E.l2 E.D E.S slack n i = false)
    (IX93 E A w gq gd gf go gx slack n o Ds)
    (fun s A B row hs hg hr => ⟨hs.1.own hwW1 HW0.out hmw hDs1 hg hr, Nat.lt_of_lt_of_le hs.2.1 hg.size, hs.2.2⟩)
    (fun c s A B row hs hg hr => by
     obtain ⟨p0, x, v1, e1, e2, e3, e4, e5⟩ := hs
     exact ⟨p0, x, v1, e1, e2, e3, e4, e5.own hwW1 HW0.out hmw hDs1 hg hr⟩)
    ⟨hst1, hlt1, by simp⟩
    (fun x => { tmps := #[.agg (NETC E), .agg #[.int .i64 s.p, .int .i64 s.h, .int .i64 s.r], .int .i64 first, .int .i64 slack, .slice E.Ad E.D.length E.cd, SEARCHF E, .pointer (some ⟨w.heap.size, 0, none⟩), .pointer (some ⟨w.heap.size + 1, 0, none⟩), undef, .pointer (some ⟨gq, 0, none⟩), .pointer (some ⟨gd, 0, none⟩), .pointer (some ⟨gf, 0, none⟩), .slice none 0 0, .pointer (some ⟨go, 0, none⟩), .pointer (some ⟨gx, 0, none⟩), z15, z16, .int .i64 x.1, undef, undef, undef, undef, z22, z23, z24, z25, z26, z27, z28, z29, z30, z31, z32, .pointer (some ⟨gx, 2, none⟩), .int .i64 n.r, .bool true, .pointer (some ⟨gx, 2, none⟩), .int .i64 n.r, .func (.func 97) #[] #[.pointer (some ⟨BB, 0, none⟩)], .int .i64 x.1, undef, undef, undef, undef, undef, undef, undef, undef, undef, undef, undef, undef, undef, undef, undef, undef, undef, undef, undef, undef, undef, undef, undef, undef, undef, undef, undef, undef, undef, undef, undef, undef, undef], defers := [] }) ?assign ?body ?done ?stop
   case assign =>
    intro l x W K hK
    gi_wp2
    exact hK
   case body =>
    rintro l pre ⟨x, hxm⟩ W2 ⟨hst, hBB2, hng⟩ _
    have hx05' : 0 ≤ x ∧ x < 5 := by
     obtain ⟨xk, hxk, hxk5, _⟩ := (mem_loopsOf n.r 5 x).1 hxm
     omega
    have hx5 := hAt.2.2.2 x hxm
    have hrep2 : Calls Try.prog 92 #[.agg (NETC E), .agg #[.int .i64 n.p, .int .i64 n.h, .int .i64 n.r], .int .i64 x, .slice E.Ad E.D.length E.cd] W2 fun e w' =>
      e = .returned (.tuple #[spV (repV E.l0 E.l2 E.D n x).1, .int .i64 (repV E.l0 E.l2 E.D n x).2.1, .bool (repV E.l0 E.l2 E.D n x).2.2]) ∧ Below W2.heap.size W2 w' :=
     repaired_calls _ _ _ _ _ _ _ _ n x _ _ E.D W2 (Kd.qam hE.r0 hst.env.hb) (Kd.qam hE.r2 hst.env.hb) (Kd.R_reads' hst.env.due).2.2 hAt.2.1 (by have := hE.h2; have := hAt.2.2.1; omega) (by omega) hx5 (by rw [hE.hrow n.p hAt.2.1 hAt.2.2.1]; omega) (by rw [hE.hD]; omega) (by omega)
    have hnx3 : (repV E.l0 E.l2 E.D n x).2.2 = true → E.At (repV E.l0 E.l2 E.D n x).1 ∧ cntB (repV E.l0 E.l2 E.D n x).1.r + 1 = cntB n.r := fun h => hAt.next hxm h
    have hgood : goodV E.l0 E.l2 E.D E.S slack n x = ((repV E.l0 E.l2 E.D n x).2.2 && decide (slack ≤ (repV E.l0 E.l2 E.D n x).2.1) && (E.S (repV E.l0 E.l2 E.D n x).1).2.2 && decide (slack ≤ (E.S (repV E.l0 E.l2 E.D n x).1).2.1)) := rfl
    generalize hq2 : repV E.l0 E.l2 E.D n x = q at hrep2 hnx3 hgood
    obtain ⟨⟨y0, y1, y2⟩, ow2, can2⟩ := q
    simp only [spV_eq] at hrep2
    try dsimp only at hrep2 hnx3 hgood
    have HQ2 := qab.mk hq2
    have HST2 := qab.mk hst
    have NO : ∀ (a : Act) (W' : World), St93 E A w w.heap.size gq gd gf go gx slack n o v Ds W' → KB (fun k => k = E.m) W2 W' → goodV E.l0 E.l2 E.D E.S slack n x = false →
      ownPostG W1.heap.size (KeptAt BB) (fun (pre : List (LoopOf n.r)) W => St93 E A w w.heap.size gq gd gf go gx slack n o v Ds W ∧ BB < W.heap.size ∧ ∀ i ∈ pre.map (fun y : LoopOf n.r => y.1), goodV E.l0 E.l2 E.D E.S slack n i = false)
       (IX93 E A w gq gd gf go gx slack n o Ds)
       (pre ++ [(⟨x, hxm⟩ : LoopOf n.r)]) W2 .normal a W' := by
     intro a W' hs hk hg
     refine ⟨hk.from (fun k e => by omega), hk.block BB hBB2 (by have := hst1.kb.size; have := HST.out.1.kb.size; omega), hs, Nat.lt_of_lt_of_le hBB2 hk.size, ?_⟩
     intro i hi
     rw [List.map_append, List.mem_append] at hi
     rcases hi with hi | hi
     ·
      exact hng i hi
     ·
      simp only [List.map_cons, List.map_nil, List.mem_singleton] at hi
      rw [hi]
      exact hg
    have HNO := qab.mk NO
    have HNX3 := qab.mk hnx3
    have HG := qab.mk hgood
    have HNG := qab.mk hng
    have HLEN : qab (o.length ≤ 5) := ⟨by have := hkW.2.2.2.2.2.2.2.2; omega⟩
    have hca0 : W2.cell? ⟨w.heap.size, 0, none⟩ = some (.slice E.A0 E.l0.length E.c0) := qaa hst.xn 0
    have hca1 : W2.cell? ⟨w.heap.size, 1, none⟩ = some (.slice E.A1 E.l1.length E.c1) := qaa hst.xn 1
    have hca2 : W2.cell? ⟨w.heap.size, 2, none⟩ = some (.slice E.A2 E.l2.length E.c2) := qaa hst.xn 2
    have hca3 : W2.cell? ⟨w.heap.size, 3, none⟩ = some (.int .i64 E.wp) := qaa hst.xn 3
    have hcb0 : W2.cell? ⟨gx, 0, none⟩ = some (.int .i64 n.p) := qaa hst.xx 0
    have hcb1 : W2.cell? ⟨gx, 1, none⟩ = some (.int .i64 n.h) := qaa hst.xx 1
    have hcb2 : W2.cell? ⟨gx, 2, none⟩ = some (.int .i64 n.r) := qaa hst.xx 2
    have hcd0 : W2.cell? ⟨gd, 0, none⟩ = some (.slice E.Ad E.D.length E.cd) := qaa hst.xd 0
    clear NO hnx3 hgood hng hst hq2 hx5 hAt hkW HST hst1 hc2 hz hzb
    gi_wp2
    refine ⟨trivial, (CallsIn.inRound l (callsIn_wide.2 hrep2)).mono ?_⟩
    rintro e W3 ⟨rfl, hb3⟩
    clear hrep2 hca0 hca1 hca2 hca3 hcb0 hcb1 hcb2 hcd0
    have hb4 := qae hb3 (.cells #[.int .i64 y0, .int .i64 y1, .int .i64 y2] 123)
    have st4 := HST2.out.below hb4
    have BY := blk_new W3 (.cells #[.int .i64 y0, .int .i64 y1, .int .i64 y2] 123)
    have hcq4 : (W3.alloc (.cells #[.int .i64 y0, .int .i64 y1, .int .i64 y2] 123)).cell? ⟨gq, 0, none⟩ = some (.int .i64 slack) := qaa st4.xq 0
    have hcf4 : (W3.alloc (.cells #[.int .i64 y0, .int .i64 y1, .int .i64 y2] 123)).cell? ⟨gf, 0, none⟩ = some (SEARCHF E) := qaa st4.xf 0
    have ST4 := qab.mk st4
    have HB4 := qab.mk hb4
    have HBY := qab.mk BY
    clear st4 hb4 BY hb3
    cases can2 with
    | false =>
     gi_wp2
     exact HNO.out _ _ ST4.out (KB.of_below HB4.out _) (by rw [HG.out]; rfl)
    | true =>
     by_cases hos : ow2 < slack
     ·
      gi_wp2
      exact HNO.out _ _ ST4.out (KB.of_below HB4.out _) (by rw [HG.out]; simp; omega)
     ·
      gi_wp2
      have hnx4 := HNX3.out (by simp)
      have hsr := HIH.out ⟨y0, y1, y2⟩ hnx4.1 (by have := hnx4.2; show cntB y2 < _; omega) (fun k => A k ∨ k = go ∨ k = gx ∨ some k = v.ownBlock) _ ST4.out.env (ST4.out.lt hA)
      simp only [spV_eq] at hsr
      refine ⟨trivial, (CallsIn.inRound l (callsIn_wide.2 hsr)).mono ?_⟩
      rintro e W5 ⟨v2, rfl, hrow2, henv, hkb⟩
      obtain ⟨vA, vn, vc, rfl⟩ := R_shape hrow2
      clear hrow2
      have st5 := ST4.out.after henv hkb
      have k5 := (KB.of_below HB4.out (fun k => k = E.m)).trans hkb (fun k e => .inl e)
      have by5 := hkb.blk HBY.out (fun e => ST4.out.env.map.noCells HBY.out e)
      generalize E.S ⟨y0, y1, y2⟩ = S2 at HG ⊢
      obtain ⟨So, Ss, Sr⟩ := S2
      try dsimp only at HG
      clear hsr henv hkb hcf4 hcq4
      have hb6 := qae (Below.refl W5.heap.size W5) (.cells #[.slice vA vn vc, .int .i64 Ss, .bool Sr] 97)
      have st6 := st5.below hb6
      have k6 := k5.then_below hb6
      have by6 := qah by5 hb6
      have bz6 := blk_new W5 (.cells #[.slice vA vn vc, .int .i64 Ss, .bool Sr] 97)
      have hcq6 : (W5.alloc (.cells #[.slice vA vn vc, .int .i64 Ss, .bool Sr] 97)).cell? ⟨gq, 0, none⟩ = some (.int .i64 slack) := qaa st6.xq 0
      have ST6 := qab.mk st6
      have K6 := qab.mk k6
      have BY6 := qab.mk by6
      clear st5 st6 k5 k6 by5 by6 bz6 hb6 HBY ST4 HB4
      cases Sr with
      | false =>
       gi_wp2
       exact HNO.out _ _ ST6.out K6.out (by rw [HG.out]; simp)
      | true =>
       by_cases hos2 : slack ≤ Ss
       ·
        gi_wp2
        have st6 := ST6.out
        have k6 := K6.out
        have by6 := BY6.out
        generalize W5.alloc (.cells #[.slice vA vn vc, .int .i64 Ss, .bool true] 97) = W6 at st6 k6 by6 ⊢
        generalize W3.heap.size = gy at by6 ⊢
        clear ST6 K6 BY6 hcq6
        obtain ⟨oA, on, oc, rfl⟩ := R_shape st6.row
        have hsz6 : ∀ k, W6.heap.size ≤ k → w.heap.size ≤ k ∧ k ≠ gq := fun k hk => ⟨Nat.le_trans st6.kb.size hk, fun e => by have := blk_lt st6.xq; omega⟩
        obtain ⟨v1, w1, hrun, hR1, hg1, hat1⟩ := int_append_run W6.drew (.slice oA on oc) o x E.w0.heap.size _ (Kd.R_drew st6.row) (Nat.le_trans HW0.out st6.kb.size) (by have := HLEN.out; omega) hsz6
        obtain ⟨pA, pn, pc, rfl⟩ := R_shape hR1
        have hg1' : W6.grownBy w1 (Value.slice oA on oc).ownBlock := ⟨hg1.os, hg1.tape, hg1.output, hg1.size, hg1.block⟩
        have hrun' : (Builtin.append_ #[47, 47] 47 #[.slice oA on oc, .slice (some ⟨W6.heap.size, 0, none⟩) 1 1]).run Try.prog (W6.drew.alloc (.cells #[.int .i64 x] 3)) = .ok (.slice pA pn pc) w1 := hrun
        have push := st6.push (n' := ⟨y0, y1, y2⟩) HW0.out HNE.out hR1 hg1' hat1
        dsimp only at push
        have bo6 := st6.xo
        have bx6 := st6.xx
        have bo1 := blk_grown bo6 hg1' (Kd.R_ne st6.row bo6 (by decide))
        have bx1 := blk_grown bx6 hg1' (Kd.R_ne st6.row bx6 (by decide))
        have by1 := blk_grown by6 hg1' (Kd.R_ne st6.row by6 (by decide))
        have nex : gx ≠ go := HNE.out.2.2.2.2.2.2.2.2.symm
        have ney : gy ≠ go := blk_ne by6 bo6 (by decide)
        have hKF : KeepsFrom W1.heap.size W2 ((((w1.setCell ⟨go, 0, none⟩ (.slice pA pn pc)).setCell ⟨gx, 0, none⟩ (.int .i64 y0)).setCell ⟨gx, 1, none⟩ (.int .i64 y1)).setCell ⟨gx, 2, none⟩ (.int .i64 y2)) := by
         refine ⟨by simpa using Nat.le_trans k6.size hg1'.size, fun k ob hB hk hc => ?_⟩
         have e6 : W6.heap[k]? = some ob := k6.blk hk (by omega)
         have e1 : w1.heap[k]? = some ob := (hg1'.block k (blk_lt e6) (fun e => by
          obtain ⟨cells, hcc⟩ := Kd.R_typed st6.row k e.symm
          rw [e6] at hcc
          injection hcc with hcc
          subst hcc
          cases hc)).trans e6
         have ng : k ≠ go := fun e => by
          subst e
          rw [bo1] at e1
          injection e1 with e1
          subst e1
          cases hc
         have nx : k ≠ gx := fun e => by
          subst e
          rw [bx1] at e1
          injection e1 with e1
          subst e1
          cases hc
         exact (Below.heap_setCell _ ⟨gx, 2, none⟩ _ k nx).trans ((Below.heap_setCell _ ⟨gx, 1, none⟩ _ k nx).trans ((Below.heap_setCell _ ⟨gx, 0, none⟩ _ k nx).trans ((Below.heap_setCell _ ⟨go, 0, none⟩ _ k ng).trans e1)))
        have hIx : IX93 E A w gq gd gf go gx slack n o Ds (.exit 2) (pre ++ [(⟨x, hxm⟩ : LoopOf n.r)]) ((((w1.setCell ⟨go, 0, none⟩ (.slice pA pn pc)).setCell ⟨gx, 0, none⟩ (.int .i64 y0)).setCell ⟨gx, 1, none⟩ (.int .i64 y1)).setCell ⟨gx, 2, none⟩ (.int .i64 y2)) := by
         refine ⟨pre, ⟨x, hxm⟩, .slice pA pn pc, rfl, rfl, HNG.out, ?_, ?_⟩
         ·
          rw [HG.out]
          simp
          omega
         ·
          show St93 E A w w.heap.size gq gd gf go gx slack (repV E.l0 E.l2 E.D n x).1 (o ++ [x]) _ Ds _
          rw [HQ2.out]
          exact push
        have HKF := qab.mk hKF
        have HIX := qab.mk hIx
        clear hKF hIx push HNO HNG HG HQ2 k6 hR1 hg1 hat1 hg1' hsz6 hnx4
        refine region10 (gx := gx) (go := go) (gy := gy) (x := 0) (oA := oA) (pA := pA) (on := on) (oc := oc) (pn := pn) (pc := pc) (xi := x) (y0 := y0) (y1 := y1) (y2 := y2) (n0 := n.p) (n1 := n.h) (n2 := n.r) rfl rfl rfl rfl rfl rfl rfl rfl (by kernel_rfl) ⟨rfl, rfl, rfl, rfl, rfl, fun h => (by cases h), fun h => (by cases h), fun h => (by cases h), fun h => (by cases h), fun h => (by cases h)⟩ bo6 by6 hrun' bo1 by1 bx1 nex ney (fun a' => ?_)
        clear bo6 by6 hrun' bo1 by1 bx1 bx6 hrun
        gi_wp2
        exact ⟨HKF.out, HIX.out⟩
       ·
        gi_wp2
        exact HNO.out _ _ ST6.out K6.out (by rw [HG.out]; simp; omega)
   case done =>
    rintro D2 xs W2 hD2 hSx ⟨hst, _, hng⟩ hK
    exfalso
    rw [hSx] at hng
    obtain ⟨i, hi⟩ := good_some E.l0 E.l1 E.l2 E.D n hAt.1 hz slack hkW.2.2.2.2.2.1 hkW.2.2.2.2.2.2.1
    have h1 := List.find?_some hi
    have h2 := hng i (List.mem_of_find?_eq_some hi)
    have h3 : goodV E.l0 E.l2 E.D E.S slack n i = true := h1
    rw [h3] at h2
    cases h2
   case stop =>
    rintro D2 c pre W2 hD2 hSp ⟨pre0, x, v1, rfl, rfl, hng, hgx, hst⟩ hK
    have hpre : (pre0 ++ [x]).map (·.1) <+: loopsOf n.r 5 := hSp
    have hfind := find_at (goodV E.l0 E.l2 E.D E.S slack n) (loopsOf n.r 5) (pre0.map (·.1)) x.1 (by simpa using hpre) hng hgx
    have hgx2 := hgx
    unfold goodV at hgx2
    simp only [Bool.and_eq_true, decide_eq_true_eq] at hgx2
    have hnx2 := hAt.next x.2 hgx2.1.1.1
    have hc0 : cntB n.r ≠ 0 := fun e => hz ((cnt_zero n.r hAt.1.1 hAt.1.2).1 e)
    obtain ⟨k', rfl⟩ : ∃ k', k = k' + 1 := ⟨k - 1, by have := hkW.2.2.2.2.1; omega⟩
    have hsame : sameV E.l0 E.l2 E.D E.S slack (k' + 1) n o = sameV E.l0 E.l2 E.D E.S slack k' (repV E.l0 E.l2 E.D n x.1).1 (o ++ [x.1]) := by
     conv => lhs; unfold sameV
     rw [if_neg hz, hfind]
    have hxx : W2.cell? ⟨gx, 2, none⟩ = some (.int .i64 (repV E.l0 E.l2 E.D n x.1).1.r) := qaa hst.xx 2
    have hDnew : D2 ∉ Ds := fun hD => by have := hDs1 D2 hD; omega
    have hlw := hkW
    have hLI : ∀ (t33 t34 t35 t36 t37 t38 : Value), LI93 E A w s first slack gq gd gf go gx q0 q1 q2 { tmps := fr93 E s first slack w.heap.size (w.heap.size + 1) gq gd gf go gx z15 z16 z22 z23 z24 z25 z26 z27 z28 z29 z30 z31 z32 t33 t34 t35 t36 t37 t38, defers := { target := .collected D2, args := #[] } :: Ds.map fun D => { target := .collected D, args := #[] } } W2 := by
     intro t33 t34 t35 t36 t37 t38
     refine ⟨_, o ++ [x.1], v1, k', D2 :: Ds, z15, z16, z22, z23, z24, z25, z26, z27, z28, z29, z30, z31, z32, t33, t34, t35, t36, t37, t38, rfl, ⟨⟨hst.env, hst.xn, hst.xq, hst.xd, hst.xf, hst.xo, hst.xx, hst.row, hst.kb, hst.lo, ?_⟩, ?_, hnx2.1, by omega, ?_, hgx2.1.2, hgx2.2, ?_, ?_⟩⟩
     ·
      intro D hD
      rcases List.mem_cons.1 hD with rfl | hD
      ·
       exact ⟨hK, by omega⟩
      ·
       exact hst.marks D hD
     ·
      exact List.nodup_cons.2 ⟨hDnew, hlw.2.1⟩
     ·
      have := hlw.2.2.2.2.1
      omega
     ·
      rw [← hsame]
      exact hlw.2.2.2.2.2.2.2.1
     ·
      have := hlw.2.2.2.2.2.2.2.2
      simp
      omega
    have HLI := qab.mk hLI
    have HMU : qab (mu93 gx W2 < mu93 gx W) := ⟨by rw [mu93_eq hxx, mu93_eq hc2]; omega⟩
    clear hLI hng hgx2 hgx hkW hlw hfind hsame hDs1
    gi_wp2
    exact ⟨HLI.out _ _ _ _ _ _, HMU.out⟩
end Go.Proofs.Ytipphcjgdebecaa.PA
