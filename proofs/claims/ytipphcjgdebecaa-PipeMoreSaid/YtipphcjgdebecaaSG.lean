/- What functions of the program answer. No condition. -/
import Derived.Test.YtipphcjgdebecaaSC
import Derived.Test.YtipphcjgdebecaaSD
import Derived.Test.YtipphcjgdebecaaSF
set_option linter.all false
set_option maxRecDepth 100000
set_option maxHeartbeats 8000000
namespace Go.Proofs.Ytipphcjgdebecaa.PA
open Go.RowKit Go.Proofs.YtipphcjgdebecaaW.PrintWords Go.Proofs.YtipphcjgdebecaaW.PrintLast Go.Proofs.YtipphcjgdebecaaW.PrintMore
attribute [local go_sem] qas qau max_two min_two qao qap qat qav
abbrev Heat4 := Int × Int × Int × Int
def feedV (L : S39) (T : S44) : Int := if T.f2 = true then L.f6 else 0
def lossI (leak frost warm feed : Int) : Int := mn (wrap64 (Int.tdiv (wrap64 (leak * (wrap64 (warm + frost)))) 1000)) (wrap64 (warm + feed))
def groundV (L : S39) (lost : Int) : Int := wrap64 (Int.tdiv (wrap64 (wrap64 (lost * L.f4) * L.f5)) 1000)
def sumV (l : List Int) : Int := l.foldl (fun a x => wrap64 (a + x)) 0
def stepH (L : S39) (T : S44) (x : Heat4) : Heat4 :=
 (sumV [x.1, feedV L T, wrap64 (-(lossI T.f0 T.f1 x.1 (feedV L T)))], sumV [x.2.1, wrap64 (feedV L T * L.f4)], sumV [x.2.2.1, groundV L (lossI T.f0 T.f1 x.1 (feedV L T))],
  sumV [x.2.2.2, wrap64 (lossI T.f0 T.f1 x.1 (feedV L T) * L.f4), wrap64 (-(groundV L (lossI T.f0 T.f1 x.1 (feedV L T))))])
def playGo (L : S39) : List S44 → List S37 → Heat4 → Option Heat4
 | [], _, x => some x
 | _ :: _, [], _ => none
 | T :: ts, F :: fs, x => if (inB T.f0 L.f1.f0 L.f1.f1 && inB T.f1 F.f0 F.f1) = true then playGo L ts fs (stepH L T x) else none
def heatR : Option Heat4 → Int × Int × Int × Int × Int
 | none => (0, 0, 0, 0, 2)
 | some x => (x.1, x.2.1, x.2.2.1, x.2.2.2, 0)
def playV (l0 : List S39) (l1 : List S37) (l2 : List (List Int)) (a1 a2 : Int) (l3 : List S44) : Int × Int × Int × Int × Int :=
 if (l1.length : Int) < (l3.length : Int) then (0, 0, 0, 0, 3)
 else if (validB l0 l1 l2 && (inB a1 0 (wrap64 ((l0.length : Int) - 1)) && inB a2 (qaj l0 a1).f0.f0 (qaj l0 a1).f0.f1)) = true then heatR (playGo (qaj l0 a1) l3 l1 (a2, 0, 0, 0))
 else (0, 0, 0, 0, 2)
theorem playGo_step (L : S39) (l3 : List S44) (l1 : List S37) (k : Nat) (h3 : k < l3.length) (h1 : k < l1.length) (x : Heat4) :
  playGo L (l3.drop k) (l1.drop k) x = if (inB (rd_T44 l3 k).f0 L.f1.f0 L.f1.f1 && inB (rd_T44 l3 k).f1 (rd_T37 l1 k).f0 (rd_T37 l1 k).f1) = true then playGo L (l3.drop (k + 1)) (l1.drop (k + 1)) (stepH L (rd_T44 l3 k) x) else none := by
 rw [List.drop_eq_getElem_cons h3, List.drop_eq_getElem_cons h1]
 have e3 : rd_T44 l3 k = l3[k] := by simp [rd_T44, h3]
 have e1 : rd_T37 l1 k = l1[k] := by simp [rd_T37, h1]
 rw [e3, e1]
 rfl
theorem sum_go (l : List Int) (hl : l.length ≤ 1000) : ∀ (k j : Nat) (s : Int), l.length - j < k → j ≤ l.length → pipe_sum.l0 k s l (l.length : Int) (j : Int) = some ((l.drop j).foldl (fun a x => wrap64 (a + x)) s) := by
 intro k
 induction k with
 | zero => intro j s h; omega
 | succ k ih =>
  intro j s h hj
  unfold pipe_sum.l0
  by_cases hlt : j < l.length
  ·
   rw [if_pos (by omega), if_pos (by omega), if_pos (by omega)]
   have hw : wrap64 ((j : Int) + 1) = ((j + 1 : Nat) : Int) := by unfold wrap64; omega
   rw [hw, ih (j + 1) _ (by omega) (by omega), List.drop_eq_getElem_cons hlt]
   have e : rd l j = l[j] := by simp [rd, hlt]
   rw [e]
   rfl
  ·
   rw [if_neg (by omega), List.drop_eq_nil_of_le (by omega)]
   rfl
theorem sum_some (l : List Int) (hl : l.length ≤ 1000) : pipe_sum.f (l.length + 1) l = some (sumV l) := sum_go l hl _ 0 0 (by omega) (by omega)
theorem sum_new_calls (W : World) (xs : List Int) (hl : xs.length ≤ 1000) : Calls Try.prog 57 #[.slice (some ⟨W.heap.size, 0, none⟩) xs.length xs.length] (W.alloc (.cells (xs.map (Value.int .i64)).toArray 3)) fun e w' => e = .returned (.int .i64 (sumV xs)) ∧ Below W.heap.size W w' :=
 (pipe_sum.calls _ _ xs.length xs _ _ (new_ints W xs (by omega)) (Nat.le_refl _) (sum_some xs hl)).mono fun e w' ⟨h1, h2⟩ => ⟨h1, qad (qag (Below.refl _ _) _) h2.below⟩
theorem sum2_calls (W : World) (a b : Int) : Calls Try.prog 57 #[.slice (some ⟨W.heap.size, 0, none⟩) 2 2] (W.alloc (.cells #[.int .i64 a, .int .i64 b] 3)) fun e w' => e = .returned (.int .i64 (sumV [a, b])) ∧ Below W.heap.size W w' := sum_new_calls W [a, b] (by simp)
theorem sum3_calls (W : World) (a b c : Int) : Calls Try.prog 57 #[.slice (some ⟨W.heap.size, 0, none⟩) 3 3] (W.alloc (.cells #[.int .i64 a, .int .i64 b, .int .i64 c] 3)) fun e w' => e = .returned (.int .i64 (sumV [a, b, c])) ∧ Below W.heap.size W w' := sum_new_calls W [a, b, c] (by simp)
structure P0 (w : World) (gb g8 : Nat) (nb : Array Value) (W : World) : Prop where
 b : W.heap[gb]? = some (.cells nb 26 (0, 0))
 r : W.heap[g8]? = some (.cells #[.int .i64 0, .int .i64 0, .int .i64 0, .int .i64 0] 31 (0, 0))
 hb : Below w.heap.size w W
theorem P0.below {w W W' : World} {gb g8 : Nat} {nb : Array Value} (h : P0 w gb g8 nb W) (hb : Below W.heap.size W W') : P0 w gb g8 nb W' := ⟨qae h.b hb, qae h.r hb, qad h.hb hb⟩
structure PI (w : World) (gb g8 g10 g11 : Nat) (nb : Array Value) (L : S39) (x : Heat4) (W : World) : Prop where
 b : W.heap[gb]? = some (.cells nb 26 (0, 0))
 r : W.heap[g8]? = some (.cells #[.int .i64 0, .int .i64 0, .int .i64 0, .int .i64 0] 31 (0, 0))
 l : W.heap[g10]? = some (.cells #[.int .i64 L.f0.f0, .int .i64 L.f0.f1, .int .i64 L.f1.f0, .int .i64 L.f1.f1, .int .i64 L.f2.f0, .int .i64 L.f2.f1, .int .i64 L.f3, .int .i64 L.f4, .int .i64 L.f5, .int .i64 L.f6, .int .i64 L.f7.f0, .int .i64 L.f7.f1] 39 (0, 0))
 o : W.heap[g11]? = some (.cells #[.int .i64 x.1, .int .i64 x.2.1, .int .i64 x.2.2.1, .int .i64 x.2.2.2] 31 (0, 0))
 hb : Below w.heap.size w W
 ge : w.heap.size ≤ g11
 ne : g8 ≠ g11
theorem PI.below {w W W' : World} {gb g8 g10 g11 : Nat} {nb : Array Value} {L : S39} {x : Heat4} (h : PI w gb g8 g10 g11 nb L x W) (hb : Below W.heap.size W W') : PI w gb g8 g10 g11 nb L x W' :=
 ⟨qae h.b hb, qae h.r hb, qae h.l hb, qae h.o hb, qad h.hb hb, h.ge, h.ne⟩
theorem PI.set {w W : World} {gb g8 g10 g11 : Nat} {nb : Array Value} {L : S39} {x y : Heat4} (h : PI w gb g8 g10 g11 nb L x W) (i : Nat) (v : Value) (e : (#[.int .i64 x.1, .int .i64 x.2.1, .int .i64 x.2.2.1, .int .i64 x.2.2.2] : Array Value).setIfInBounds i v = #[.int .i64 y.1, .int .i64 y.2.1, .int .i64 y.2.2.1, .int .i64 y.2.2.2]) :
  PI w gb g8 g10 g11 nb L y (W.setCell ⟨g11, i, none⟩ v) :=
 ⟨blk_far h.b (blk_ne h.b h.o (by decide)) _, blk_far h.r h.ne _, blk_far h.l (blk_ne h.l h.o (by decide)) _, by have := blk_set h.o i v; rw [e] at this; exact this, qai h.hb h.ge, h.ge, h.ne⟩
structure TI (w : World) (gb g8 g10 g11 g13 g14 : Nat) (nb : Array Value) (L : S39) (T : S44) (F : S37) (x : Heat4) (W : World) : Prop where
 p : PI w gb g8 g10 g11 nb L x W
 t : W.heap[g13]? = some (.cells #[.int .i64 T.f0, .int .i64 T.f1, .bool T.f2] 44 (0, 0))
 f : W.heap[g14]? = some (.cells #[.int .i64 F.f0, .int .i64 F.f1] 37 (0, 0))
theorem TI.below {w W W' : World} {gb g8 g10 g11 g13 g14 : Nat} {nb : Array Value} {L : S39} {T : S44} {F : S37} {x : Heat4} (h : TI w gb g8 g10 g11 g13 g14 nb L T F x W) (hb : Below W.heap.size W W') : TI w gb g8 g10 g11 g13 g14 nb L T F x W' :=
 ⟨h.p.below hb, qae h.t hb, qae h.f hb⟩
theorem TI.set {w W : World} {gb g8 g10 g11 g13 g14 : Nat} {nb : Array Value} {L : S39} {T : S44} {F : S37} {x y : Heat4} (h : TI w gb g8 g10 g11 g13 g14 nb L T F x W) (i : Nat) (v : Value) (e : (#[.int .i64 x.1, .int .i64 x.2.1, .int .i64 x.2.2.1, .int .i64 x.2.2.2] : Array Value).setIfInBounds i v = #[.int .i64 y.1, .int .i64 y.2.1, .int .i64 y.2.2.1, .int .i64 y.2.2.2]) :
  TI w gb g8 g10 g11 g13 g14 nb L T F y (W.setCell ⟨g11, i, none⟩ v) :=
 ⟨h.p.set i v e, blk_far h.t (blk_ne h.t h.p.o (by decide)) _, blk_far h.f (blk_ne h.f h.p.o (by decide)) _⟩
theorem valid_five {l0 : List S39} {l1 : List S37} {l2 : List (List Int)} (h : validB l0 l1 l2 = true) : 1 ≤ l0.length ∧ l0.length ≤ 5 := by
 unfold validB inB at h
 simp only [Bool.and_eq_true, decide_eq_true_eq] at h
 omega
def pipe_Play.T3 : Bool × List (List Nat × List Nat) := (true, [([], []), ([0], [0]), ([1], [1]), ([2, 1], [2]), ([3], [3]), ([3], [3]), ([5, 3], [3, 5]), ([6, 3], [3, 6]), ([7, 3], [3, 7]), ([4, 8, 3, 3], [3, 4, 8]), ([9, 3], [3, 9]), ([3, 10], [3, 10]), ([11, 9], [11]), ([12], [12]), ([12], [12]), ([14, 12], [12, 14]), ([12], [12]), ([15, 16, 12], [12, 15, 16]), ([17, 12], [12, 17]), ([18, 12], [12, 18]), ([19, 12], [12, 19]), ([12], [12]), ([21, 12], [12, 21]), ([12], [12]), ([22, 23, 12], [12, 22, 23]), ([24, 12], [12, 24]), ([25, 12], [12, 25]), ([26, 12], [12, 26]), ([13, 20, 27, 12, 12], [12, 13, 20, 27]), ([28, 12], [12, 28]), ([12, 29], [12, 29])])
def pipe_Play.B3 : List Nat := [0, 1, 3, 7, 15, 15, 47, 111, 239, 511, 1023, 2047, 4095, 8191, 8191, 24575, 8191, 122879, 253951, 516095, 1040383, 8191, 2105343, 8191, 14688255, 31465471, 65019903, 132128767, 268435455, 536870911, 1073741823]
theorem pipe_Play.tab3 : rtab .any (opsOf Try.f18 3) = pipe_Play.T3 := by kernel_rfl
theorem pipe_Play.bits3 : waitsOk pipe_Play.T3.2 pipe_Play.B3 = true := by kernel_rfl
def pipe_Play.f (l0_0 : List (S39)) (l0_1 : List (S37)) (l0_2 : List (List Int)) (a1 : Int) (a2 : Int) (l3 : List (S44)) : Option (Int × Int × Int × Int × Int) := some (playV l0_0 l0_1 l0_2 a1 a2 l3)
theorem pipe_Play.calls (A0_0 : Option Addr) (c0_0 : Nat) (l0_0 : List (S39)) (A0_1 : Option Addr) (c0_1 : Nat) (l0_1 : List (S37)) (A0_2 : Option Addr) (c0_2 : Nat) (l0_2 : List (List Int)) (a1 : Int) (a2 : Int) (A3 : Option Addr) (c3 : Nat) (l3 : List (S44)) (r1 : Int) (r2 : Int) (r3 : Int) (r4 : Int) (r5 : Int) (w : World) (hr0_0 : Kd.C k39 w A0_0 l0_0.length l0_0) (hc0_0 : l0_0.length ≤ c0_0) (hr0_1 : Kd.C k37 w A0_1 l0_1.length l0_1) (hc0_1 : l0_1.length ≤ c0_1) (hr0_2 : Kd.C (Kd.slice 3 (Kd.int .i64)) w A0_2 l0_2.length l0_2) (hc0_2 : l0_2.length ≤ c0_2) (hr3 : Kd.C k44 w A3 l3.length l3) (hc3 : l3.length ≤ c3) (h : pipe_Play.f l0_0 l0_1 l0_2 a1 a2 l3 = some (r1, r2, r3, r4, r5)) :
  Calls Try.prog 18 #[.agg #[.slice A0_0 l0_0.length c0_0, .slice A0_1 l0_1.length c0_1, .slice A0_2 l0_2.length c0_2], .int .i64 a1, .int .i64 a2, .slice A3 l3.length c3] w fun e w' => e = .returned (.tuple #[.agg #[.int .i64 r1, .int .i64 r2, .int .i64 r3, .int .i64 r4], .int .i64 r5]) ∧ Below w.heap.size w w' := by
 have h' := Option.some.inj h
 clear h
 have HF := qab.mk h'
 clear h'
 have hu26 := Try.underlying26
 have hu31 := Try.underlying31
 have hu39 := Try.underlying39
 have hu44 := Try.underlying44
 have hu37 := Try.underlying37
 have HB := qab.mk (Below.refl w.heap.size w)
 have HR0 := qab.mk hr0_0
 have HR1 := qab.mk hr0_1
 have HR2 := qab.mk hr0_2
 have HR3 := qab.mk hr3
 clear hr0_0 hr0_1 hr0_2 hr3
 by_cases c5 : (l0_1.length : Int) < (l3.length : Int)
 ·
  have he := HF.out
  unfold playV at he
  rw [if_pos c5] at he
  cases he
  have c5n : l0_1.length < l3.length := by omega
  go_enter Try.func18, Try.ntmps18
  go_wp2_with (first | ((with_reducible refine qam (N := 4) rfl ?_); refine qal ?hg (N := 4) ?hd (cs := #[.slice A0_0 l0_0.length c0_0, .slice A0_1 l0_1.length c0_1, .slice A0_2 l0_2.length c0_2]) (t := 26) ?hr ?_; (case hd => rfl); (case hg => rfl); (case hr => first | (go_simp; done) | (go_simp; rfl)); intro gb hg_gb w2 hbox hb; have BKgb := qab.mk hbox; have n_HB := qab.mk (qad HB.out hb); have GEgb : w.heap.size ≤ gb := (by rw [hg_gb]; exact HB.out.size); clear HB; have HB := n_HB; clear n_HB; clear hbox hb hg_gb) | ((with_reducible refine qam (N := 8) rfl ?_); refine qal ?hg (N := 8) ?hd (cs := #[.int .i64 0, .int .i64 0, .int .i64 0, .int .i64 0]) (t := 31) ?hr ?_; (case hd => rfl); (case hg => rfl); (case hr => first | (go_simp; done) | (go_simp; rfl)); intro g8 hg_g8 w3 hbox hb; have BKg8 := qab.mk hbox; replace BKgb := qab.mk (qae BKgb.out hb); have n_HB := qab.mk (qad HB.out hb); have GEg8 : w.heap.size ≤ g8 := (by rw [hg_g8]; exact HB.out.size); clear HB; have HB := n_HB; clear n_HB; clear hbox hb hg_g8; obtain ⟨hfgb, hcgb_0, hcgb_1, hcgb_2⟩ := qz3 BKgb.out; obtain ⟨hfg8, hcg8_0, hcg8_1, hcg8_2, hcg8_3⟩ := qz4 BKg8.out))
  refine bodyPost_ret (results_ct rfl _ _ g8 31 #[.int .i64 0, .int .i64 0, .int .i64 0, .int .i64 0] (0, 0) _ rfl ((blk_set (blk_set (blk_set (blk_set BKg8.out 0 _) 1 _) 2 _) 3 _)) Try.underlying31 rfl (by kernel_rfl)) rfl ?_
  exact ⟨rfl, (qai (j := 3) (qai (j := 2) (qai (j := 1) (qai (j := 0) HB.out GEg8) GEg8) GEg8) GEg8)⟩
 ·
  have HF2 : qab ((if (validB l0_0 l0_1 l0_2 && (inB a1 0 (wrap64 ((l0_0.length : Int) - 1)) && inB a2 (qaj l0_0 a1).f0.f0 (qaj l0_0 a1).f0.f1)) = true then heatR (playGo (qaj l0_0 a1) l3 l0_1 (a2, 0, 0, 0)) else (0, 0, 0, 0, 2)) = (r1, r2, r3, r4, r5)) := ⟨by rw [← HF.out]; unfold playV; rw [if_neg c5]⟩
  have c5n : ¬ l0_1.length < l3.length := by omega
  go_enter Try.func18, Try.ntmps18
  go_upto_region 3 with (first | ((with_reducible refine qam (N := 4) rfl ?_); refine qal ?hg (N := 4) ?hd (cs := #[.slice A0_0 l0_0.length c0_0, .slice A0_1 l0_1.length c0_1, .slice A0_2 l0_2.length c0_2]) (t := 26) ?hr ?_; (case hd => rfl); (case hg => rfl); (case hr => first | (go_simp; done) | (go_simp; rfl)); intro gb hg_gb w2 hbox hb; have BKgb := qab.mk hbox; have n_HB := qab.mk (qad HB.out hb); have GEgb : w.heap.size ≤ gb := (by rw [hg_gb]; exact HB.out.size); clear HB; have HB := n_HB; clear n_HB; clear hbox hb hg_gb) | ((with_reducible refine qam (N := 8) rfl ?_); refine qal ?hg (N := 8) ?hd (cs := #[.int .i64 0, .int .i64 0, .int .i64 0, .int .i64 0]) (t := 31) ?hr ?_; (case hd => rfl); (case hg => rfl); (case hr => first | (go_simp; done) | (go_simp; rfl)); intro g8 hg_g8 w3 hbox hb; have BKg8 := qab.mk hbox; replace BKgb := qab.mk (qae BKgb.out hb); have n_HB := qab.mk (qad HB.out hb); have GEg8 : w.heap.size ≤ g8 := (by rw [hg_g8]; exact HB.out.size); clear HB; have HB := n_HB; clear n_HB; clear hbox hb hg_g8; obtain ⟨hfgb, hcgb_0, hcgb_1, hcgb_2⟩ := qz3 BKgb.out; obtain ⟨hfg8, hcg8_0, hcg8_1, hcg8_2, hcg8_3⟩ := qz4 BKg8.out))
  obtain ⟨ok, hok⟩ : ∃ ok, ok = (validB l0_0 l0_1 l0_2 && (inB a1 0 (wrap64 ((l0_0.length : Int) - 1)) && inB a2 (qaj l0_0 a1).f0.f0 (qaj l0_0 a1).f0.f1)) := ⟨_, rfl⟩
  have HOK := qab.mk hok
  rw [← hok] at HF2
  clear hok
  have HP := qab.mk (P0.mk BKgb.out BKg8.out HB.out)
  go_cut [55] (fun v55 wc => ∃ nok, v55 = .bool nok ∧ qab (nok = !ok) ∧ qab (P0 w gb g8 #[.slice A0_0 l0_0.length c0_0, .slice A0_1 l0_1.length c0_1, .slice A0_2 l0_2.length c0_2] wc))
  case first =>
   have hval : ∀ W, Below w.heap.size w W → Calls Try.prog 54 #[.agg #[.slice A0_0 l0_0.length c0_0, .slice A0_1 l0_1.length c0_1, .slice A0_2 l0_2.length c0_2]] W fun e w' => e = .returned (.bool (validB l0_0 l0_1 l0_2)) ∧ Below W.heap.size W w' := fun W hW =>
    pipe_valid.calls _ _ _ _ _ _ _ _ _ _ W (Kd.qak HR0.out hW) hc0_0 (Kd.qak HR1.out hW) hc0_1 (Kd.qak HR2.out hW) hc0_2 rfl
   have HVAL := qab.mk hval
   clear hval BKgb BKg8 HB HF2 hc0_0 hc0_1 hc0_2 hc3
   have htup : ∀ W, P0 w gb g8 #[.slice A0_0 l0_0.length c0_0, .slice A0_1 l0_1.length c0_1, .slice A0_2 l0_2.length c0_2] W → W.cell? ⟨gb, 0, none⟩ = some (.slice A0_0 l0_0.length c0_0) ∧ W.cell? ⟨gb, 1, none⟩ = some (.slice A0_1 l0_1.length c0_1) ∧ W.cell? ⟨gb, 2, none⟩ = some (.slice A0_2 l0_2.length c0_2) ∧ qab (P0 w gb g8 #[.slice A0_0 l0_0.length c0_0, .slice A0_1 l0_1.length c0_1, .slice A0_2 l0_2.length c0_2] W) := fun W h =>
    ⟨qaa h.b 0, qaa h.b 1, qaa h.b 2, ⟨h⟩⟩
   have hp3 := HP.out.below (below_drew (Below.refl w3.heap.size w3))
   have HT := qab.mk htup
   have HP3 := qab.mk (htup _ hp3)
   clear htup hp3
   cases hv : validB l0_0 l0_1 l0_2 with
   | false =>
    have hk : ok = false := by rw [HOK.out, hv]; rfl
    subst hk
    have HVAL2 : qab (∀ W, Below w.heap.size w W → Calls Try.prog 54 #[.agg #[.slice A0_0 l0_0.length c0_0, .slice A0_1 l0_1.length c0_1, .slice A0_2 l0_2.length c0_2]] W fun e w' => e = .returned (.bool false) ∧ Below W.heap.size W w') := ⟨fun W hW => by have h := HVAL.out W hW; rw [hv] at h; exact h⟩
    clear hv HOK HVAL
    refine start_ (n := 31) (S := fun w' => w'.cell? ⟨gb, 0, none⟩ = some (.slice A0_0 l0_0.length c0_0) ∧ w'.cell? ⟨gb, 1, none⟩ = some (.slice A0_1 l0_1.length c0_1) ∧ w'.cell? ⟨gb, 2, none⟩ = some (.slice A0_2 l0_2.length c0_2) ∧ qab (P0 w gb g8 #[.slice A0_0 l0_0.length c0_0, .slice A0_1 l0_1.length c0_1, .slice A0_2 l0_2.length c0_2] w')) (ds := []) (msk 31 0) (by kernel_rfl) rfl (by kernel_rfl) HP3.out (fun hHeld => ?_); refine with_tabW pipe_Play.tab3 pipe_Play.bits3 (fun HT_ HW_ => ?_)
    refine take_ (i := 0) (N := some 25) (v := ?_) (a' := ?_) (msk 31 1) rfl rfl (take_ofW HT_.out HW_.out (by kernel_rfl)) (fun _ _ _ h => h) (Or.inl ⟨by rfl, ?_⟩) hHeld ?_ ?_; rotate_left; (focus (rintro w' ⟨s0, s1, s2, s3⟩; go_simp; with_reducible rfl)); rotate_left; (focus (simp only [Act.put, qzA, qzB, qzC, i64_w, i32_w]; rfl))
    refine one_ (i := 1) (N := some 26) (msk 31 2) rfl rfl (one_of HT_.out (by kernel_rfl)) (by decide) (fun K hK => ?_)
    refine goes_ Try.func54 (by kernel_rfl) rfl #[.agg #[.slice A0_0 l0_0.length c0_0, .slice A0_1 l0_1.length c0_1, .slice A0_2 l0_2.length c0_2]] (by rfl) rfl rfl (by (try simp only [List.map_toArray, List.map_cons, List.map_nil]); first | done | rfl | (simp only [List.length_drop, List.length_take]; rfl)) ?_
    refine (HVAL2.out _ (P0.hb hHeld.2.2.2.out)).mono ?_; rintro e w5 ⟨rfl, hb⟩; have HP4 := qab.mk (HT.out w5 (P0.below hHeld.2.2.2.out hb)); clear hb; refine ⟨_, rfl, ?_⟩; refine hK.out _ _ HP4.out (fun hHeld => ?_); clear hK K; refine norm_ (a' := ?_) ?_ ?_; rotate_left; (focus (show Act.put _ (some 26) _ = _; simp only [Act.put, qzA, qzB, qzC, i64_w, i32_w]; rfl))
    refine pure_ (i := 2) (N := some 27) (v := ?_) (a' := ?_) (msk 31 3) rfl rfl (any_of HT_.out (by kernel_rfl)) (fun _ _ _ h => h) (Or.inl ⟨by rfl, ?_⟩) ?_ ?_; rotate_left; (focus (intro w'; go_simp; with_reducible rfl)); rotate_left; (focus (simp only [Act.put, qzA, qzB, qzC, i64_w, i32_w]; rfl))
    refine pure_ (i := 3) (N := some 28) (v := ?_) (a' := ?_) (msk 31 4) rfl rfl (any_of HT_.out (by kernel_rfl)) (fun _ _ _ h => h) (Or.inl ⟨by rfl, ?_⟩) ?_ ?_; rotate_left; (focus (intro w'; go_simp; with_reducible rfl)); rotate_left; (focus (simp only [Act.put, qzA, qzB, qzC, i64_w, i32_w]; rfl))
    refine pure_ (i := 4) (N := some 29) (v := undef) (a' := ?_) (msk 31 5) rfl rfl (any_of HT_.out (by kernel_rfl)) (fun _ _ _ h => h) (Or.inr ⟨by rfl, rfl⟩) ?_ ?_; rotate_left; (focus (simp only [Act.put, qzA, qzB, qzC, i64_w, i32_w]; rfl))
    refine pure_ (i := 5) (N := some 30) (v := undef) (a' := ?_) (msk 31 6) rfl rfl (any_of HT_.out (by kernel_rfl)) (fun _ _ _ h => h) (Or.inr ⟨by rfl, rfl⟩) ?_ ?_; rotate_left; (focus (simp only [Act.put, qzA, qzB, qzC, i64_w, i32_w]; rfl))
    refine pure_ (i := 6) (N := some 31) (v := undef) (a' := ?_) (msk 31 7) rfl rfl (any_of HT_.out (by kernel_rfl)) (fun _ _ _ h => h) (Or.inr ⟨by rfl, rfl⟩) ?_ ?_; rotate_left; (focus (simp only [Act.put, qzA, qzB, qzC, i64_w, i32_w]; rfl))
    refine pure_ (i := 7) (N := some 32) (v := undef) (a' := ?_) (msk 31 8) rfl rfl (any_of HT_.out (by kernel_rfl)) (fun _ _ _ h => h) (Or.inr ⟨by rfl, rfl⟩) ?_ ?_; rotate_left; (focus (simp only [Act.put, qzA, qzB, qzC, i64_w, i32_w]; rfl))
    refine pure_ (i := 8) (N := some 33) (v := undef) (a' := ?_) (msk 31 9) rfl rfl (any_of HT_.out (by kernel_rfl)) (fun _ _ _ h => h) (Or.inr ⟨by rfl, rfl⟩) ?_ ?_; rotate_left; (focus (simp only [Act.put, qzA, qzB, qzC, i64_w, i32_w]; rfl))
    refine pure_ (i := 9) (N := some 34) (v := undef) (a' := ?_) (msk 31 10) rfl rfl (any_of HT_.out (by kernel_rfl)) (fun _ _ _ h => h) (Or.inr ⟨by rfl, rfl⟩) ?_ ?_; rotate_left; (focus (simp only [Act.put, qzA, qzB, qzC, i64_w, i32_w]; rfl))
    refine pure_ (i := 10) (N := some 35) (v := undef) (a' := ?_) (msk 31 11) rfl rfl (any_of HT_.out (by kernel_rfl)) (fun _ _ _ h => h) (Or.inr ⟨by rfl, rfl⟩) ?_ ?_; rotate_left; (focus (simp only [Act.put, qzA, qzB, qzC, i64_w, i32_w]; rfl))
    refine pure_ (i := 11) (N := some 36) (v := ?_) (a' := ?_) (msk 31 12) rfl rfl (any_of HT_.out (by kernel_rfl)) (fun _ _ _ h => h) (Or.inl ⟨by rfl, ?_⟩) ?_ ?_; rotate_left; (focus (intro w'; go_simp; with_reducible rfl)); rotate_left; (focus (simp only [Act.put, qzA, qzB, qzC, i64_w, i32_w]; rfl))
    refine pure_ (i := 12) (N := some 37) (v := ?_) (a' := ?_) (msk 31 13) rfl rfl (any_of HT_.out (by kernel_rfl)) (fun _ _ _ h => h) (Or.inl ⟨by rfl, ?_⟩) ?_ ?_; rotate_left; (focus (intro w'; go_simp; with_reducible rfl)); rotate_left; (focus (simp only [Act.put, qzA, qzB, qzC, i64_w, i32_w]; rfl))
    refine pure_ (i := 13) (N := some 38) (v := undef) (a' := ?_) (msk 31 14) rfl rfl (any_of HT_.out (by kernel_rfl)) (fun _ _ _ h => h) (Or.inr ⟨by rfl, rfl⟩) ?_ ?_; rotate_left; (focus (simp only [Act.put, qzA, qzB, qzC, i64_w, i32_w]; rfl))
    refine pure_ (i := 14) (N := some 39) (v := undef) (a' := ?_) (msk 31 15) rfl rfl (any_of HT_.out (by kernel_rfl)) (fun _ _ _ h => h) (Or.inr ⟨by rfl, rfl⟩) ?_ ?_; rotate_left; (focus (simp only [Act.put, qzA, qzB, qzC, i64_w, i32_w]; rfl))
    refine pure_ (i := 15) (N := some 40) (v := undef) (a' := ?_) (msk 31 16) rfl rfl (any_of HT_.out (by kernel_rfl)) (fun _ _ _ h => h) (Or.inr ⟨by rfl, rfl⟩) ?_ ?_; rotate_left; (focus (simp only [Act.put, qzA, qzB, qzC, i64_w, i32_w]; rfl))
    refine pure_ (i := 16) (N := some 41) (v := undef) (a' := ?_) (msk 31 17) rfl rfl (any_of HT_.out (by kernel_rfl)) (fun _ _ _ h => h) (Or.inr ⟨by rfl, rfl⟩) ?_ ?_; rotate_left; (focus (simp only [Act.put, qzA, qzB, qzC, i64_w, i32_w]; rfl))
    refine pure_ (i := 17) (N := some 42) (v := undef) (a' := ?_) (msk 31 18) rfl rfl (any_of HT_.out (by kernel_rfl)) (fun _ _ _ h => h) (Or.inr ⟨by rfl, rfl⟩) ?_ ?_; rotate_left; (focus (simp only [Act.put, qzA, qzB, qzC, i64_w, i32_w]; rfl))
    refine pure_ (i := 18) (N := some 43) (v := undef) (a' := ?_) (msk 31 19) rfl rfl (any_of HT_.out (by kernel_rfl)) (fun _ _ _ h => h) (Or.inr ⟨by rfl, rfl⟩) ?_ ?_; rotate_left; (focus (simp only [Act.put, qzA, qzB, qzC, i64_w, i32_w]; rfl))
    refine pure_ (i := 19) (N := some 44) (v := undef) (a' := ?_) (msk 31 20) rfl rfl (any_of HT_.out (by kernel_rfl)) (fun _ _ _ h => h) (Or.inr ⟨by rfl, rfl⟩) ?_ ?_; rotate_left; (focus (simp only [Act.put, qzA, qzB, qzC, i64_w, i32_w]; rfl))
    refine pure_ (i := 20) (N := some 45) (v := undef) (a' := ?_) (msk 31 21) rfl rfl (any_of HT_.out (by kernel_rfl)) (fun _ _ _ h => h) (Or.inr ⟨by rfl, rfl⟩) ?_ ?_; rotate_left; (focus (simp only [Act.put, qzA, qzB, qzC, i64_w, i32_w]; rfl))
    refine pure_ (i := 21) (N := some 46) (v := undef) (a' := ?_) (msk 31 22) rfl rfl (any_of HT_.out (by kernel_rfl)) (fun _ _ _ h => h) (Or.inr ⟨by rfl, rfl⟩) ?_ ?_; rotate_left; (focus (simp only [Act.put, qzA, qzB, qzC, i64_w, i32_w]; rfl))
    refine pure_ (i := 22) (N := some 47) (v := undef) (a' := ?_) (msk 31 23) rfl rfl (any_of HT_.out (by kernel_rfl)) (fun _ _ _ h => h) (Or.inr ⟨by rfl, rfl⟩) ?_ ?_; rotate_left; (focus (simp only [Act.put, qzA, qzB, qzC, i64_w, i32_w]; rfl))
    refine pure_ (i := 23) (N := some 48) (v := undef) (a' := ?_) (msk 31 24) rfl rfl (any_of HT_.out (by kernel_rfl)) (fun _ _ _ h => h) (Or.inr ⟨by rfl, rfl⟩) ?_ ?_; rotate_left; (focus (simp only [Act.put, qzA, qzB, qzC, i64_w, i32_w]; rfl))
    refine pure_ (i := 24) (N := some 49) (v := undef) (a' := ?_) (msk 31 25) rfl rfl (any_of HT_.out (by kernel_rfl)) (fun _ _ _ h => h) (Or.inr ⟨by rfl, rfl⟩) ?_ ?_; rotate_left; (focus (simp only [Act.put, qzA, qzB, qzC, i64_w, i32_w]; rfl))
    refine pure_ (i := 25) (N := some 50) (v := undef) (a' := ?_) (msk 31 26) rfl rfl (any_of HT_.out (by kernel_rfl)) (fun _ _ _ h => h) (Or.inr ⟨by rfl, rfl⟩) ?_ ?_; rotate_left; (focus (simp only [Act.put, qzA, qzB, qzC, i64_w, i32_w]; rfl))
    refine pure_ (i := 26) (N := some 51) (v := undef) (a' := ?_) (msk 31 27) rfl rfl (any_of HT_.out (by kernel_rfl)) (fun _ _ _ h => h) (Or.inr ⟨by rfl, rfl⟩) ?_ ?_; rotate_left; (focus (simp only [Act.put, qzA, qzB, qzC, i64_w, i32_w]; rfl))
    refine pure_ (i := 27) (N := some 52) (v := undef) (a' := ?_) (msk 31 28) rfl rfl (any_of HT_.out (by kernel_rfl)) (fun _ _ _ h => h) (Or.inr ⟨by rfl, rfl⟩) ?_ ?_; rotate_left; (focus (simp only [Act.put, qzA, qzB, qzC, i64_w, i32_w]; rfl))
    refine pure_ (i := 28) (N := some 53) (v := undef) (a' := ?_) (msk 31 29) rfl rfl (any_of HT_.out (by kernel_rfl)) (fun _ _ _ h => h) (Or.inr ⟨by rfl, rfl⟩) ?_ ?_; rotate_left; (focus (simp only [Act.put, qzA, qzB, qzC, i64_w, i32_w]; rfl))
    refine pure_ (i := 29) (N := some 54) (v := undef) (a' := ?_) (msk 31 30) rfl rfl (any_of HT_.out (by kernel_rfl)) (fun _ _ _ h => h) (Or.inr ⟨by rfl, rfl⟩) ?_ ?_; rotate_left; (focus (simp only [Act.put, qzA, qzB, qzC, i64_w, i32_w]; rfl))
    refine pure_ (i := 30) (N := some 55) (v := ?_) (a' := ?_) (msk 31 31) rfl rfl (any_of HT_.out (by kernel_rfl)) (fun _ _ _ h => h) (Or.inl ⟨by rfl, ?_⟩) ?_ ?_; rotate_left; (focus (intro w'; go_simp; with_reducible rfl)); rotate_left; (focus (simp only [Act.put, qzA, qzB, qzC, i64_w, i32_w]; rfl))
    refine done_ (done_of HT_.out (by kernel_rfl)) ?_
    try go_wp2
    go_meet
    case rel => exact ⟨_, rfl, ⟨rfl⟩, HP4.out.2.2.2⟩
   | true =>
    have HVAL2 : qab (∀ W, Below w.heap.size w W → Calls Try.prog 54 #[.agg #[.slice A0_0 l0_0.length c0_0, .slice A0_1 l0_1.length c0_1, .slice A0_2 l0_2.length c0_2]] W fun e w' => e = .returned (.bool true) ∧ Below W.heap.size W w') := ⟨fun W hW => by have h := HVAL.out W hW; rw [hv] at h; exact h⟩
    clear HVAL
    cases hi : inB a1 0 (wrap64 ((l0_0.length : Int) - 1)) with
    | false =>
     have hk : ok = false := by rw [HOK.out, hv, hi]; rfl
     subst hk
     have HIN : qab (∀ W, Calls Try.prog 55 #[.int .i64 a1, .int .i64 0, .int .i64 (wrap64 ((l0_0.length : Int) - 1))] W fun e w' => e = .returned (.bool false) ∧ Below W.heap.size W w') := ⟨fun W => by have h := in_calls a1 0 (wrap64 ((l0_0.length : Int) - 1)) W; rw [hi] at h; exact h⟩
     clear hv HOK hi
     refine start_ (n := 31) (S := fun w' => w'.cell? ⟨gb, 0, none⟩ = some (.slice A0_0 l0_0.length c0_0) ∧ w'.cell? ⟨gb, 1, none⟩ = some (.slice A0_1 l0_1.length c0_1) ∧ w'.cell? ⟨gb, 2, none⟩ = some (.slice A0_2 l0_2.length c0_2) ∧ qab (P0 w gb g8 #[.slice A0_0 l0_0.length c0_0, .slice A0_1 l0_1.length c0_1, .slice A0_2 l0_2.length c0_2] w')) (ds := []) (msk 31 0) (by kernel_rfl) rfl (by kernel_rfl) HP3.out (fun hHeld => ?_); refine with_tabW pipe_Play.tab3 pipe_Play.bits3 (fun HT_ HW_ => ?_)
     refine take_ (i := 0) (N := some 25) (v := ?_) (a' := ?_) (msk 31 1) rfl rfl (take_ofW HT_.out HW_.out (by kernel_rfl)) (fun _ _ _ h => h) (Or.inl ⟨by rfl, ?_⟩) hHeld ?_ ?_; rotate_left; (focus (rintro w' ⟨s0, s1, s2, s3⟩; go_simp; with_reducible rfl)); rotate_left; (focus (simp only [Act.put, qzA, qzB, qzC, i64_w, i32_w]; rfl))
     refine one_ (i := 1) (N := some 26) (msk 31 2) rfl rfl (one_of HT_.out (by kernel_rfl)) (by decide) (fun K hK => ?_)
     refine goes_ Try.func54 (by kernel_rfl) rfl #[.agg #[.slice A0_0 l0_0.length c0_0, .slice A0_1 l0_1.length c0_1, .slice A0_2 l0_2.length c0_2]] (by rfl) rfl rfl (by (try simp only [List.map_toArray, List.map_cons, List.map_nil]); first | done | rfl | (simp only [List.length_drop, List.length_take]; rfl)) ?_
     refine (HVAL2.out _ (P0.hb hHeld.2.2.2.out)).mono ?_; rintro e w5 ⟨rfl, hb⟩; have HP4 := qab.mk (HT.out w5 (P0.below hHeld.2.2.2.out hb)); clear hb; refine ⟨_, rfl, ?_⟩; refine hK.out _ _ HP4.out (fun hHeld => ?_); clear hK K; refine norm_ (a' := ?_) ?_ ?_; rotate_left; (focus (show Act.put _ (some 26) _ = _; simp only [Act.put, qzA, qzB, qzC, i64_w, i32_w]; rfl))
     refine pure_ (i := 2) (N := some 27) (v := ?_) (a' := ?_) (msk 31 3) rfl rfl (any_of HT_.out (by kernel_rfl)) (fun _ _ _ h => h) (Or.inl ⟨by rfl, ?_⟩) ?_ ?_; rotate_left; (focus (intro w'; go_simp; with_reducible rfl)); rotate_left; (focus (simp only [Act.put, qzA, qzB, qzC, i64_w, i32_w]; rfl))
     refine pure_ (i := 3) (N := some 28) (v := ?_) (a' := ?_) (msk 31 4) rfl rfl (any_of HT_.out (by kernel_rfl)) (fun _ _ _ h => h) (Or.inl ⟨by rfl, ?_⟩) ?_ ?_; rotate_left; (focus (intro w'; go_simp; with_reducible rfl)); rotate_left; (focus (simp only [Act.put, qzA, qzB, qzC, i64_w, i32_w]; rfl))
     refine pure_ (i := 4) (N := some 29) (v := ?_) (a' := ?_) (msk 31 5) rfl rfl (any_of HT_.out (by kernel_rfl)) (fun _ _ _ h => h) (Or.inl ⟨by rfl, ?_⟩) ?_ ?_; rotate_left; (focus (intro w'; go_simp; with_reducible rfl)); rotate_left; (focus (simp only [Act.put, qzA, qzB, qzC, i64_w, i32_w]; rfl))
     refine pure_ (i := 5) (N := some 30) (v := ?_) (a' := ?_) (msk 31 6) rfl rfl (any_of HT_.out (by kernel_rfl)) (fun _ _ _ h => h) (Or.inl ⟨by rfl, ?_⟩) ?_ ?_; rotate_left; (focus (intro w'; go_simp; with_reducible rfl)); rotate_left; (focus (simp only [Act.put, qzA, qzB, qzC, i64_w, i32_w]; rfl))
     refine take_ (i := 6) (N := some 31) (v := ?_) (a' := ?_) (msk 31 7) rfl rfl (take_ofW HT_.out HW_.out (by kernel_rfl)) (fun _ _ _ h => h) (Or.inl ⟨by rfl, ?_⟩) hHeld ?_ ?_; rotate_left; (focus (rintro w' ⟨s0, s1, s2, s3⟩; go_simp; with_reducible rfl)); rotate_left; (focus (simp only [Act.put, qzA, qzB, qzC, i64_w, i32_w]; rfl))
     refine pure_ (i := 7) (N := some 32) (v := ?_) (a' := ?_) (msk 31 8) rfl rfl (any_of HT_.out (by kernel_rfl)) (fun _ _ _ h => h) (Or.inl ⟨by rfl, ?_⟩) ?_ ?_; rotate_left; (focus (intro w'; go_simp; with_reducible rfl)); rotate_left; (focus (simp only [Act.put, qzA, qzB, qzC, i64_w, i32_w]; rfl))
     refine pure_ (i := 8) (N := some 33) (v := ?_) (a' := ?_) (msk 31 9) rfl rfl (any_of HT_.out (by kernel_rfl)) (fun _ _ _ h => h) (Or.inl ⟨by rfl, ?_⟩) ?_ ?_; rotate_left; (focus (intro w'; go_simp; with_reducible rfl)); rotate_left; (focus (simp only [Act.put, qzA, qzB, qzC, i64_w, i32_w]; rfl))
     refine one_ (i := 9) (N := some 34) (msk 31 10) rfl rfl (one_of HT_.out (by kernel_rfl)) (by decide) (fun K hK => ?_)
     refine goes_ Try.func55 (by kernel_rfl) rfl #[.int .i64 a1, .int .i64 0, .int .i64 (wrap64 ((l0_0.length : Int) - 1))] (by rfl) rfl rfl (by (try simp only [List.map_toArray, List.map_cons, List.map_nil]); first | done | rfl | (simp only [List.length_drop, List.length_take]; rfl)) ?_
     refine (HIN.out _).mono ?_; rintro e w6 ⟨rfl, hb⟩; have HP5 := qab.mk (HT.out w6 (P0.below hHeld.2.2.2.out hb)); clear hb; refine ⟨_, rfl, ?_⟩; refine hK.out _ _ HP5.out (fun hHeld => ?_); clear hK K; refine norm_ (a' := ?_) ?_ ?_; rotate_left; (focus (show Act.put _ (some 34) _ = _; simp only [Act.put, qzA, qzB, qzC, i64_w, i32_w]; rfl))
     refine pure_ (i := 10) (N := some 35) (v := ?_) (a' := ?_) (msk 31 11) rfl rfl (any_of HT_.out (by kernel_rfl)) (fun _ _ _ h => h) (Or.inl ⟨by rfl, ?_⟩) ?_ ?_; rotate_left; (focus (intro w'; go_simp; with_reducible rfl)); rotate_left; (focus (simp only [Act.put, qzA, qzB, qzC, i64_w, i32_w]; rfl))
     refine pure_ (i := 11) (N := some 36) (v := ?_) (a' := ?_) (msk 31 12) rfl rfl (any_of HT_.out (by kernel_rfl)) (fun _ _ _ h => h) (Or.inl ⟨by rfl, ?_⟩) ?_ ?_; rotate_left; (focus (intro w'; go_simp; with_reducible rfl)); rotate_left; (focus (simp only [Act.put, qzA, qzB, qzC, i64_w, i32_w]; rfl))
     refine pure_ (i := 12) (N := some 37) (v := ?_) (a' := ?_) (msk 31 13) rfl rfl (any_of HT_.out (by kernel_rfl)) (fun _ _ _ h => h) (Or.inl ⟨by rfl, ?_⟩) ?_ ?_; rotate_left; (focus (intro w'; go_simp; with_reducible rfl)); rotate_left; (focus (simp only [Act.put, qzA, qzB, qzC, i64_w, i32_w]; rfl))
     refine pure_ (i := 13) (N := some 38) (v := undef) (a' := ?_) (msk 31 14) rfl rfl (any_of HT_.out (by kernel_rfl)) (fun _ _ _ h => h) (Or.inr ⟨by rfl, rfl⟩) ?_ ?_; rotate_left; (focus (simp only [Act.put, qzA, qzB, qzC, i64_w, i32_w]; rfl))
     refine pure_ (i := 14) (N := some 39) (v := undef) (a' := ?_) (msk 31 15) rfl rfl (any_of HT_.out (by kernel_rfl)) (fun _ _ _ h => h) (Or.inr ⟨by rfl, rfl⟩) ?_ ?_; rotate_left; (focus (simp only [Act.put, qzA, qzB, qzC, i64_w, i32_w]; rfl))
     refine pure_ (i := 15) (N := some 40) (v := undef) (a' := ?_) (msk 31 16) rfl rfl (any_of HT_.out (by kernel_rfl)) (fun _ _ _ h => h) (Or.inr ⟨by rfl, rfl⟩) ?_ ?_; rotate_left; (focus (simp only [Act.put, qzA, qzB, qzC, i64_w, i32_w]; rfl))
     refine pure_ (i := 16) (N := some 41) (v := undef) (a' := ?_) (msk 31 17) rfl rfl (any_of HT_.out (by kernel_rfl)) (fun _ _ _ h => h) (Or.inr ⟨by rfl, rfl⟩) ?_ ?_; rotate_left; (focus (simp only [Act.put, qzA, qzB, qzC, i64_w, i32_w]; rfl))
     refine pure_ (i := 17) (N := some 42) (v := undef) (a' := ?_) (msk 31 18) rfl rfl (any_of HT_.out (by kernel_rfl)) (fun _ _ _ h => h) (Or.inr ⟨by rfl, rfl⟩) ?_ ?_; rotate_left; (focus (simp only [Act.put, qzA, qzB, qzC, i64_w, i32_w]; rfl))
     refine pure_ (i := 18) (N := some 43) (v := undef) (a' := ?_) (msk 31 19) rfl rfl (any_of HT_.out (by kernel_rfl)) (fun _ _ _ h => h) (Or.inr ⟨by rfl, rfl⟩) ?_ ?_; rotate_left; (focus (simp only [Act.put, qzA, qzB, qzC, i64_w, i32_w]; rfl))
     refine pure_ (i := 19) (N := some 44) (v := undef) (a' := ?_) (msk 31 20) rfl rfl (any_of HT_.out (by kernel_rfl)) (fun _ _ _ h => h) (Or.inr ⟨by rfl, rfl⟩) ?_ ?_; rotate_left; (focus (simp only [Act.put, qzA, qzB, qzC, i64_w, i32_w]; rfl))
     refine pure_ (i := 20) (N := some 45) (v := undef) (a' := ?_) (msk 31 21) rfl rfl (any_of HT_.out (by kernel_rfl)) (fun _ _ _ h => h) (Or.inr ⟨by rfl, rfl⟩) ?_ ?_; rotate_left; (focus (simp only [Act.put, qzA, qzB, qzC, i64_w, i32_w]; rfl))
     refine pure_ (i := 21) (N := some 46) (v := undef) (a' := ?_) (msk 31 22) rfl rfl (any_of HT_.out (by kernel_rfl)) (fun _ _ _ h => h) (Or.inr ⟨by rfl, rfl⟩) ?_ ?_; rotate_left; (focus (simp only [Act.put, qzA, qzB, qzC, i64_w, i32_w]; rfl))
     refine pure_ (i := 22) (N := some 47) (v := undef) (a' := ?_) (msk 31 23) rfl rfl (any_of HT_.out (by kernel_rfl)) (fun _ _ _ h => h) (Or.inr ⟨by rfl, rfl⟩) ?_ ?_; rotate_left; (focus (simp only [Act.put, qzA, qzB, qzC, i64_w, i32_w]; rfl))
     refine pure_ (i := 23) (N := some 48) (v := undef) (a' := ?_) (msk 31 24) rfl rfl (any_of HT_.out (by kernel_rfl)) (fun _ _ _ h => h) (Or.inr ⟨by rfl, rfl⟩) ?_ ?_; rotate_left; (focus (simp only [Act.put, qzA, qzB, qzC, i64_w, i32_w]; rfl))
     refine pure_ (i := 24) (N := some 49) (v := undef) (a' := ?_) (msk 31 25) rfl rfl (any_of HT_.out (by kernel_rfl)) (fun _ _ _ h => h) (Or.inr ⟨by rfl, rfl⟩) ?_ ?_; rotate_left; (focus (simp only [Act.put, qzA, qzB, qzC, i64_w, i32_w]; rfl))
     refine pure_ (i := 25) (N := some 50) (v := undef) (a' := ?_) (msk 31 26) rfl rfl (any_of HT_.out (by kernel_rfl)) (fun _ _ _ h => h) (Or.inr ⟨by rfl, rfl⟩) ?_ ?_; rotate_left; (focus (simp only [Act.put, qzA, qzB, qzC, i64_w, i32_w]; rfl))
     refine pure_ (i := 26) (N := some 51) (v := undef) (a' := ?_) (msk 31 27) rfl rfl (any_of HT_.out (by kernel_rfl)) (fun _ _ _ h => h) (Or.inr ⟨by rfl, rfl⟩) ?_ ?_; rotate_left; (focus (simp only [Act.put, qzA, qzB, qzC, i64_w, i32_w]; rfl))
     refine pure_ (i := 27) (N := some 52) (v := undef) (a' := ?_) (msk 31 28) rfl rfl (any_of HT_.out (by kernel_rfl)) (fun _ _ _ h => h) (Or.inr ⟨by rfl, rfl⟩) ?_ ?_; rotate_left; (focus (simp only [Act.put, qzA, qzB, qzC, i64_w, i32_w]; rfl))
     refine pure_ (i := 28) (N := some 53) (v := undef) (a' := ?_) (msk 31 29) rfl rfl (any_of HT_.out (by kernel_rfl)) (fun _ _ _ h => h) (Or.inr ⟨by rfl, rfl⟩) ?_ ?_; rotate_left; (focus (simp only [Act.put, qzA, qzB, qzC, i64_w, i32_w]; rfl))
     refine pure_ (i := 29) (N := some 54) (v := undef) (a' := ?_) (msk 31 30) rfl rfl (any_of HT_.out (by kernel_rfl)) (fun _ _ _ h => h) (Or.inr ⟨by rfl, rfl⟩) ?_ ?_; rotate_left; (focus (simp only [Act.put, qzA, qzB, qzC, i64_w, i32_w]; rfl))
     refine pure_ (i := 30) (N := some 55) (v := ?_) (a' := ?_) (msk 31 31) rfl rfl (any_of HT_.out (by kernel_rfl)) (fun _ _ _ h => h) (Or.inl ⟨by rfl, ?_⟩) ?_ ?_; rotate_left; (focus (intro w'; go_simp; with_reducible rfl)); rotate_left; (focus (simp only [Act.put, qzA, qzB, qzC, i64_w, i32_w]; rfl))
     refine done_ (done_of HT_.out (by kernel_rfl)) ?_
     try go_wp2
     go_meet
     case rel => exact ⟨_, rfl, ⟨rfl⟩, HP5.out.2.2.2⟩
    | true =>
     have HIN : qab (∀ W, Calls Try.prog 55 #[.int .i64 a1, .int .i64 0, .int .i64 (wrap64 ((l0_0.length : Int) - 1))] W fun e w' => e = .returned (.bool true) ∧ Below W.heap.size W w') := ⟨fun W => by have h := in_calls a1 0 (wrap64 ((l0_0.length : Int) - 1)) W; rw [hi] at h; exact h⟩
     obtain ⟨i0, i1⟩ : 0 ≤ a1 ∧ a1 < l0_0.length := by
      have hl := valid_five hv
      unfold inB at hi
      simp only [Bool.and_eq_true, decide_eq_true_eq] at hi
      unfold wrap64 at hi
      omega
     have hk : ok = inB a2 (qaj l0_0 a1).f0.f0 (qaj l0_0 a1).f0.f1 := by rw [HOK.out, hv, hi]; rfl
     clear hv HOK hi
     obtain ⟨ad, e, hl0, hl1, hl2, hl3, hl4, hl5, hl6, hl7, hl8, hl9, hl10, hl11⟩ := at_T39 HR0.out a1 i0 i1
     cases e
     clear hl2 hl3 hl4 hl5 hl6 hl7 hl8 hl9 hl10 hl11
     obtain ⟨n, rfl⟩ := Int.eq_ofNat_of_zero_le i0
     simp only [Int.toNat_natCast] at hl0 hl1
     have htup2 : ∀ W, P0 w gb g8 #[.slice (some ad) l0_0.length c0_0, .slice A0_1 l0_1.length c0_1, .slice A0_2 l0_2.length c0_2] W → W.cell? ⟨gb, 0, none⟩ = some (.slice (some ad) l0_0.length c0_0) ∧ W.cell? ⟨gb, 1, none⟩ = some (.slice A0_1 l0_1.length c0_1) ∧ W.cell? ⟨gb, 2, none⟩ = some (.slice A0_2 l0_2.length c0_2) ∧ W.cell? (ad.add (n * 12)) = some (.int .i64 (qaj l0_0 n).f0.f0) ∧ W.cell? ⟨(ad.add (n * 12)).block, (ad.add (n * 12)).off + 1, none⟩ = some (.int .i64 (qaj l0_0 n).f0.f1) ∧ qab (P0 w gb g8 #[.slice (some ad) l0_0.length c0_0, .slice A0_1 l0_1.length c0_1, .slice A0_2 l0_2.length c0_2] W) := fun W h =>
      ⟨qaa h.b 0, qaa h.b 1, qaa h.b 2, (h.hb.cell (World.block_lt_of_cell? w _ hl0)).trans hl0, (h.hb.cell (World.block_lt_of_cell? w _ hl1)).trans hl1, ⟨h⟩⟩
     have hp3 := HP.out.below (below_drew (Below.refl w3.heap.size w3))
     have HT2 := qab.mk htup2
     have HP6 := qab.mk (htup2 _ hp3)
     clear htup2 hp3 hl0 hl1 HP3 HT
     generalize (qaj l0_0 n).f0.f0 = b0 at hk HP6 HT2
     generalize (qaj l0_0 n).f0.f1 = b1 at hk HP6 HT2
     subst hk
     have i2 : (0 : Int) ≤ n := i0
     refine start_ (n := 31) (S := fun w' => w'.cell? ⟨gb, 0, none⟩ = some (.slice (some ad) l0_0.length c0_0) ∧ w'.cell? ⟨gb, 1, none⟩ = some (.slice A0_1 l0_1.length c0_1) ∧ w'.cell? ⟨gb, 2, none⟩ = some (.slice A0_2 l0_2.length c0_2) ∧ w'.cell? (ad.add (n * 12)) = some (.int .i64 b0) ∧ w'.cell? ⟨(ad.add (n * 12)).block, (ad.add (n * 12)).off + 1, none⟩ = some (.int .i64 b1) ∧ qab (P0 w gb g8 #[.slice (some ad) l0_0.length c0_0, .slice A0_1 l0_1.length c0_1, .slice A0_2 l0_2.length c0_2] w')) (ds := []) (msk 31 0) (by kernel_rfl) rfl (by kernel_rfl) HP6.out (fun hHeld => ?_); refine with_tabW pipe_Play.tab3 pipe_Play.bits3 (fun HT_ HW_ => ?_)
     refine take_ (i := 0) (N := some 25) (v := ?_) (a' := ?_) (msk 31 1) rfl rfl (take_ofW HT_.out HW_.out (by kernel_rfl)) (fun _ _ _ h => h) (Or.inl ⟨by rfl, ?_⟩) hHeld ?_ ?_; rotate_left; (focus (rintro w' ⟨s0, s1, s2, s3, s4, s5⟩; go_simp; with_reducible rfl)); rotate_left; (focus (simp only [Act.put, qzA, qzB, qzC, i64_w, i32_w]; rfl))
     refine one_ (i := 1) (N := some 26) (msk 31 2) rfl rfl (one_of HT_.out (by kernel_rfl)) (by decide) (fun K hK => ?_)
     refine goes_ Try.func54 (by kernel_rfl) rfl #[.agg #[.slice (some ad) l0_0.length c0_0, .slice A0_1 l0_1.length c0_1, .slice A0_2 l0_2.length c0_2]] (by rfl) rfl rfl (by (try simp only [List.map_toArray, List.map_cons, List.map_nil]); first | done | rfl | (simp only [List.length_drop, List.length_take]; rfl)) ?_
     refine (HVAL2.out _ (P0.hb hHeld.2.2.2.2.2.out)).mono ?_; rintro e w5 ⟨rfl, hb⟩; have HP4 := qab.mk (HT2.out w5 (P0.below hHeld.2.2.2.2.2.out hb)); clear hb; refine ⟨_, rfl, ?_⟩; refine hK.out _ _ HP4.out (fun hHeld => ?_); clear hK K; refine norm_ (a' := ?_) ?_ ?_; rotate_left; (focus (show Act.put _ (some 26) _ = _; simp only [Act.put, qzA, qzB, qzC, i64_w, i32_w]; rfl))
     refine pure_ (i := 2) (N := some 27) (v := ?_) (a' := ?_) (msk 31 3) rfl rfl (any_of HT_.out (by kernel_rfl)) (fun _ _ _ h => h) (Or.inl ⟨by rfl, ?_⟩) ?_ ?_; rotate_left; (focus (intro w'; go_simp; with_reducible rfl)); rotate_left; (focus (simp only [Act.put, qzA, qzB, qzC, i64_w, i32_w]; rfl))
     refine pure_ (i := 3) (N := some 28) (v := ?_) (a' := ?_) (msk 31 4) rfl rfl (any_of HT_.out (by kernel_rfl)) (fun _ _ _ h => h) (Or.inl ⟨by rfl, ?_⟩) ?_ ?_; rotate_left; (focus (intro w'; go_simp; with_reducible rfl)); rotate_left; (focus (simp only [Act.put, qzA, qzB, qzC, i64_w, i32_w]; rfl))
     refine pure_ (i := 4) (N := some 29) (v := ?_) (a' := ?_) (msk 31 5) rfl rfl (any_of HT_.out (by kernel_rfl)) (fun _ _ _ h => h) (Or.inl ⟨by rfl, ?_⟩) ?_ ?_; rotate_left; (focus (intro w'; go_simp; with_reducible rfl)); rotate_left; (focus (simp only [Act.put, qzA, qzB, qzC, i64_w, i32_w]; rfl))
     refine pure_ (i := 5) (N := some 30) (v := ?_) (a' := ?_) (msk 31 6) rfl rfl (any_of HT_.out (by kernel_rfl)) (fun _ _ _ h => h) (Or.inl ⟨by rfl, ?_⟩) ?_ ?_; rotate_left; (focus (intro w'; go_simp; with_reducible rfl)); rotate_left; (focus (simp only [Act.put, qzA, qzB, qzC, i64_w, i32_w]; rfl))
     refine take_ (i := 6) (N := some 31) (v := ?_) (a' := ?_) (msk 31 7) rfl rfl (take_ofW HT_.out HW_.out (by kernel_rfl)) (fun _ _ _ h => h) (Or.inl ⟨by rfl, ?_⟩) hHeld ?_ ?_; rotate_left; (focus (rintro w' ⟨s0, s1, s2, s3, s4, s5⟩; go_simp; with_reducible rfl)); rotate_left; (focus (simp only [Act.put, qzA, qzB, qzC, i64_w, i32_w]; rfl))
     refine pure_ (i := 7) (N := some 32) (v := ?_) (a' := ?_) (msk 31 8) rfl rfl (any_of HT_.out (by kernel_rfl)) (fun _ _ _ h => h) (Or.inl ⟨by rfl, ?_⟩) ?_ ?_; rotate_left; (focus (intro w'; go_simp; with_reducible rfl)); rotate_left; (focus (simp only [Act.put, qzA, qzB, qzC, i64_w, i32_w]; rfl))
     refine pure_ (i := 8) (N := some 33) (v := ?_) (a' := ?_) (msk 31 9) rfl rfl (any_of HT_.out (by kernel_rfl)) (fun _ _ _ h => h) (Or.inl ⟨by rfl, ?_⟩) ?_ ?_; rotate_left; (focus (intro w'; go_simp; with_reducible rfl)); rotate_left; (focus (simp only [Act.put, qzA, qzB, qzC, i64_w, i32_w]; rfl))
     refine one_ (i := 9) (N := some 34) (msk 31 10) rfl rfl (one_of HT_.out (by kernel_rfl)) (by decide) (fun K hK => ?_)
     refine goes_ Try.func55 (by kernel_rfl) rfl #[.int .i64 (n : Int), .int .i64 0, .int .i64 (wrap64 ((l0_0.length : Int) - 1))] (by rfl) rfl rfl (by (try simp only [List.map_toArray, List.map_cons, List.map_nil]); first | done | rfl | (simp only [List.length_drop, List.length_take]; rfl)) ?_
     refine (HIN.out _).mono ?_; rintro e w6 ⟨rfl, hb⟩; have HP5 := qab.mk (HT2.out w6 (P0.below hHeld.2.2.2.2.2.out hb)); clear hb; refine ⟨_, rfl, ?_⟩; refine hK.out _ _ HP5.out (fun hHeld => ?_); clear hK K; refine norm_ (a' := ?_) ?_ ?_; rotate_left; (focus (show Act.put _ (some 34) _ = _; simp only [Act.put, qzA, qzB, qzC, i64_w, i32_w]; rfl))
     refine pure_ (i := 10) (N := some 35) (v := ?_) (a' := ?_) (msk 31 11) rfl rfl (any_of HT_.out (by kernel_rfl)) (fun _ _ _ h => h) (Or.inl ⟨by rfl, ?_⟩) ?_ ?_; rotate_left; (focus (intro w'; go_simp; with_reducible rfl)); rotate_left; (focus (simp only [Act.put, qzA, qzB, qzC, i64_w, i32_w]; rfl))
     refine pure_ (i := 11) (N := some 36) (v := ?_) (a' := ?_) (msk 31 12) rfl rfl (any_of HT_.out (by kernel_rfl)) (fun _ _ _ h => h) (Or.inl ⟨by rfl, ?_⟩) ?_ ?_; rotate_left; (focus (intro w'; go_simp; with_reducible rfl)); rotate_left; (focus (simp only [Act.put, qzA, qzB, qzC, i64_w, i32_w]; rfl))
     refine pure_ (i := 12) (N := some 37) (v := ?_) (a' := ?_) (msk 31 13) rfl rfl (any_of HT_.out (by kernel_rfl)) (fun _ _ _ h => h) (Or.inl ⟨by rfl, ?_⟩) ?_ ?_; rotate_left; (focus (intro w'; go_simp; with_reducible rfl)); rotate_left; (focus (simp only [Act.put, qzA, qzB, qzC, i64_w, i32_w]; rfl))
     refine pure_ (i := 13) (N := some 38) (v := ?_) (a' := ?_) (msk 31 14) rfl rfl (any_of HT_.out (by kernel_rfl)) (fun _ _ _ h => h) (Or.inl ⟨by rfl, ?_⟩) ?_ ?_; rotate_left; (focus (intro w'; go_simp; with_reducible rfl)); rotate_left; (focus (simp only [Act.put, qzA, qzB, qzC, i64_w, i32_w]; rfl))
     refine pure_ (i := 14) (N := some 39) (v := ?_) (a' := ?_) (msk 31 15) rfl rfl (any_of HT_.out (by kernel_rfl)) (fun _ _ _ h => h) (Or.inl ⟨by rfl, ?_⟩) ?_ ?_; rotate_left; (focus (intro w'; go_simp; with_reducible rfl)); rotate_left; (focus (simp only [Act.put, qzA, qzB, qzC, i64_w, i32_w]; rfl))
     refine take_ (i := 15) (N := some 40) (v := ?_) (a' := ?_) (msk 31 16) rfl rfl (take_ofW HT_.out HW_.out (by kernel_rfl)) (fun _ _ _ h => h) (Or.inl ⟨by rfl, ?_⟩) hHeld ?_ ?_; rotate_left; (focus (rintro w' ⟨s0, s1, s2, s3, s4, s5⟩; go_simp; with_reducible rfl)); rotate_left; (focus (simp only [Act.put, qzA, qzB, qzC, i64_w, i32_w]; rfl))
     refine pure_ (i := 16) (N := some 41) (v := ?_) (a' := ?_) (msk 31 17) rfl rfl (any_of HT_.out (by kernel_rfl)) (fun _ _ _ h => h) (Or.inl ⟨by rfl, ?_⟩) ?_ ?_; rotate_left; (focus (intro w'; go_simp; with_reducible rfl)); rotate_left; (focus (simp only [Act.put, qzA, qzB, qzC, i64_w, i32_w]; rfl))
     refine pure_ (i := 17) (N := some 42) (v := ?_) (a' := ?_) (msk 31 18) rfl rfl (any_of HT_.out (by kernel_rfl)) (fun _ _ _ h => h) (Or.inl ⟨by rfl, ?_⟩) ?_ ?_; rotate_left; (focus (intro w'; go_simp; with_reducible rfl)); rotate_left; (focus (simp only [Act.put, qzA, qzB, qzC, i64_w, i32_w]; rfl))
     refine pure_ (i := 18) (N := some 43) (v := ?_) (a' := ?_) (msk 31 19) rfl rfl (any_of HT_.out (by kernel_rfl)) (fun _ _ _ h => h) (Or.inl ⟨by rfl, ?_⟩) ?_ ?_; rotate_left; (focus (intro w'; go_simp; with_reducible rfl)); rotate_left; (focus (simp only [Act.put, qzA, qzB, qzC, i64_w, i32_w]; rfl))
     refine pure_ (i := 19) (N := some 44) (v := ?_) (a' := ?_) (msk 31 20) rfl rfl (any_of HT_.out (by kernel_rfl)) (fun _ _ _ h => h) (Or.inl ⟨by rfl, ?_⟩) ?_ ?_; rotate_left; (focus (intro w'; go_simp; with_reducible rfl)); rotate_left; (focus (simp only [Act.put, qzA, qzB, qzC, i64_w, i32_w]; rfl))
     refine take_ (i := 20) (N := some 45) (v := ?_) (a' := ?_) (msk 31 21) rfl rfl (take_ofW HT_.out HW_.out (by kernel_rfl)) (fun _ _ _ h => h) (Or.inl ⟨by rfl, ?_⟩) hHeld ?_ ?_; rotate_left; (focus (rintro w' ⟨s0, s1, s2, s3, s4, s5⟩; go_simp; with_reducible rfl)); rotate_left; (focus (simp only [Act.put, qzA, qzB, qzC, i64_w, i32_w]; rfl))
     refine pure_ (i := 21) (N := some 46) (v := ?_) (a' := ?_) (msk 31 22) rfl rfl (any_of HT_.out (by kernel_rfl)) (fun _ _ _ h => h) (Or.inl ⟨by rfl, ?_⟩) ?_ ?_; rotate_left; (focus (intro w'; go_simp; with_reducible rfl)); rotate_left; (focus (simp only [Act.put, qzA, qzB, qzC, i64_w, i32_w]; rfl))
     refine take_ (i := 22) (N := some 47) (v := ?_) (a' := ?_) (msk 31 23) rfl rfl (take_ofW HT_.out HW_.out (by kernel_rfl)) (fun _ _ _ h => h) (Or.inl ⟨by rfl, ?_⟩) hHeld ?_ ?_; rotate_left; (focus (rintro w' ⟨s0, s1, s2, s3, s4, s5⟩; go_simp; with_reducible rfl)); rotate_left; (focus (simp only [Act.put, qzA, qzB, qzC, i64_w, i32_w]; rfl))
     refine pure_ (i := 23) (N := some 48) (v := ?_) (a' := ?_) (msk 31 24) rfl rfl (any_of HT_.out (by kernel_rfl)) (fun _ _ _ h => h) (Or.inl ⟨by rfl, ?_⟩) ?_ ?_; rotate_left; (focus (intro w'; go_simp; with_reducible rfl)); rotate_left; (focus (simp only [Act.put, qzA, qzB, qzC, i64_w, i32_w]; rfl))
     refine pure_ (i := 24) (N := some 49) (v := ?_) (a' := ?_) (msk 31 25) rfl rfl (any_of HT_.out (by kernel_rfl)) (fun _ _ _ h => h) (Or.inl ⟨by rfl, ?_⟩) ?_ ?_; rotate_left; (focus (intro w'; go_simp; with_reducible rfl)); rotate_left; (focus (simp only [Act.put, qzA, qzB, qzC, i64_w, i32_w]; rfl))
     refine pure_ (i := 25) (N := some 50) (v := ?_) (a' := ?_) (msk 31 26) rfl rfl (any_of HT_.out (by kernel_rfl)) (fun _ _ _ h => h) (Or.inl ⟨by rfl, ?_⟩) ?_ ?_; rotate_left; (focus (intro w'; go_simp; with_reducible rfl)); rotate_left; (focus (simp only [Act.put, qzA, qzB, qzC, i64_w, i32_w]; rfl))
     refine pure_ (i := 26) (N := some 51) (v := ?_) (a' := ?_) (msk 31 27) rfl rfl (any_of HT_.out (by kernel_rfl)) (fun _ _ _ h => h) (Or.inl ⟨by rfl, ?_⟩) ?_ ?_; rotate_left; (focus (intro w'; go_simp; with_reducible rfl)); rotate_left; (focus (simp only [Act.put, qzA, qzB, qzC, i64_w, i32_w]; rfl))
     refine take_ (i := 27) (N := some 52) (v := ?_) (a' := ?_) (msk 31 28) rfl rfl (take_ofW HT_.out HW_.out (by kernel_rfl)) (fun _ _ _ h => h) (Or.inl ⟨by rfl, ?_⟩) hHeld ?_ ?_; rotate_left; (focus (rintro w' ⟨s0, s1, s2, s3, s4, s5⟩; go_simp; with_reducible rfl)); rotate_left; (focus (simp only [Act.put, qzA, qzB, qzC, i64_w, i32_w]; rfl))
     refine one_ (i := 28) (N := some 53) (msk 31 29) rfl rfl (one_of HT_.out (by kernel_rfl)) (by decide) (fun K hK => ?_)
     refine goes_ Try.func55 (by kernel_rfl) rfl #[.int .i64 a2, .int .i64 b0, .int .i64 b1] (by rfl) rfl rfl (by (try simp only [List.map_toArray, List.map_cons, List.map_nil]); first | done | rfl | (simp only [List.length_drop, List.length_take]; rfl)) ?_
     refine (in_calls a2 b0 b1 _).mono ?_; rintro e w7 ⟨rfl, hb⟩; have HP9 := qab.mk (HT2.out w7 (P0.below hHeld.2.2.2.2.2.out hb)); clear hb; refine ⟨_, rfl, ?_⟩; refine hK.out _ _ HP9.out (fun hHeld => ?_); clear hK K; refine norm_ (a' := ?_) ?_ ?_; rotate_left; (focus (show Act.put _ (some 53) _ = _; simp only [Act.put, qzA, qzB, qzC, i64_w, i32_w]; rfl))
     refine pure_ (i := 29) (N := some 54) (v := ?_) (a' := ?_) (msk 31 30) rfl rfl (any_of HT_.out (by kernel_rfl)) (fun _ _ _ h => h) (Or.inl ⟨by rfl, ?_⟩) ?_ ?_; rotate_left; (focus (intro w'; go_simp; with_reducible rfl)); rotate_left; (focus (simp only [Act.put, qzA, qzB, qzC, i64_w, i32_w]; rfl))
     refine pure_ (i := 30) (N := some 55) (v := ?_) (a' := ?_) (msk 31 31) rfl rfl (any_of HT_.out (by kernel_rfl)) (fun _ _ _ h => h) (Or.inl ⟨by rfl, ?_⟩) ?_ ?_; rotate_left; (focus (intro w'; go_simp; with_reducible rfl)); rotate_left; (focus (simp only [Act.put, qzA, qzB, qzC, i64_w, i32_w]; rfl))
     refine done_ (done_of HT_.out (by kernel_rfl)) ?_
     try go_wp2
     go_meet
     case rel => exact ⟨_, rfl, ⟨rfl⟩, HP9.out.2.2.2.2.2⟩
  case rest =>
   clear HP BKgb BKg8 HB
   obtain ⟨nok, rfl, HNK, HP⟩ := hcut
   have BKg8 := qab.mk HP.out.r
   have BKgb := qab.mk HP.out.b
   have HB := qab.mk HP.out.hb
   clear HP
   cases nok with
   | true =>
    obtain rfl : ok = false := by have := HNK.out; simpa using this.symm
    have he := HF2.out
    rw [if_neg (by simp)] at he
    cases he
    obtain ⟨hfg8, hcg8_0, hcg8_1, hcg8_2, hcg8_3⟩ := qz4 BKg8.out
    go_wp2_with fail
    refine bodyPost_ret (results_ct rfl _ _ g8 31 #[.int .i64 0, .int .i64 0, .int .i64 0, .int .i64 0] (0, 0) _ rfl ((blk_set (blk_set (blk_set (blk_set BKg8.out 0 _) 1 _) 2 _) 3 _)) Try.underlying31 rfl (by kernel_rfl)) rfl ?_
    exact ⟨rfl, (qai (j := 3) (qai (j := 2) (qai (j := 1) (qai (j := 0) HB.out GEg8) GEg8) GEg8) GEg8)⟩
   | false =>
    obtain rfl : ok = true := by have := HNK.out; simpa using this.symm
    clear HNK
    have hok := HOK.out
    clear HOK
    have hok2 := hok.symm
    simp only [Bool.and_eq_true] at hok2
    obtain ⟨hv, hi, _⟩ := hok2
    obtain ⟨i0, i1⟩ : 0 ≤ a1 ∧ a1 < l0_0.length := by
     have hl := valid_five hv
     unfold inB at hi
     simp only [Bool.and_eq_true, decide_eq_true_eq] at hi
     unfold wrap64 at hi
     omega
    clear hok hv hi
    have HF3 : qab (heatR (playGo (qaj l0_0 a1) l3 l0_1 (a2, 0, 0, 0)) = (r1, r2, r3, r4, r5)) := ⟨by rw [← HF2.out, if_pos rfl]⟩
    clear HF2 HF
    obtain ⟨ad, e, hl0, hl1, hl2, hl3, hl4, hl5, hl6, hl7, hl8, hl9, hl10, hl11⟩ := at_T39 HR0.out a1 i0 i1
    cases e
    obtain ⟨n, rfl⟩ := Int.eq_ofNat_of_zero_le i0
    simp only [Int.toNat_natCast] at hl0 hl1 hl2 hl3 hl4 hl5 hl6 hl7 hl8 hl9 hl10 hl11
    generalize qaj l0_0 n = L at HF3 hl0 hl1 hl2 hl3 hl4 hl5 hl6 hl7 hl8 hl9 hl10 hl11
    replace hl0 := (HB.out.cell (World.block_lt_of_cell? w _ hl0)).trans hl0; replace hl1 := (HB.out.cell (World.block_lt_of_cell? w _ hl1)).trans hl1; replace hl2 := (HB.out.cell (World.block_lt_of_cell? w _ hl2)).trans hl2; replace hl3 := (HB.out.cell (World.block_lt_of_cell? w _ hl3)).trans hl3; replace hl4 := (HB.out.cell (World.block_lt_of_cell? w _ hl4)).trans hl4; replace hl5 := (HB.out.cell (World.block_lt_of_cell? w _ hl5)).trans hl5; replace hl6 := (HB.out.cell (World.block_lt_of_cell? w _ hl6)).trans hl6; replace hl7 := (HB.out.cell (World.block_lt_of_cell? w _ hl7)).trans hl7; replace hl8 := (HB.out.cell (World.block_lt_of_cell? w _ hl8)).trans hl8; replace hl9 := (HB.out.cell (World.block_lt_of_cell? w _ hl9)).trans hl9; replace hl10 := (HB.out.cell (World.block_lt_of_cell? w _ hl10)).trans hl10; replace hl11 := (HB.out.cell (World.block_lt_of_cell? w _ hl11)).trans hl11
    obtain ⟨hfgb, hcgb_0, hcgb_1, hcgb_2⟩ := qz3 BKgb.out
    have ne_8b := blk_ne BKg8.out BKgb.out (by decide)
    go_upto_region 6 with ((with_reducible refine qam (N := 10) rfl ?_); refine qal ?hg (N := 10) ?hd (cs := #[.int .i64 0, .int .i64 0, .int .i64 0, .int .i64 0, .int .i64 0, .int .i64 0, .int .i64 0, .int .i64 0, .int .i64 0, .int .i64 0, .int .i64 0, .int .i64 0]) (t := 39) ?hr ?_; (case hd => rfl); (case hg => rfl); (case hr => first | (go_simp; done) | (go_simp; rfl)); intro g10 hg_g10 w5 hbox hb; have BKg10 := qab.mk hbox; have ne_gb_g10 : gb ≠ g10 := (by rw [hg_g10]; exact Nat.ne_of_lt (blk_lt BKgb.out)); have ne_g8_g10 : g8 ≠ g10 := (by rw [hg_g10]; exact Nat.ne_of_lt (blk_lt BKg8.out)); replace BKgb := qab.mk (qae BKgb.out hb); replace BKg8 := qab.mk (qae BKg8.out hb); have n_HB := qab.mk (qad HB.out hb); have GEg10 : w.heap.size ≤ g10 := (by rw [hg_g10]; exact HB.out.size); clear HB; have HB := n_HB; clear n_HB; obtain ⟨hfg10, hcg10_0, hcg10_1, hcg10_2, hcg10_3, hcg10_4, hcg10_5, hcg10_6, hcg10_7, hcg10_8, hcg10_9, hcg10_10, hcg10_11⟩ := qz12 BKg10.out; clear hbox hb hg_g10)
    have he_ : setAll w5 g10 [.int .i64 L.f0.f0, .int .i64 L.f0.f1, .int .i64 L.f1.f0, .int .i64 L.f1.f1, .int .i64 L.f2.f0, .int .i64 L.f2.f1, .int .i64 L.f3, .int .i64 L.f4, .int .i64 L.f5, .int .i64 L.f6, .int .i64 L.f7.f0, .int .i64 L.f7.f1] 0 = ((((((((((((w5.setCell ⟨g10, 0, none⟩ (.int .i64 L.f0.f0)).setCell ⟨g10, 1, none⟩ (.int .i64 L.f0.f1)).setCell ⟨g10, 2, none⟩ (.int .i64 L.f1.f0)).setCell ⟨g10, 3, none⟩ (.int .i64 L.f1.f1)).setCell ⟨g10, 4, none⟩ (.int .i64 L.f2.f0)).setCell ⟨g10, 5, none⟩ (.int .i64 L.f2.f1)).setCell ⟨g10, 6, none⟩ (.int .i64 L.f3)).setCell ⟨g10, 7, none⟩ (.int .i64 L.f4)).setCell ⟨g10, 8, none⟩ (.int .i64 L.f5)).setCell ⟨g10, 9, none⟩ (.int .i64 L.f6)).setCell ⟨g10, 10, none⟩ (.int .i64 L.f7.f0)).setCell ⟨g10, 11, none⟩ (.int .i64 L.f7.f1)) := rfl; have hbl := setAll_below GEg10 [.int .i64 L.f0.f0, .int .i64 L.f0.f1, .int .i64 L.f1.f0, .int .i64 L.f1.f1, .int .i64 L.f2.f0, .int .i64 L.f2.f1, .int .i64 L.f3, .int .i64 L.f4, .int .i64 L.f5, .int .i64 L.f6, .int .i64 L.f7.f0, .int .i64 L.f7.f1] 0 _ HB.out; have hbx : (setAll w5 g10 [.int .i64 L.f0.f0, .int .i64 L.f0.f1, .int .i64 L.f1.f0, .int .i64 L.f1.f1, .int .i64 L.f2.f0, .int .i64 L.f2.f1, .int .i64 L.f3, .int .i64 L.f4, .int .i64 L.f5, .int .i64 L.f6, .int .i64 L.f7.f0, .int .i64 L.f7.f1] 0).heap[g10]? = some (.cells #[.int .i64 L.f0.f0, .int .i64 L.f0.f1, .int .i64 L.f1.f0, .int .i64 L.f1.f1, .int .i64 L.f2.f0, .int .i64 L.f2.f1, .int .i64 L.f3, .int .i64 L.f4, .int .i64 L.f5, .int .i64 L.f6, .int .i64 L.f7.f0, .int .i64 L.f7.f1] 39 (0, 0)) := setAll_new [.int .i64 L.f0.f0, .int .i64 L.f0.f1, .int .i64 L.f1.f0, .int .i64 L.f1.f1, .int .i64 L.f2.f0, .int .i64 L.f2.f1, .int .i64 L.f3, .int .i64 L.f4, .int .i64 L.f5, .int .i64 L.f6, .int .i64 L.f7.f0, .int .i64 L.f7.f1] [.int .i64 0, .int .i64 0, .int .i64 0, .int .i64 0, .int .i64 0, .int .i64 0, .int .i64 0, .int .i64 0, .int .i64 0, .int .i64 0, .int .i64 0, .int .i64 0] BKg10.out rfl; have hx_BKgb := setAll_far ne_gb_g10 [.int .i64 L.f0.f0, .int .i64 L.f0.f1, .int .i64 L.f1.f0, .int .i64 L.f1.f1, .int .i64 L.f2.f0, .int .i64 L.f2.f1, .int .i64 L.f3, .int .i64 L.f4, .int .i64 L.f5, .int .i64 L.f6, .int .i64 L.f7.f0, .int .i64 L.f7.f1] 0 _ BKgb.out; have hx_BKg8 := setAll_far ne_g8_g10 [.int .i64 L.f0.f0, .int .i64 L.f0.f1, .int .i64 L.f1.f0, .int .i64 L.f1.f1, .int .i64 L.f2.f0, .int .i64 L.f2.f1, .int .i64 L.f3, .int .i64 L.f4, .int .i64 L.f5, .int .i64 L.f6, .int .i64 L.f7.f0, .int .i64 L.f7.f1] 0 _ BKg8.out; rw [he_] at hbl hbx hx_BKgb hx_BKg8; clear he_; generalize ((((((((((((w5.setCell ⟨g10, 0, none⟩ (.int .i64 L.f0.f0)).setCell ⟨g10, 1, none⟩ (.int .i64 L.f0.f1)).setCell ⟨g10, 2, none⟩ (.int .i64 L.f1.f0)).setCell ⟨g10, 3, none⟩ (.int .i64 L.f1.f1)).setCell ⟨g10, 4, none⟩ (.int .i64 L.f2.f0)).setCell ⟨g10, 5, none⟩ (.int .i64 L.f2.f1)).setCell ⟨g10, 6, none⟩ (.int .i64 L.f3)).setCell ⟨g10, 7, none⟩ (.int .i64 L.f4)).setCell ⟨g10, 8, none⟩ (.int .i64 L.f5)).setCell ⟨g10, 9, none⟩ (.int .i64 L.f6)).setCell ⟨g10, 10, none⟩ (.int .i64 L.f7.f0)).setCell ⟨g10, 11, none⟩ (.int .i64 L.f7.f1)) = w6 at hbl hbx hx_BKgb hx_BKg8 ⊢; clear HB BKg10; have HB := qab.mk hbl; have BKg10 := qab.mk hbx; clear hbl hbx; clear BKgb; have BKgb := qab.mk hx_BKgb; clear hx_BKgb; clear BKg8; have BKg8 := qab.mk hx_BKg8; clear hx_BKg8
    clear hfgb hcgb_0 hcgb_1 hcgb_2 hl0 hl1 hl2 hl3 hl4 hl5 hl6 hl7 hl8 hl9 hl10 hl11
    go_upto_region 7 with ((with_reducible refine qam (N := 11) rfl ?_); refine qal ?hg (N := 11) ?hd (cs := #[.int .i64 0, .int .i64 0, .int .i64 0, .int .i64 0]) (t := 31) ?hr ?_; (case hd => rfl); (case hg => rfl); (case hr => first | (go_simp; done) | (go_simp; rfl)); intro g11 hg_g11 w7 hbox hb; have BKg11 := qab.mk hbox; have ne_gb_g11 : gb ≠ g11 := (by rw [hg_g11]; exact Nat.ne_of_lt (blk_lt BKgb.out)); have ne_g8_g11 : g8 ≠ g11 := (by rw [hg_g11]; exact Nat.ne_of_lt (blk_lt BKg8.out)); have ne_g10_g11 : g10 ≠ g11 := (by rw [hg_g11]; exact Nat.ne_of_lt (blk_lt BKg10.out)); replace BKgb := qab.mk (qae BKgb.out hb); replace BKg8 := qab.mk (qae BKg8.out hb); replace BKg10 := qab.mk (qae BKg10.out hb); have n_HB := qab.mk (qad HB.out hb); have GEg11 : w.heap.size ≤ g11 := (by rw [hg_g11]; exact HB.out.size); clear HB; have HB := n_HB; clear n_HB; obtain ⟨hfg11, hcg11_0, hcg11_1, hcg11_2, hcg11_3⟩ := qz4 BKg11.out; clear hbox hb hg_g11)
    have he_ : setAll w7 g11 [.int .i64 a2, .int .i64 0, .int .i64 0, .int .i64 0] 0 = ((((w7.setCell ⟨g11, 0, none⟩ (.int .i64 a2)).setCell ⟨g11, 1, none⟩ (.int .i64 0)).setCell ⟨g11, 2, none⟩ (.int .i64 0)).setCell ⟨g11, 3, none⟩ (.int .i64 0)) := rfl; have hbl := setAll_below GEg11 [.int .i64 a2, .int .i64 0, .int .i64 0, .int .i64 0] 0 _ HB.out; have hbx : (setAll w7 g11 [.int .i64 a2, .int .i64 0, .int .i64 0, .int .i64 0] 0).heap[g11]? = some (.cells #[.int .i64 a2, .int .i64 0, .int .i64 0, .int .i64 0] 31 (0, 0)) := setAll_new [.int .i64 a2, .int .i64 0, .int .i64 0, .int .i64 0] [.int .i64 0, .int .i64 0, .int .i64 0, .int .i64 0] BKg11.out rfl; have hx_BKgb := setAll_far ne_gb_g11 [.int .i64 a2, .int .i64 0, .int .i64 0, .int .i64 0] 0 _ BKgb.out; have hx_BKg8 := setAll_far ne_g8_g11 [.int .i64 a2, .int .i64 0, .int .i64 0, .int .i64 0] 0 _ BKg8.out; have hx_BKg10 := setAll_far ne_g10_g11 [.int .i64 a2, .int .i64 0, .int .i64 0, .int .i64 0] 0 _ BKg10.out; rw [he_] at hbl hbx hx_BKgb hx_BKg8 hx_BKg10; clear he_; generalize ((((w7.setCell ⟨g11, 0, none⟩ (.int .i64 a2)).setCell ⟨g11, 1, none⟩ (.int .i64 0)).setCell ⟨g11, 2, none⟩ (.int .i64 0)).setCell ⟨g11, 3, none⟩ (.int .i64 0)) = w8 at hbl hbx hx_BKgb hx_BKg8 hx_BKg10 ⊢; clear HB BKg11; have HB := qab.mk hbl; have BKg11 := qab.mk hbx; clear hbl hbx; clear BKgb; have BKgb := qab.mk hx_BKgb; clear hx_BKgb; clear BKg8; have BKg8 := qab.mk hx_BKg8; clear hx_BKg8; clear BKg10; have BKg10 := qab.mk hx_BKg10; clear hx_BKg10
    have HP : qab (PI w gb g8 g10 g11 #[.slice (some ad) l0_0.length c0_0, .slice A0_1 l0_1.length c0_1, .slice A0_2 l0_2.length c0_2] L (a2, 0, 0, 0) w8) := ⟨⟨BKgb.out, BKg8.out, BKg10.out, BKg11.out, HB.out, GEg11, ne_g8_g11⟩⟩
    clear BKgb BKg8 BKg10 BKg11 HB hfg8 hfg10 hfg11
    go_wp2_with fail
    clear hcg8_0 hcg8_1 hcg8_2 hcg8_3 hcg10_0 hcg10_1 hcg10_2 hcg10_3 hcg10_4 hcg10_5 hcg10_6 hcg10_7 hcg10_8 hcg10_9 hcg10_10 hcg10_11 hcg11_0 hcg11_1 hcg11_2 hcg11_3
    go_loopw [66] (fun s66 wr => ∃ (k : Nat) (x : Heat4), k ≤ l3.length ∧ s66 = .int .i64 k ∧ qab (heatR (playGo L (l3.drop k) (l0_1.drop k) x) = (r1, r2, r3, r4, r5)) ∧ qab (PI w gb g8 g10 g11 #[.slice (some ad) l0_0.length c0_0, .slice A0_1 l0_1.length c0_1, .slice A0_2 l0_2.length c0_2] L x wr)) (fun s _ => l3.length - (intOf s).toNat)
    case atStart => exact ⟨0, (a2, 0, 0, 0), by omega, rfl, HF3, HP⟩
    case round =>
     clear HP HF3
     obtain ⟨k, x, hk, rfl, HF, HP⟩ := hrel
     by_cases hlt : k < l3.length
     ·
      have hki : (k : Int) < l3.length := by omega
      have hk1 : (k : Int) < l0_1.length := by omega
      obtain ⟨ad3, e, ht0, ht1, ht2⟩ := at_T44 HR3.out k (by omega) hki
      cases e
      obtain ⟨ad1, e, hq0, hq1⟩ := at_T37 HR1.out k (by omega) hk1
      cases e
      simp only [Int.toNat_natCast] at ht0 ht1 ht2 hq0 hq1
      have hrd := playGo_step L l3 l0_1 k hlt (by omega) x
      have HD := qab.mk hrd
      clear hrd
      generalize rd_T44 l3 k = T at HD ht0 ht1 ht2
      generalize rd_T37 l0_1 k = F at HD hq0 hq1
      replace ht0 := ((qab.mk HP.out.hb).out.cell (World.block_lt_of_cell? w _ ht0)).trans ht0; replace ht1 := ((qab.mk HP.out.hb).out.cell (World.block_lt_of_cell? w _ ht1)).trans ht1; replace ht2 := ((qab.mk HP.out.hb).out.cell (World.block_lt_of_cell? w _ ht2)).trans ht2
      have BKgb := qab.mk HP.out.b
      have BKg8 := qab.mk HP.out.r
      have BKg10 := qab.mk HP.out.l
      have BKg11 := qab.mk HP.out.o
      have HB := qab.mk HP.out.hb
      clear HP
      go_upto_region 10 with ((with_reducible refine qam (N := 13) rfl ?_); refine qal ?hg (N := 13) ?hd (cs := #[.int .i64 0, .int .i64 0, .bool false]) (t := 44) ?hr ?_; (case hd => rfl); (case hg => rfl); (case hr => first | (go_simp; done) | (go_simp; rfl)); intro g13 hg_g13 w11 hbox hb; have BKg13 := qab.mk hbox; have ne_gb_g13 : gb ≠ g13 := (by rw [hg_g13]; exact Nat.ne_of_lt (blk_lt BKgb.out)); have ne_g8_g13 : g8 ≠ g13 := (by rw [hg_g13]; exact Nat.ne_of_lt (blk_lt BKg8.out)); have ne_g10_g13 : g10 ≠ g13 := (by rw [hg_g13]; exact Nat.ne_of_lt (blk_lt BKg10.out)); have ne_g11_g13 : g11 ≠ g13 := (by rw [hg_g13]; exact Nat.ne_of_lt (blk_lt BKg11.out)); replace BKgb := qab.mk (qae BKgb.out hb); replace BKg8 := qab.mk (qae BKg8.out hb); replace BKg10 := qab.mk (qae BKg10.out hb); replace BKg11 := qab.mk (qae BKg11.out hb); have n_HB := qab.mk (qad HB.out hb); have GEg13 : w.heap.size ≤ g13 := (by rw [hg_g13]; exact HB.out.size); clear HB; have HB := n_HB; clear n_HB; obtain ⟨hfg13, hcg13_0, hcg13_1, hcg13_2⟩ := qz3 BKg13.out; clear hbox hb hg_g13)
      have he_ : setAll w11 g13 [.int .i64 T.f0, .int .i64 T.f1, .bool T.f2] 0 = (((w11.setCell ⟨g13, 0, none⟩ (.int .i64 T.f0)).setCell ⟨g13, 1, none⟩ (.int .i64 T.f1)).setCell ⟨g13, 2, none⟩ (.bool T.f2)) := rfl; have hbl := setAll_below GEg13 [.int .i64 T.f0, .int .i64 T.f1, .bool T.f2] 0 _ HB.out; have hbx : (setAll w11 g13 [.int .i64 T.f0, .int .i64 T.f1, .bool T.f2] 0).heap[g13]? = some (.cells #[.int .i64 T.f0, .int .i64 T.f1, .bool T.f2] 44 (0, 0)) := setAll_new [.int .i64 T.f0, .int .i64 T.f1, .bool T.f2] [.int .i64 0, .int .i64 0, .bool false] BKg13.out rfl; have hx_BKgb := setAll_far ne_gb_g13 [.int .i64 T.f0, .int .i64 T.f1, .bool T.f2] 0 _ BKgb.out; have hx_BKg8 := setAll_far ne_g8_g13 [.int .i64 T.f0, .int .i64 T.f1, .bool T.f2] 0 _ BKg8.out; have hx_BKg10 := setAll_far ne_g10_g13 [.int .i64 T.f0, .int .i64 T.f1, .bool T.f2] 0 _ BKg10.out; have hx_BKg11 := setAll_far ne_g11_g13 [.int .i64 T.f0, .int .i64 T.f1, .bool T.f2] 0 _ BKg11.out; rw [he_] at hbl hbx hx_BKgb hx_BKg8 hx_BKg10 hx_BKg11; clear he_; generalize (((w11.setCell ⟨g13, 0, none⟩ (.int .i64 T.f0)).setCell ⟨g13, 1, none⟩ (.int .i64 T.f1)).setCell ⟨g13, 2, none⟩ (.bool T.f2)) = w12 at hbl hbx hx_BKgb hx_BKg8 hx_BKg10 hx_BKg11 ⊢; clear HB BKg13; have HB := qab.mk hbl; have BKg13 := qab.mk hbx; clear hbl hbx; clear BKgb; have BKgb := qab.mk hx_BKgb; clear hx_BKgb; clear BKg8; have BKg8 := qab.mk hx_BKg8; clear hx_BKg8; clear BKg10; have BKg10 := qab.mk hx_BKg10; clear hx_BKg10; clear BKg11; have BKg11 := qab.mk hx_BKg11; clear hx_BKg11
      clear ht0 ht1 ht2 hcg13_0 hcg13_1 hcg13_2
      obtain ⟨hfgb, hcgb_0, hcgb_1⟩ := qz2 BKgb.out
      replace hq0 := (HB.out.cell (World.block_lt_of_cell? w _ hq0)).trans hq0; replace hq1 := (HB.out.cell (World.block_lt_of_cell? w _ hq1)).trans hq1
      go_upto_region 11 with ((with_reducible refine qam (N := 14) rfl ?_); refine qal ?hg (N := 14) ?hd (cs := #[.int .i64 0, .int .i64 0]) (t := 37) ?hr ?_; (case hd => rfl); (case hg => rfl); (case hr => first | (go_simp; done) | (go_simp; rfl)); intro g14 hg_g14 w13 hbox hb; have BKg14 := qab.mk hbox; have ne_gb_g14 : gb ≠ g14 := (by rw [hg_g14]; exact Nat.ne_of_lt (blk_lt BKgb.out)); have ne_g8_g14 : g8 ≠ g14 := (by rw [hg_g14]; exact Nat.ne_of_lt (blk_lt BKg8.out)); have ne_g10_g14 : g10 ≠ g14 := (by rw [hg_g14]; exact Nat.ne_of_lt (blk_lt BKg10.out)); have ne_g11_g14 : g11 ≠ g14 := (by rw [hg_g14]; exact Nat.ne_of_lt (blk_lt BKg11.out)); have ne_g13_g14 : g13 ≠ g14 := (by rw [hg_g14]; exact Nat.ne_of_lt (blk_lt BKg13.out)); replace BKgb := qab.mk (qae BKgb.out hb); replace BKg8 := qab.mk (qae BKg8.out hb); replace BKg10 := qab.mk (qae BKg10.out hb); replace BKg11 := qab.mk (qae BKg11.out hb); replace BKg13 := qab.mk (qae BKg13.out hb); have n_HB := qab.mk (qad HB.out hb); have GEg14 : w.heap.size ≤ g14 := (by rw [hg_g14]; exact HB.out.size); clear HB; have HB := n_HB; clear n_HB; obtain ⟨hfg14, hcg14_0, hcg14_1⟩ := qz2 BKg14.out; clear hbox hb hg_g14)
      have he_ : setAll w13 g14 [.int .i64 F.f0, .int .i64 F.f1] 0 = ((w13.setCell ⟨g14, 0, none⟩ (.int .i64 F.f0)).setCell ⟨g14, 1, none⟩ (.int .i64 F.f1)) := rfl; have hbl := setAll_below GEg14 [.int .i64 F.f0, .int .i64 F.f1] 0 _ HB.out; have hbx : (setAll w13 g14 [.int .i64 F.f0, .int .i64 F.f1] 0).heap[g14]? = some (.cells #[.int .i64 F.f0, .int .i64 F.f1] 37 (0, 0)) := setAll_new [.int .i64 F.f0, .int .i64 F.f1] [.int .i64 0, .int .i64 0] BKg14.out rfl; have hx_BKgb := setAll_far ne_gb_g14 [.int .i64 F.f0, .int .i64 F.f1] 0 _ BKgb.out; have hx_BKg8 := setAll_far ne_g8_g14 [.int .i64 F.f0, .int .i64 F.f1] 0 _ BKg8.out; have hx_BKg10 := setAll_far ne_g10_g14 [.int .i64 F.f0, .int .i64 F.f1] 0 _ BKg10.out; have hx_BKg11 := setAll_far ne_g11_g14 [.int .i64 F.f0, .int .i64 F.f1] 0 _ BKg11.out; have hx_BKg13 := setAll_far ne_g13_g14 [.int .i64 F.f0, .int .i64 F.f1] 0 _ BKg13.out; rw [he_] at hbl hbx hx_BKgb hx_BKg8 hx_BKg10 hx_BKg11 hx_BKg13; clear he_; generalize ((w13.setCell ⟨g14, 0, none⟩ (.int .i64 F.f0)).setCell ⟨g14, 1, none⟩ (.int .i64 F.f1)) = w14 at hbl hbx hx_BKgb hx_BKg8 hx_BKg10 hx_BKg11 hx_BKg13 ⊢; clear HB BKg14; have HB := qab.mk hbl; have BKg14 := qab.mk hbx; clear hbl hbx; clear BKgb; have BKgb := qab.mk hx_BKgb; clear hx_BKgb; clear BKg8; have BKg8 := qab.mk hx_BKg8; clear hx_BKg8; clear BKg10; have BKg10 := qab.mk hx_BKg10; clear hx_BKg10; clear BKg11; have BKg11 := qab.mk hx_BKg11; clear hx_BKg11; clear BKg13; have BKg13 := qab.mk hx_BKg13; clear hx_BKg13
      have HT : qab (TI w gb g8 g10 g11 g13 g14 #[.slice (some ad) l0_0.length c0_0, .slice (some ad1) l0_1.length c0_1, .slice A0_2 l0_2.length c0_2] L T F x w14) := ⟨⟨⟨BKgb.out, BKg8.out, BKg10.out, BKg11.out, HB.out, GEg11, ne_g8_g11⟩, BKg13.out, BKg14.out⟩⟩
      clear BKgb BKg8 BKg10 BKg11 BKg13 BKg14 HB hfgb hcgb_0 hcgb_1 hcg14_0 hcg14_1 hq0 hq1
      have h_t0 : w14.cell? ⟨g13, 0, none⟩ = some (.int .i64 T.f0) := (qaa HT.out.t 0).trans rfl; have h_t1 : w14.cell? ⟨g13, 1, none⟩ = some (.int .i64 T.f1) := (qaa HT.out.t 1).trans rfl; have h_l2 : w14.cell? ⟨g10, 2, none⟩ = some (.int .i64 L.f1.f0) := (qaa HT.out.p.l 2).trans rfl; have h_l3 : w14.cell? ⟨g10, 3, none⟩ = some (.int .i64 L.f1.f1) := (qaa HT.out.p.l 3).trans rfl; have h_f0 : w14.cell? ⟨g14, 0, none⟩ = some (.int .i64 F.f0) := (qaa HT.out.f 0).trans rfl; have h_f1 : w14.cell? ⟨g14, 1, none⟩ = some (.int .i64 F.f1) := (qaa HT.out.f 1).trans rfl; have h_r0 : w14.cell? ⟨g8, 0, none⟩ = some (.int .i64 0) := (qaa HT.out.p.r 0).trans rfl; have h_r1 : w14.cell? ⟨g8, 1, none⟩ = some (.int .i64 0) := (qaa HT.out.p.r 1).trans rfl; have h_r2 : w14.cell? ⟨g8, 2, none⟩ = some (.int .i64 0) := (qaa HT.out.p.r 2).trans rfl; have h_r3 : w14.cell? ⟨g8, 3, none⟩ = some (.int .i64 0) := (qaa HT.out.p.r 3).trans rfl; have hf_r := qac HT.out.p.r
      cases hA : inB T.f0 L.f1.f0 L.f1.f1 with
      | false =>
       have HA : qab (∀ W, Calls Try.prog 55 #[.int .i64 T.f0, .int .i64 L.f1.f0, .int .i64 L.f1.f1] W fun e w' => e = .returned (.bool false) ∧ Below W.heap.size W w') := ⟨fun W => by have h := in_calls T.f0 L.f1.f0 L.f1.f1 W; rw [hA] at h; exact h⟩
       have he := HF.out
       rw [HD.out, hA] at he
       simp only [Bool.false_and, Bool.false_eq_true, if_false, heatR] at he
       cases he
       clear HD HF hA
       go_wp2_with (first | (go_at_call 55; with_reducible refine (HA.out _).mono ?_; rintro e w15 ⟨rfl, hb⟩; replace HT := qab.mk (HT.out.below hb); clear hb; clear h_t0 h_t1 h_l2 h_l3 h_f0 h_f1 h_r0 h_r1 h_r2 h_r3 hf_r; have h_t0 : w15.cell? ⟨g13, 0, none⟩ = some (.int .i64 T.f0) := (qaa HT.out.t 0).trans rfl; have h_t1 : w15.cell? ⟨g13, 1, none⟩ = some (.int .i64 T.f1) := (qaa HT.out.t 1).trans rfl; have h_l2 : w15.cell? ⟨g10, 2, none⟩ = some (.int .i64 L.f1.f0) := (qaa HT.out.p.l 2).trans rfl; have h_l3 : w15.cell? ⟨g10, 3, none⟩ = some (.int .i64 L.f1.f1) := (qaa HT.out.p.l 3).trans rfl; have h_f0 : w15.cell? ⟨g14, 0, none⟩ = some (.int .i64 F.f0) := (qaa HT.out.f 0).trans rfl; have h_f1 : w15.cell? ⟨g14, 1, none⟩ = some (.int .i64 F.f1) := (qaa HT.out.f 1).trans rfl; have h_r0 : w15.cell? ⟨g8, 0, none⟩ = some (.int .i64 0) := (qaa HT.out.p.r 0).trans rfl; have h_r1 : w15.cell? ⟨g8, 1, none⟩ = some (.int .i64 0) := (qaa HT.out.p.r 1).trans rfl; have h_r2 : w15.cell? ⟨g8, 2, none⟩ = some (.int .i64 0) := (qaa HT.out.p.r 2).trans rfl; have h_r3 : w15.cell? ⟨g8, 3, none⟩ = some (.int .i64 0) := (qaa HT.out.p.r 3).trans rfl; have hf_r := qac HT.out.p.r))
       refine bodyPost_ret (results_ct rfl _ _ g8 31 #[.int .i64 0, .int .i64 0, .int .i64 0, .int .i64 0] (0, 0) _ rfl ((blk_set (blk_set (blk_set (blk_set HT.out.p.r 0 _) 1 _) 2 _) 3 _)) Try.underlying31 rfl (by kernel_rfl)) rfl ?_
       exact ⟨rfl, (qai (j := 3) (qai (j := 2) (qai (j := 1) (qai (j := 0) HT.out.p.hb GEg8) GEg8) GEg8) GEg8)⟩
      | true =>
       have HA : qab (∀ W, Calls Try.prog 55 #[.int .i64 T.f0, .int .i64 L.f1.f0, .int .i64 L.f1.f1] W fun e w' => e = .returned (.bool true) ∧ Below W.heap.size W w') := ⟨fun W => by have h := in_calls T.f0 L.f1.f0 L.f1.f1 W; rw [hA] at h; exact h⟩
       have he := HF.out
       rw [HD.out, hA] at he
       simp only [Bool.true_and] at he
       clear HD HF hA
       cases hA2 : inB T.f1 F.f0 F.f1 with
       | false =>
        have HA2 : qab (∀ W, Calls Try.prog 55 #[.int .i64 T.f1, .int .i64 F.f0, .int .i64 F.f1] W fun e w' => e = .returned (.bool false) ∧ Below W.heap.size W w') := ⟨fun W => by have h := in_calls T.f1 F.f0 F.f1 W; rw [hA2] at h; exact h⟩
        rw [hA2] at he
        simp only [Bool.false_eq_true, if_false, heatR] at he
        cases he
        clear hA2
        go_wp2_with (first | (go_at_call 55; with_reducible refine (HA.out _).mono ?_; rintro e w15 ⟨rfl, hb⟩; replace HT := qab.mk (HT.out.below hb); clear hb; clear h_t0 h_t1 h_l2 h_l3 h_f0 h_f1 h_r0 h_r1 h_r2 h_r3 hf_r; have h_t0 : w15.cell? ⟨g13, 0, none⟩ = some (.int .i64 T.f0) := (qaa HT.out.t 0).trans rfl; have h_t1 : w15.cell? ⟨g13, 1, none⟩ = some (.int .i64 T.f1) := (qaa HT.out.t 1).trans rfl; have h_l2 : w15.cell? ⟨g10, 2, none⟩ = some (.int .i64 L.f1.f0) := (qaa HT.out.p.l 2).trans rfl; have h_l3 : w15.cell? ⟨g10, 3, none⟩ = some (.int .i64 L.f1.f1) := (qaa HT.out.p.l 3).trans rfl; have h_f0 : w15.cell? ⟨g14, 0, none⟩ = some (.int .i64 F.f0) := (qaa HT.out.f 0).trans rfl; have h_f1 : w15.cell? ⟨g14, 1, none⟩ = some (.int .i64 F.f1) := (qaa HT.out.f 1).trans rfl; have h_r0 : w15.cell? ⟨g8, 0, none⟩ = some (.int .i64 0) := (qaa HT.out.p.r 0).trans rfl; have h_r1 : w15.cell? ⟨g8, 1, none⟩ = some (.int .i64 0) := (qaa HT.out.p.r 1).trans rfl; have h_r2 : w15.cell? ⟨g8, 2, none⟩ = some (.int .i64 0) := (qaa HT.out.p.r 2).trans rfl; have h_r3 : w15.cell? ⟨g8, 3, none⟩ = some (.int .i64 0) := (qaa HT.out.p.r 3).trans rfl; have hf_r := qac HT.out.p.r) | (go_at_call 55; with_reducible refine (HA2.out _).mono ?_; rintro e w16 ⟨rfl, hb⟩; replace HT := qab.mk (HT.out.below hb); clear hb; clear h_t0 h_t1 h_l2 h_l3 h_f0 h_f1 h_r0 h_r1 h_r2 h_r3 hf_r; have h_t0 : w16.cell? ⟨g13, 0, none⟩ = some (.int .i64 T.f0) := (qaa HT.out.t 0).trans rfl; have h_t1 : w16.cell? ⟨g13, 1, none⟩ = some (.int .i64 T.f1) := (qaa HT.out.t 1).trans rfl; have h_l2 : w16.cell? ⟨g10, 2, none⟩ = some (.int .i64 L.f1.f0) := (qaa HT.out.p.l 2).trans rfl; have h_l3 : w16.cell? ⟨g10, 3, none⟩ = some (.int .i64 L.f1.f1) := (qaa HT.out.p.l 3).trans rfl; have h_f0 : w16.cell? ⟨g14, 0, none⟩ = some (.int .i64 F.f0) := (qaa HT.out.f 0).trans rfl; have h_f1 : w16.cell? ⟨g14, 1, none⟩ = some (.int .i64 F.f1) := (qaa HT.out.f 1).trans rfl; have h_r0 : w16.cell? ⟨g8, 0, none⟩ = some (.int .i64 0) := (qaa HT.out.p.r 0).trans rfl; have h_r1 : w16.cell? ⟨g8, 1, none⟩ = some (.int .i64 0) := (qaa HT.out.p.r 1).trans rfl; have h_r2 : w16.cell? ⟨g8, 2, none⟩ = some (.int .i64 0) := (qaa HT.out.p.r 2).trans rfl; have h_r3 : w16.cell? ⟨g8, 3, none⟩ = some (.int .i64 0) := (qaa HT.out.p.r 3).trans rfl; have hf_r := qac HT.out.p.r))
        refine bodyPost_ret (results_ct rfl _ _ g8 31 #[.int .i64 0, .int .i64 0, .int .i64 0, .int .i64 0] (0, 0) _ rfl ((blk_set (blk_set (blk_set (blk_set HT.out.p.r 0 _) 1 _) 2 _) 3 _)) Try.underlying31 rfl (by kernel_rfl)) rfl ?_
        exact ⟨rfl, (qai (j := 3) (qai (j := 2) (qai (j := 1) (qai (j := 0) HT.out.p.hb GEg8) GEg8) GEg8) GEg8)⟩
       | true =>
        have HA2 : qab (∀ W, Calls Try.prog 55 #[.int .i64 T.f1, .int .i64 F.f0, .int .i64 F.f1] W fun e w' => e = .returned (.bool true) ∧ Below W.heap.size W w') := ⟨fun W => by have h := in_calls T.f1 F.f0 F.f1 W; rw [hA2] at h; exact h⟩
        rw [hA2] at he
        simp only [if_true] at he
        have HF := qab.mk he
        clear hA2 he
        obtain ⟨feed, hfe⟩ : ∃ feed, feed = feedV L T := ⟨_, rfl⟩
        have HFE := qab.mk hfe
        clear hfe
        go_upto_region 13 with (first | (go_at_call 55; with_reducible refine (HA.out _).mono ?_; rintro e w15 ⟨rfl, hb⟩; replace HT := qab.mk (HT.out.below hb); clear hb; clear h_t0 h_t1 h_l2 h_l3 h_f0 h_f1 h_r0 h_r1 h_r2 h_r3 hf_r; have h_t0 : w15.cell? ⟨g13, 0, none⟩ = some (.int .i64 T.f0) := (qaa HT.out.t 0).trans rfl; have h_t1 : w15.cell? ⟨g13, 1, none⟩ = some (.int .i64 T.f1) := (qaa HT.out.t 1).trans rfl; have h_l2 : w15.cell? ⟨g10, 2, none⟩ = some (.int .i64 L.f1.f0) := (qaa HT.out.p.l 2).trans rfl; have h_l3 : w15.cell? ⟨g10, 3, none⟩ = some (.int .i64 L.f1.f1) := (qaa HT.out.p.l 3).trans rfl; have h_f0 : w15.cell? ⟨g14, 0, none⟩ = some (.int .i64 F.f0) := (qaa HT.out.f 0).trans rfl; have h_f1 : w15.cell? ⟨g14, 1, none⟩ = some (.int .i64 F.f1) := (qaa HT.out.f 1).trans rfl; have h_r0 : w15.cell? ⟨g8, 0, none⟩ = some (.int .i64 0) := (qaa HT.out.p.r 0).trans rfl; have h_r1 : w15.cell? ⟨g8, 1, none⟩ = some (.int .i64 0) := (qaa HT.out.p.r 1).trans rfl; have h_r2 : w15.cell? ⟨g8, 2, none⟩ = some (.int .i64 0) := (qaa HT.out.p.r 2).trans rfl; have h_r3 : w15.cell? ⟨g8, 3, none⟩ = some (.int .i64 0) := (qaa HT.out.p.r 3).trans rfl; have hf_r := qac HT.out.p.r) | (go_at_call 55; with_reducible refine (HA2.out _).mono ?_; rintro e w16 ⟨rfl, hb⟩; replace HT := qab.mk (HT.out.below hb); clear hb; clear h_t0 h_t1 h_l2 h_l3 h_f0 h_f1 h_r0 h_r1 h_r2 h_r3 hf_r; have h_t0 : w16.cell? ⟨g13, 0, none⟩ = some (.int .i64 T.f0) := (qaa HT.out.t 0).trans rfl; have h_t1 : w16.cell? ⟨g13, 1, none⟩ = some (.int .i64 T.f1) := (qaa HT.out.t 1).trans rfl; have h_l2 : w16.cell? ⟨g10, 2, none⟩ = some (.int .i64 L.f1.f0) := (qaa HT.out.p.l 2).trans rfl; have h_l3 : w16.cell? ⟨g10, 3, none⟩ = some (.int .i64 L.f1.f1) := (qaa HT.out.p.l 3).trans rfl; have h_f0 : w16.cell? ⟨g14, 0, none⟩ = some (.int .i64 F.f0) := (qaa HT.out.f 0).trans rfl; have h_f1 : w16.cell? ⟨g14, 1, none⟩ = some (.int .i64 F.f1) := (qaa HT.out.f 1).trans rfl; have h_r0 : w16.cell? ⟨g8, 0, none⟩ = some (.int .i64 0) := (qaa HT.out.p.r 0).trans rfl; have h_r1 : w16.cell? ⟨g8, 1, none⟩ = some (.int .i64 0) := (qaa HT.out.p.r 1).trans rfl; have h_r2 : w16.cell? ⟨g8, 2, none⟩ = some (.int .i64 0) := (qaa HT.out.p.r 2).trans rfl; have h_r3 : w16.cell? ⟨g8, 3, none⟩ = some (.int .i64 0) := (qaa HT.out.p.r 3).trans rfl; have hf_r := qac HT.out.p.r))
        clear h_t0 h_t1 h_l2 h_l3 h_f0 h_f1 h_r0 h_r1 h_r2 h_r3 hf_r
        have h_t2 : w16.cell? ⟨g13, 2, none⟩ = some (.bool T.f2) := (qaa HT.out.t 2).trans rfl
        go_upto_if 98 with (fail)
        go_cut [15] (fun v15 wc => v15 = .int .i64 feed ∧ qab (TI w gb g8 g10 g11 g13 g14 #[.slice (some ad) l0_0.length c0_0, .slice (some ad1) l0_1.length c0_1, .slice A0_2 l0_2.length c0_2] L T F x wc))
        case first =>
         cases hfd : T.f2 with
         | true =>
          have he : L.f6 = feed := by rw [HFE.out]; unfold feedV; rw [if_pos hfd]
          have h_l9 : w16.cell? ⟨g10, 9, none⟩ = some (.int .i64 L.f6) := (qaa HT.out.p.l 9).trans rfl
          clear hfd
          go_wp2_with fail
          go_meet
          case rel => exact ⟨by first | rfl | rw [he], HT⟩
         | false =>
          have he : 0 = feed := by rw [HFE.out]; unfold feedV; rw [if_neg (by rw [hfd]; decide)]
          clear hfd
          go_wp2_with fail
          go_meet
          case rel => exact ⟨by first | rfl | rw [he], HT⟩
        case rest =>
         clear HT h_t2
         obtain ⟨rfl, HT⟩ := hcut
         obtain ⟨lost, hle⟩ : ∃ lost, lost = lossI T.f0 T.f1 x.1 feed := ⟨_, rfl⟩
         have HLE := qab.mk hle
         have hloss : ∀ W, Calls Try.prog 56 #[.int .i64 T.f0, .int .i64 T.f1, .int .i64 x.1, .int .i64 feed] W fun e w' => e = .returned (.int .i64 lost) ∧ Below W.heap.size W w' := fun W => pipe_loss.calls _ _ _ _ _ W (by rw [hle]; rfl)
         have HLO := qab.mk hloss
         clear hle hloss
         have h_t0 : wc.cell? ⟨g13, 0, none⟩ = some (.int .i64 T.f0) := (qaa HT.out.t 0).trans rfl; have h_t1 : wc.cell? ⟨g13, 1, none⟩ = some (.int .i64 T.f1) := (qaa HT.out.t 1).trans rfl; have h_o0 : wc.cell? ⟨g11, 0, none⟩ = some (.int .i64 x.1) := (qaa HT.out.p.o 0).trans rfl
         go_upto_region 17 with ((go_at_call 56; with_reducible refine (HLO.out _).mono ?_; rintro e w17 ⟨rfl, hb⟩; replace HT := qab.mk (HT.out.below hb); clear hb; clear h_t0 h_t1 h_o0; have h_t0 : w17.cell? ⟨g13, 0, none⟩ = some (.int .i64 T.f0) := (qaa HT.out.t 0).trans rfl; have h_t1 : w17.cell? ⟨g13, 1, none⟩ = some (.int .i64 T.f1) := (qaa HT.out.t 1).trans rfl; have h_o0 : w17.cell? ⟨g11, 0, none⟩ = some (.int .i64 x.1) := (qaa HT.out.p.o 0).trans rfl))
         clear h_t0 h_t1 h_o0
         have h_o0 : w17.cell? ⟨g11, 0, none⟩ = some (.int .i64 x.1) := (qaa HT.out.p.o 0).trans rfl; have hf_o := qac HT.out.p.o
         go_upto_region 18 with (first | (go_at_call 57; with_reducible refine (sum3_calls _ _ _ _).mono ?_; rintro e w22 ⟨rfl, hb⟩; replace HT := qab.mk (HT.out.below hb); clear hb; clear h_o0 hf_o; have h_o0 : w22.cell? ⟨g11, 0, none⟩ = some (.int .i64 x.1) := (qaa HT.out.p.o 0).trans rfl; have hf_o := qac HT.out.p.o))
         have n_HT := qab.mk (HT.out.set (y := (sumV [x.1, feed, wrap64 (-lost)], x.2.1, x.2.2.1, x.2.2.2)) 0 (.int .i64 (sumV [x.1, feed, wrap64 (-lost)])) rfl)
         clear h_o0 hf_o
         clear HT
         generalize w22.setCell ⟨g11, 0, none⟩ (.int .i64 (sumV [x.1, feed, wrap64 (-lost)])) = w20 at n_HT ⊢
         have HT := n_HT
         clear n_HT
         have h_o1 : w20.cell? ⟨g11, 1, none⟩ = some (.int .i64 x.2.1) := (qaa HT.out.p.o 1).trans rfl; have h_l7 : w20.cell? ⟨g10, 7, none⟩ = some (.int .i64 L.f4) := (qaa HT.out.p.l 7).trans rfl; have hf_o := qac HT.out.p.o
         go_upto_region 19 with (first | (go_at_call 57; with_reducible refine (sum2_calls _ _ _).mono ?_; rintro e w32 ⟨rfl, hb⟩; replace HT := qab.mk (HT.out.below hb); clear hb; clear h_o1 h_l7 hf_o; have h_o1 : w32.cell? ⟨g11, 1, none⟩ = some (.int .i64 x.2.1) := (qaa HT.out.p.o 1).trans rfl; have hf_o := qac HT.out.p.o))
         have n_HT := qab.mk (HT.out.set (y := (sumV [x.1, feed, wrap64 (-lost)], sumV [x.2.1, wrap64 (feed * L.f4)], x.2.2.1, x.2.2.2)) 1 (.int .i64 (sumV [x.2.1, wrap64 (feed * L.f4)])) rfl)
         clear h_o1 hf_o
         clear HT
         generalize w32.setCell ⟨g11, 1, none⟩ (.int .i64 (sumV [x.2.1, wrap64 (feed * L.f4)])) = w30 at n_HT ⊢
         have HT := n_HT
         clear n_HT
         have h_l7 : w30.cell? ⟨g10, 7, none⟩ = some (.int .i64 L.f4) := (qaa HT.out.p.l 7).trans rfl; have h_l8 : w30.cell? ⟨g10, 8, none⟩ = some (.int .i64 L.f5) := (qaa HT.out.p.l 8).trans rfl
         obtain ⟨ground, hgr⟩ : ∃ ground, ground = groundV L lost := ⟨_, rfl⟩
         have HGR := qab.mk hgr
         unfold groundV at hgr
         go_upto_region 20 with fail
         rw [← hgr]
         clear hgr
         clear h_l7 h_l8
         have h_o2 : w30.cell? ⟨g11, 2, none⟩ = some (.int .i64 x.2.2.1) := (qaa HT.out.p.o 2).trans rfl; have hf_o := qac HT.out.p.o
         go_upto_region 21 with (first | (go_at_call 57; with_reducible refine (sum2_calls _ _ _).mono ?_; rintro e w42 ⟨rfl, hb⟩; replace HT := qab.mk (HT.out.below hb); clear hb; clear h_o2 hf_o; have h_o2 : w42.cell? ⟨g11, 2, none⟩ = some (.int .i64 x.2.2.1) := (qaa HT.out.p.o 2).trans rfl; have hf_o := qac HT.out.p.o))
         have n_HT := qab.mk (HT.out.set (y := (sumV [x.1, feed, wrap64 (-lost)], sumV [x.2.1, wrap64 (feed * L.f4)], sumV [x.2.2.1, ground], x.2.2.2)) 2 (.int .i64 (sumV [x.2.2.1, ground])) rfl)
         clear h_o2 hf_o
         clear HT
         generalize w42.setCell ⟨g11, 2, none⟩ (.int .i64 (sumV [x.2.2.1, ground])) = w40 at n_HT ⊢
         have HT := n_HT
         clear n_HT
         have h_o3 : w40.cell? ⟨g11, 3, none⟩ = some (.int .i64 x.2.2.2) := (qaa HT.out.p.o 3).trans rfl; have h_l7 : w40.cell? ⟨g10, 7, none⟩ = some (.int .i64 L.f4) := (qaa HT.out.p.l 7).trans rfl; have hf_o := qac HT.out.p.o
         go_upto_region 22 with (first | (go_at_call 57; with_reducible refine (sum3_calls _ _ _ _).mono ?_; rintro e w52 ⟨rfl, hb⟩; replace HT := qab.mk (HT.out.below hb); clear hb; clear h_o3 h_l7 hf_o; have h_o3 : w52.cell? ⟨g11, 3, none⟩ = some (.int .i64 x.2.2.2) := (qaa HT.out.p.o 3).trans rfl; have hf_o := qac HT.out.p.o))
         have n_HT := qab.mk (HT.out.set (y := (sumV [x.1, feed, wrap64 (-lost)], sumV [x.2.1, wrap64 (feed * L.f4)], sumV [x.2.2.1, ground], sumV [x.2.2.2, wrap64 (lost * L.f4), wrap64 (-ground)])) 3 (.int .i64 (sumV [x.2.2.2, wrap64 (lost * L.f4), wrap64 (-ground)])) rfl)
         clear h_o3 hf_o
         clear HT
         generalize w52.setCell ⟨g11, 3, none⟩ (.int .i64 (sumV [x.2.2.2, wrap64 (lost * L.f4), wrap64 (-ground)])) = w50 at n_HT ⊢
         have HT := n_HT
         clear n_HT
         have hw1 : IntKind.i64.wrap ((k : Int) + 1) = (k : Int) + 1 := by have := Kd.C_max HR3.out; rw [i64_w]; unfold wrap64; omega
         go_wp2_with fail
         have hfin : heatR (playGo L (l3.drop (k + 1)) (l0_1.drop (k + 1)) (sumV [x.1, feed, wrap64 (-lost)], sumV [x.2.1, wrap64 (feed * L.f4)], sumV [x.2.2.1, ground], sumV [x.2.2.2, wrap64 (lost * L.f4), wrap64 (-ground)])) = (r1, r2, r3, r4, r5) := by
          rw [← HF.out, HGR.out, HLE.out, HFE.out]
          rfl
         have HFIN := qab.mk hfin
         clear hfin
         go_roundw
         case rel => exact ⟨k + 1, _, by omega, by go_num, HFIN, ⟨HT.out.p⟩⟩
         case measure => simp [intOf]; omega
     ·
      have he := HF.out
      rw [List.drop_eq_nil_of_le (by omega)] at he
      simp only [playGo, heatR] at he
      cases he
      have BKg8 := qab.mk HP.out.r
      have BKg11 := qab.mk HP.out.o
      obtain ⟨hfg8, hcg8_0, hcg8_1, hcg8_2, hcg8_3⟩ := qz4 BKg8.out
      obtain ⟨hfg11, hcg11_0, hcg11_1, hcg11_2, hcg11_3⟩ := qz4 BKg11.out
      go_wp2_with fail
      try rw [Exit.noGoto_ret]
      refine bodyPost_ret (results_ct rfl _ _ g8 31 #[.int .i64 x.1, .int .i64 x.2.1, .int .i64 x.2.2.1, .int .i64 x.2.2.2] (0, 0) _ rfl ((blk_set (blk_set (blk_set (blk_set BKg8.out 0 _) 1 _) 2 _) 3 _)) Try.underlying31 rfl (by kernel_rfl)) rfl ?_
      exact ⟨rfl, (qai (j := 3) (qai (j := 2) (qai (j := 1) (qai (j := 0) HP.out.hb GEg8) GEg8) GEg8) GEg8)⟩
end Go.Proofs.Ytipphcjgdebecaa.PA
