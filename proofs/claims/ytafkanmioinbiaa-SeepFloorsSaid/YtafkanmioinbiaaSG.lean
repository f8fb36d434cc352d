/- What functions of the program answer. No condition. -/
import Derived.Test.YtafkanmioinbiaaSC
import Derived.Test.YtafkanmioinbiaaSD
import Derived.Test.YtafkanmioinbiaaSF
import Derived.Test.YtafkanmioinbiaaSE
set_option linter.all false
set_option maxRecDepth 100000
set_option maxHeartbeats 8000000
namespace Go.Proofs.Ytafkanmioinbiaa.SA
open Go.RowKit Go.Proofs.YtafkanmioinbiaaW.PrintWords Go.Proofs.YtafkanmioinbiaaW.PrintLast Go.Proofs.YtafkanmioinbiaaW.PrintMore
attribute [local go_sem] qax qaz max_two min_two qao qap qay qba
attribute [local go_sem] Oper.semAt_some
theorem foul_calls (gd P : Nat) (v3 v4 v5 : Value) (A1 : Option Addr) (c1 : Nat) (l1 : List S44) (A2 : Option Addr) (c2 : Nat) (ws : List Int) (d : Int) (At : Option Addr) (ct : Nat) (ths : List Int) (w : World)
  (hr1 : Kd.C k44 w A1 l1.length l1) (hr2 : Kd.C (Kd.int .i64) w A2 ws.length ws) (hc2 : ws.length ≤ c2) (hrt : Kd.C (Kd.int .i64) w At ths.length ths) (hP : 1 ≤ P) (hP1 : P ≤ 1000) (h12 : l1.length ≤ 60) (hy : ths.length ≤ 100000)
  (hE : ∀ k : Nat, k < l1.length → (0 ≤ (qav l1 k).f0 ∧ (qav l1 k).f0 < P) ∧ (0 ≤ (qav l1 k).f1 ∧ (qav l1 k).f1 < P))
  (hd : w.heap[gd]? = some (.cells #[.int .i64 (P : Int), .slice A1 l1.length c1, .slice A2 ws.length c2, v3, v4, v5, .int .i64 d] 123 (0, 0))) :
  Calls Try.prog 56 #[.pointer (some ⟨gd, 0, none⟩), .slice At ths.length ct] w fun e w' => ∃ v, e = .returned v ∧ Kd.R (Kd.int .i64) 3 w' w.heap.size (fun _ => True) v (foulV P l1 ws d ths) ∧ Below w.heap.size w w' := by
 have hu123 := Try.underlying123
 have hu27 := Try.underlying27
 have hu44 := Try.underlying44
 have hu127 := Try.underlying127
 have HB := qab.mk (Below.refl w.heap.size w)
 have HR1 := qab.mk hr1
 have HR2 := qab.mk hr2
 have HRT := qab.mk hrt
 have HE := qab.mk hE
 have q0 : w.cell? ⟨gd, 0, none⟩ = some (.int .i64 (P : Int)) := (qaa hd 0).trans rfl
 have HD := qab.mk hd
 clear hr1 hr2 hrt hE hd
 refine (callsIn_wide (n := 12)).1 ?_
 refine callsIn_of_wp_marks Try.func56 rfl trivial ?_ rfl
 refine wpIn_wide.2 ?_
 simp only [Try.ntmps56, List.size_toArray, List.length_cons, List.length_nil, Nat.reduceAdd, Nat.reduceSub, Array.replicate_succ, Array.replicate_zero, List.push_toArray, List.append_toArray, List.nil_append, List.cons_append]
 go_upto_region 2 with (first | ((with_reducible refine qam (N := 20) rfl ?_); refine Kd.R_make (Kd.int .i64) (w0 := w) w.heap.size 3 rfl (N := 20) rfl 23 _ _ rfl (P : Int) rfl rfl Try.underlying23 (.int .i64 0) 8 info3 rfl (by decide) (by omega) (0 : Int) (ok := fun _ => True) (okp := fun _ => True) rfl (fun _ hk => hk) trivial (by omega) (by (try simp only [Int.toNat_natCast]); omega) HB.out HB.out.size ?_; intro v1 w1 ho hB hg_ hnew; rw [Int.toNat_natCast] at ho; obtain ⟨go, cp, e, hgo, hgo2, _⟩ := Kd.R_form ho (by simp; omega); rw [List.length_replicate] at e; subst e; have HO := qab.mk ho; replace HB := qab.mk hB; clear ho hB hg_ hnew q0) | ((with_reducible refine qam (N := 5) rfl ?_); refine ze 5 #[.slice none 0 0] 23 ?_; intro g5 hg_g5 w2 hbox hb; have BKg5 := qab.mk hbox; have n_HB := qab.mk (qae HB.out hb); have GEg5 : w.heap.size ≤ g5 := (by rw [hg_g5]; exact HB.out.size); clear HB; have HB := n_HB; clear n_HB; obtain ⟨hfg5, hcg5_0⟩ := qz1 BKg5.out; replace HO := qab.mk (Kd.qal HO.out hb); clear hbox hb hg_g5))
 have he_ : setAll w2 g5 [.slice (some ⟨go, 0, none⟩) P cp] 0 = (w2.setCell ⟨g5, 0, none⟩ (.slice (some ⟨go, 0, none⟩) P cp)) := rfl; have hbl := setAll_below GEg5 [.slice (some ⟨go, 0, none⟩) P cp] 0 _ HB.out; have hbx : (setAll w2 g5 [.slice (some ⟨go, 0, none⟩) P cp] 0).heap[g5]? = some (.cells #[.slice (some ⟨go, 0, none⟩) P cp] 23 (0, 0)) := setAll_new [.slice (some ⟨go, 0, none⟩) P cp] [.slice none 0 0] BKg5.out rfl; have hy_HO := setAll_R (g := g5) (by decide) [.slice (some ⟨go, 0, none⟩) P cp] 0 w2 _ BKg5.out HO.out; rw [he_] at hy_HO hbl hbx ; clear he_; generalize (w2.setCell ⟨g5, 0, none⟩ (.slice (some ⟨go, 0, none⟩) P cp)) = w3 at hy_HO hbl hbx  ⊢; clear HB BKg5; have HB := qab.mk hbl; have BKg5 := qab.mk hbx; clear hbl hbx; clear HO; have HO := qab.mk hy_HO; clear hy_HO
 have HO1 : qab ((Kd.int .i64).R 3 w3 w.heap.size (fun k => k = go) (.slice (some ⟨go, 0, none⟩) P cp) (fillTo P ths.length 0)) := ⟨by rw [fillTo_zero]; exact Kd.R_mono (Kd.R_tight rfl HO.out) (fun k hk => by simpa [Value.ownBlock] using hk)⟩
 have q5 : w3.cell? ⟨g5, 0, none⟩ = some (.slice (some ⟨go, 0, none⟩) P cp) := (qaa BKg5.out 0).trans rfl
 have hgo2' := hgo2
 clear HO hcg5_0 hfg5
 go_wp2
 go_loopw [23] (fun s23 wr => ∃ k : Nat, k ≤ P ∧ s23 = .int .i64 k ∧ qab ((Kd.int .i64).R 3 wr w.heap.size (fun k => k = go) (.slice (some ⟨go, 0, none⟩) P cp) (fillTo P ths.length k)) ∧ qab (wr.heap[g5]? = some (.cells #[.slice (some ⟨go, 0, none⟩) P cp] 23 (0, 0))) ∧ qab (Below w.heap.size w wr)) (fun s _ => P - (intOf s).toNat)
 case atStart => exact ⟨0, by omega, rfl, HO1, BKg5, HB⟩
 case round =>
  clear HO1 BKg5 HB q5
  obtain ⟨k, hk, rfl, HO, BKg5, HB⟩ := hrel
  by_cases hlt : k < P
  ·
   have q5 : wr.cell? ⟨g5, 0, none⟩ = some (.slice (some ⟨go, 0, none⟩) P cp) := (qaa BKg5.out 0).trans rfl
   have qo := introw_at HO.out k hlt
   obtain ⟨_, cso, hbo⟩ := R_blk HO.out (by omega)
   have qf := qac hbo
   have HN := qab.mk (blk_ne BKg5.out hbo (by decide))
   clear hbo
   go_wp2
   go_roundw
   case rel => exact ⟨k + 1, by omega, by go_num, ⟨by rw [← fillTo_succ P ths.length k hlt]; exact Kd.R_putn HO.out (k : Int) (ths.length : Int)⟩, ⟨blk_far (p := ⟨go, k, none⟩) BKg5.out HN.out _⟩, ⟨qaj HB.out hgo⟩⟩
   case measure => simp [intOf]; omega
  ·
   obtain rfl : P = k := by omega
   rw [fillTo_all] at HO
   have q5 : wr.cell? ⟨g5, 0, none⟩ = some (.slice (some ⟨go, 0, none⟩) P cp) := (qaa BKg5.out 0).trans rfl
   go_wp2
   refine (wpIn_wide (n := 12)).1 ?_
   have HU : qab (FU w gd g5 go #[.int .i64 (P : Int), .slice A1 l1.length c1, .slice A2 ws.length c2, v3, v4, v5, .int .i64 d] P cp (foulTo P l1 ws d ths 0) [] wr) := ⟨⟨HB.out, qad HD.out HB.out, BKg5.out, HO.out, GEg5, ⟨hgo, by obtain ⟨_, cs, h⟩ := R_blk HO.out (by omega); exact blk_lt h⟩, by simp, by simp⟩⟩
   clear HB BKg5 HO q5 hlt
   refine wpIn_loop (LIY w gd g5 go #[.int .i64 (P : Int), .slice A1 l1.length c1, .slice A2 ws.length c2, v3, v4, v5, .int .i64 d] P cp At ct ths (foulTo P l1 ws d ths)) (fun a _ => ths.length - (intOf (a.tmps.getD 34 undef)).toNat) ?h0 ?round
   case h0 => exact LIY.mk 0 [] (by omega) rfl rfl HU
   case round =>
    clear HU
    rintro a W ⟨i, z, Ds, hi, rfl, HU⟩
    refine wpIn_wide.2 ?_
    unfold frF
    by_cases hlt : i < ths.length
    ·
     obtain ⟨ad, e, qt⟩ := Kd.at_int HRT.out i (by omega) (by omega)
     cases e
     replace qt := (HU.out.hb.cell (World.block_lt_of_cell? w _ qt)).trans qt
     simp only [Int.toNat_natCast] at qt
     obtain ⟨th, hth⟩ : ∃ x, x = rd ths i := ⟨_, rfl⟩
     rw [← hth] at qt
     have HTH := qab.mk hth
     clear hth
     go_upto_region 11 with fail
     obtain ⟨w4, hw4, b7, bq, b9, hb4⟩ := allocs3 W (.cells #[.int .i64 (i : Int)] 3) (.cells #[.slice none 0 0] 127) (.cells #[.pointer (some ⟨W.heap.size + 1, 0, none⟩)] 125)
     rw [hw4]
     clear hw4
     have hlo := HU.out.lo
     have HU4 := qab.mk (HU.out.below hb4)
     have hWw : w.heap.size ≤ W.heap.size := HU.out.hb.size
     have HS : qab (FS w gd g5 W.heap.size (W.heap.size + 1 + 1) (W.heap.size + 1) go #[.int .i64 (P : Int), .slice A1 l1.length c1, .slice A2 ws.length c2, v3, v4, v5, .int .i64 d] P cp i (fun _ => False) (foulTo P l1 ws d ths i) [] w4) := ⟨HU4.out.start (by omega) b7 bq b9 hWw (by omega) (by omega) (by omega) _⟩
     have hsz4 : W.heap.size + 3 ≤ w4.heap.size := by have := blk_lt b9; omega
     clear b7 bq b9 hb4 HU
     generalize W.heap.size + 1 + 1 = g9 at HS ⊢
     generalize W.heap.size + 1 = gq at HS ⊢
     generalize W.heap.size = g7 at HS ⊢
     have q5 : w4.cell? ⟨g5, 0, none⟩ = some (.slice (some ⟨go, 0, none⟩) P cp) := (qaa HS.out.x5 0).trans rfl
     go_wp2
     go_loopw [43] (fun s43 wr => ∃ k : Nat, k ≤ P ∧ s43 = .int .i64 k ∧ qab (FS w gd g5 g7 g9 gq go #[.int .i64 (P : Int), .slice A1 l1.length c1, .slice A2 ws.length c2, v3, v4, v5, .int .i64 d] P cp i (fun _ => False) (seedTo i ws (foulTo P l1 ws d ths i) k).1 (seedTo i ws (foulTo P l1 ws d ths i) k).2 wr ∧ KeepsOthers w4 wr)) (fun s _ => P - (intOf s).toNat)
     case atStart => exact ⟨0, by omega, rfl, ⟨HS.out, KeepsOthers.refl _⟩⟩
     case round =>
      clear HS q5
      obtain ⟨k, hk, rfl, HI⟩ := hrel
      by_cases hlk : k < P
      ·
       obtain ⟨sd, hsd⟩ : ∃ s, s = seedTo i ws (foulTo P l1 ws d ths i) k := ⟨_, rfl⟩
       rw [← hsd] at HI
       have HSD := qab.mk hsd
       have hql : sd.2.length ≤ k := by rw [hsd]; exact seedTo_len _ _ _ _
       clear hsd
       obtain ⟨x, hx⟩ : ∃ x, x = rd sd.1 k := ⟨_, rfl⟩
       have HX := qab.mk hx
       clear hx
       have HT : qab (∀ W, FS w gd g5 g7 g9 gq go #[.int .i64 (P : Int), .slice A1 l1.length c1, .slice A2 ws.length c2, v3, v4, v5, .int .i64 d] P cp i (fun _ => False) sd.1 sd.2 W ∧ KeepsOthers w4 W → (W.cell? ⟨g5, 0, none⟩ = some (.slice (some ⟨go, 0, none⟩) P cp) ∧ W.cell? ⟨go, k, none⟩ = some (.int .i64 x) ∧ W.cell? ⟨g7, 0, none⟩ = some (.int .i64 (i : Int)) ∧ W.cell? ⟨gd, 2, none⟩ = some (.slice A2 ws.length c2) ∧ qab (FS w gd g5 g7 g9 gq go #[.int .i64 (P : Int), .slice A1 l1.length c1, .slice A2 ws.length c2, v3, v4, v5, .int .i64 d] P cp i (fun _ => False) sd.1 sd.2 W ∧ KeepsOthers w4 W))) := ⟨fun W h => ⟨(qaa h.1.x5 0).trans rfl, by rw [HX.out]; exact introw_at h.1.o k hlk, (qaa h.1.x7 0).trans rfl, (qaa h.1.d 2).trans rfl, ⟨h⟩⟩⟩
       have HCON : qab (∀ W, Below w.heap.size w W → Calls Try.prog 64 #[.slice A2 ws.length c2, .int .i64 (k : Int)] W fun e w' => e = .returned (.bool (ws.contains (k : Int))) ∧ Below W.heap.size W w') := ⟨fun W hW => contains_calls _ _ _ _ _ (Kd.qai HR2.out hW) hc2⟩
       go_upto_region 14 with fail
       by_cases hxy : x < (i : Int)
       ·
        have hxd : decide (x < (i : Int)) = true := decide_eq_true hxy
        have HSS : qab (seedS i ws sd k = (sd.1.set k (min x i), sd.2 ++ [(k : Int)])) := ⟨by unfold seedS; rw [show sd.1.getD k 0 = x from by rw [HX.out]; simp [rd], if_pos (.inl hxy)]⟩
        refine wp_normal ?_
        refine start_ (n := 15) (S := (fun w' => (w'.cell? ⟨g5, 0, none⟩ = some (.slice (some ⟨go, 0, none⟩) P cp) ∧ w'.cell? ⟨go, k, none⟩ = some (.int .i64 x) ∧ w'.cell? ⟨g7, 0, none⟩ = some (.int .i64 (i : Int)) ∧ w'.cell? ⟨gd, 2, none⟩ = some (.slice A2 ws.length c2) ∧ qab (FS w gd g5 g7 g9 gq go #[.int .i64 (P : Int), .slice A1 l1.length c1, .slice A2 ws.length c2, v3, v4, v5, .int .i64 d] P cp i (fun _ => False) sd.1 sd.2 w' ∧ KeepsOthers w4 w')))) (ds := []) (msk 15 0) (by kernel_rfl) rfl rfl (HT.out _ ⟨HI.out.1.below (qaq (Below.refl _ _)), HI.out.2.trans (KeepsOthers.drew _)⟩) (fun hHeld => ?_)
        have HP6 := qab.mk hHeld
        refine zt5 0 1 46 hHeld ?_
        refine zq 1 2 47 ?_
        refine zq 2 3 48 ?_
        refine zt5 3 4 49 hHeld ?_
        refine zt5 4 5 50 hHeld ?_
        refine zq 5 6 51 ?_
        refine zq 6 7 52 ?_
        refine zo 7 8 53 ?_
        refine zo 8 9 54 ?_
        refine zo 9 10 55 ?_
        refine zo 10 11 56 ?_
        refine zo 11 12 57 ?_
        refine zo 12 13 58 ?_
        refine zo 13 14 59 ?_
        refine zq 14 15 60 ?_
        refine done_ (by kernel_rfl) ?_
        refine onlyN_to ?_
        clear hHeld HI
        generalize wr.drew = wa at HP6 ⊢
        have HA := HP6.out.2.2.2.2
        clear HP6
        go_upto_region 15 with fail
        refine wp_normal ?_
        refine start_ (n := 10) (S := (fun w' => (w'.cell? ⟨g5, 0, none⟩ = some (.slice (some ⟨go, 0, none⟩) P cp) ∧ w'.cell? ⟨go, k, none⟩ = some (.int .i64 x) ∧ w'.cell? ⟨g7, 0, none⟩ = some (.int .i64 (i : Int)) ∧ w'.cell? ⟨gd, 2, none⟩ = some (.slice A2 ws.length c2) ∧ qab (FS w gd g5 g7 g9 gq go #[.int .i64 (P : Int), .slice A1 l1.length c1, .slice A2 ws.length c2, v3, v4, v5, .int .i64 d] P cp i (fun _ => False) sd.1 sd.2 w' ∧ KeepsOthers w4 w')))) (ds := [9]) (msk 10 0) (by kernel_rfl) rfl rfl (HT.out _ ⟨HA.out.1.below (qaq (Below.refl _ _)), HA.out.2.trans (KeepsOthers.drew _)⟩) (fun hHeld => ?_)
        have HP7 := qab.mk hHeld; obtain ⟨_, cso, hbo⟩ := R_blk HP7.out.2.2.2.2.out.1.o (by omega); have fr := qac hbo; have co := hHeld.2.1; clear hbo
        refine zt5 0 1 61 hHeld ?_
        refine zq 1 2 62 ?_
        refine zt5 2 3 63 hHeld ?_
        refine zq 3 4 64 ?_
        refine zq 4 5 65 ?_
        refine zt5 5 6 66 hHeld ?_
        refine zt5 6 7 67 hHeld ?_
        refine zq 7 8 68 ?_
        refine zq 8 9 69 ?_
        refine last_ (i := 9) (N := none) (msk 10 10) rfl rfl (by kernel_rfl) (by decide) (fun K hK => ?_); refine skip_ (w1 := ?_) (by rfl) rfl ?_ ?_; rotate_left; (focus (go_simp; rfl)); refine hK.out _ _ ?_; clear hK K hHeld
        rw [show (if (i : Int) < x then (i : Int) else x) = (min x (i : Int)) from by split <;> omega]
        have HI8 : qab (FS w gd g5 g7 g9 gq go #[.int .i64 (P : Int), .slice A1 l1.length c1, .slice A2 ws.length c2, v3, v4, v5, .int .i64 d] P cp i (fun _ => False) (sd.1.set k (min x (i : Int))) sd.2 ((wa.setCell ⟨go, k, none⟩ (.int .i64 (min x (i : Int)))).drew) ∧ KeepsOthers w4 ((wa.setCell ⟨go, k, none⟩ (.int .i64 (min x (i : Int)))).drew)) := ⟨(HA.out.1.put (by omega) k (min x (i : Int))).below (qaq (Below.refl _ _)), (HA.out.2.trans (KeepsOthers.setCell _ _ _)).trans (KeepsOthers.drew _)⟩
        generalize (wa.setCell ⟨go, k, none⟩ (.int .i64 (min x (i : Int)))).drew = wb at HI8 ⊢
        clear fr co HP7
        refine done_ (by kernel_rfl) ?_
        refine onlyN_to ?_
        have q9 : wb.cell? ⟨g9, 0, none⟩ = some (.pointer (some ⟨gq, 0, none⟩)) := (qaa HI8.out.1.x9 0).trans rfl
        have HPUT := qab.mk (put_calls gq _ sd.2 (k : Int) w wb HI8.out.1.hb HI8.out.1.q (fun j hj => by have := HI8.out.1; have h1 := blk_lt this.d; have h2 := blk_lt this.x5; have h3 := blk_lt this.x7; have h4 := blk_lt this.x9; have h5 := this.q.lt; have h6 := this.lo; have h7 := this.hb.size; exact ⟨by omega, by omega, by omega, by omega, by omega, by omega, by omega, fun h => h⟩) (by omega))
        go_wp2_with (go_at_call 89; (with_reducible refine HPUT.out.mono ?_); rintro e wc ⟨rfl, hq, hk, ho, hb⟩; have HI9 := qab.mk (And.intro (HI8.out.1.queue hq hk hb (HI8.out.1.ne (by omega)).1 (HI8.out.1.ne (by omega)).2.1 (HI8.out.1.ne (by omega)).2.2.1 (HI8.out.1.ne (by omega)).2.2.2.1 (HI8.out.1.ne (by omega)).2.2.2.2.1) (HI8.out.2.trans ho)); clear hq hk ho hb)
        go_roundw
        case rel => exact ⟨k + 1, by omega, by go_num, ⟨by rw [seedTo_succ, ← HSD.out, HSS.out]; exact HI9.out⟩⟩
        case measure => simp [intOf]; omega
       ·
        have hxd : decide (x < (i : Int)) = false := decide_eq_false hxy
        cases hcn : ws.contains (k : Int) with
        | true =>
         have HSS : qab (seedS i ws sd k = (sd.1.set k (min x i), sd.2 ++ [(k : Int)])) := ⟨by unfold seedS; rw [show sd.1.getD k 0 = x from by rw [HX.out]; simp [rd], if_pos (.inr hcn)]⟩
         rw [hcn] at HCON
         clear hcn
         refine wp_normal ?_
         refine start_ (n := 15) (S := (fun w' => (w'.cell? ⟨g5, 0, none⟩ = some (.slice (some ⟨go, 0, none⟩) P cp) ∧ w'.cell? ⟨go, k, none⟩ = some (.int .i64 x) ∧ w'.cell? ⟨g7, 0, none⟩ = some (.int .i64 (i : Int)) ∧ w'.cell? ⟨gd, 2, none⟩ = some (.slice A2 ws.length c2) ∧ qab (FS w gd g5 g7 g9 gq go #[.int .i64 (P : Int), .slice A1 l1.length c1, .slice A2 ws.length c2, v3, v4, v5, .int .i64 d] P cp i (fun _ => False) sd.1 sd.2 w' ∧ KeepsOthers w4 w')))) (ds := []) (msk 15 0) (by kernel_rfl) rfl rfl (HT.out _ ⟨HI.out.1.below (qaq (Below.refl _ _)), HI.out.2.trans (KeepsOthers.drew _)⟩) (fun hHeld => ?_)
         have HP6 := qab.mk hHeld
         refine zt5 0 1 46 hHeld ?_
         refine zq 1 2 47 ?_
         refine zq 2 3 48 ?_
         refine zt5 3 4 49 hHeld ?_
         refine zt5 4 5 50 hHeld ?_
         refine zq 5 6 51 ?_
         refine zq 6 7 52 ?_
         refine zq 7 8 53 ?_
         refine zq 8 9 54 ?_
         refine zq 9 10 55 ?_
         refine zq 10 11 56 ?_
         refine zt5 11 12 57 hHeld ?_
         refine zq 12 13 58 ?_
         refine one_ (i := 13) (N := some 59) (msk 15 14) rfl rfl (by kernel_rfl) (by decide) (fun K hK => ?_)
         refine zg Try.func64 #[.slice A2 ws.length c2, .int .i64 (k : Int)] ?_
         refine (HCON.out _ hHeld.2.2.2.2.out.1.hb).mono ?_; rintro e w6 ⟨rfl, hb⟩; have HP6 := qab.mk (HT.out w6 ⟨hHeld.2.2.2.2.out.1.below hb, hHeld.2.2.2.2.out.2.trans (KeepsOthers.of_grownBy (grown_of_below hb none) (fun j o e => by cases e))⟩); clear hb; refine ⟨_, rfl, ?_⟩; refine hK.out _ _ HP6.out (fun hHeld => ?_); clear hK K; refine zn 59 ?_
         refine zq 14 15 60 ?_
         refine done_ (by kernel_rfl) ?_
         refine onlyN_to ?_
         clear hHeld HI
         have HA := HP6.out.2.2.2.2
         clear HP6
         generalize w6 = wa at HA ⊢
         go_upto_region 15 with fail
         refine wp_normal ?_
         refine start_ (n := 10) (S := (fun w' => (w'.cell? ⟨g5, 0, none⟩ = some (.slice (some ⟨go, 0, none⟩) P cp) ∧ w'.cell? ⟨go, k, none⟩ = some (.int .i64 x) ∧ w'.cell? ⟨g7, 0, none⟩ = some (.int .i64 (i : Int)) ∧ w'.cell? ⟨gd, 2, none⟩ = some (.slice A2 ws.length c2) ∧ qab (FS w gd g5 g7 g9 gq go #[.int .i64 (P : Int), .slice A1 l1.length c1, .slice A2 ws.length c2, v3, v4, v5, .int .i64 d] P cp i (fun _ => False) sd.1 sd.2 w' ∧ KeepsOthers w4 w')))) (ds := [9]) (msk 10 0) (by kernel_rfl) rfl rfl (HT.out _ ⟨HA.out.1.below (qaq (Below.refl _ _)), HA.out.2.trans (KeepsOthers.drew _)⟩) (fun hHeld => ?_)
         have HP7 := qab.mk hHeld; obtain ⟨_, cso, hbo⟩ := R_blk HP7.out.2.2.2.2.out.1.o (by omega); have fr := qac hbo; have co := hHeld.2.1; clear hbo
         refine zt5 0 1 61 hHeld ?_
         refine zq 1 2 62 ?_
         refine zt5 2 3 63 hHeld ?_
         refine zq 3 4 64 ?_
         refine zq 4 5 65 ?_
         refine zt5 5 6 66 hHeld ?_
         refine zt5 6 7 67 hHeld ?_
         refine zq 7 8 68 ?_
         refine zq 8 9 69 ?_
         refine last_ (i := 9) (N := none) (msk 10 10) rfl rfl (by kernel_rfl) (by decide) (fun K hK => ?_); refine skip_ (w1 := ?_) (by rfl) rfl ?_ ?_; rotate_left; (focus (go_simp; rfl)); refine hK.out _ _ ?_; clear hK K hHeld
         rw [show (if (i : Int) < x then (i : Int) else x) = (min x (i : Int)) from by split <;> omega]
         have HI8 : qab (FS w gd g5 g7 g9 gq go #[.int .i64 (P : Int), .slice A1 l1.length c1, .slice A2 ws.length c2, v3, v4, v5, .int .i64 d] P cp i (fun _ => False) (sd.1.set k (min x (i : Int))) sd.2 ((wa.setCell ⟨go, k, none⟩ (.int .i64 (min x (i : Int)))).drew) ∧ KeepsOthers w4 ((wa.setCell ⟨go, k, none⟩ (.int .i64 (min x (i : Int)))).drew)) := ⟨(HA.out.1.put (by omega) k (min x (i : Int))).below (qaq (Below.refl _ _)), (HA.out.2.trans (KeepsOthers.setCell _ _ _)).trans (KeepsOthers.drew _)⟩
         generalize (wa.setCell ⟨go, k, none⟩ (.int .i64 (min x (i : Int)))).drew = wb at HI8 ⊢
         clear fr co HP7
         refine done_ (by kernel_rfl) ?_
         refine onlyN_to ?_
         have q9 : wb.cell? ⟨g9, 0, none⟩ = some (.pointer (some ⟨gq, 0, none⟩)) := (qaa HI8.out.1.x9 0).trans rfl
         have HPUT := qab.mk (put_calls gq _ sd.2 (k : Int) w wb HI8.out.1.hb HI8.out.1.q (fun j hj => by have := HI8.out.1; have h1 := blk_lt this.d; have h2 := blk_lt this.x5; have h3 := blk_lt this.x7; have h4 := blk_lt this.x9; have h5 := this.q.lt; have h6 := this.lo; have h7 := this.hb.size; exact ⟨by omega, by omega, by omega, by omega, by omega, by omega, by omega, fun h => h⟩) (by omega))
         go_wp2_with (go_at_call 89; (with_reducible refine HPUT.out.mono ?_); rintro e wc ⟨rfl, hq, hk, ho, hb⟩; have HI9 := qab.mk (And.intro (HI8.out.1.queue hq hk hb (HI8.out.1.ne (by omega)).1 (HI8.out.1.ne (by omega)).2.1 (HI8.out.1.ne (by omega)).2.2.1 (HI8.out.1.ne (by omega)).2.2.2.1 (HI8.out.1.ne (by omega)).2.2.2.2.1) (HI8.out.2.trans ho)); clear hq hk ho hb)
         go_roundw
         case rel => exact ⟨k + 1, by omega, by go_num, ⟨by rw [seedTo_succ, ← HSD.out, HSS.out]; exact HI9.out⟩⟩
         case measure => simp [intOf]; omega
        | false =>
         have HSS : qab (seedS i ws sd k = sd) := ⟨by unfold seedS; rw [show sd.1.getD k 0 = x from by rw [HX.out]; simp [rd], if_neg (by rintro (h | h); exact hxy h; rw [hcn] at h; cases h)]⟩
         rw [hcn] at HCON
         clear hcn
         refine wp_normal ?_
         refine start_ (n := 15) (S := (fun w' => (w'.cell? ⟨g5, 0, none⟩ = some (.slice (some ⟨go, 0, none⟩) P cp) ∧ w'.cell? ⟨go, k, none⟩ = some (.int .i64 x) ∧ w'.cell? ⟨g7, 0, none⟩ = some (.int .i64 (i : Int)) ∧ w'.cell? ⟨gd, 2, none⟩ = some (.slice A2 ws.length c2) ∧ qab (FS w gd g5 g7 g9 gq go #[.int .i64 (P : Int), .slice A1 l1.length c1, .slice A2 ws.length c2, v3, v4, v5, .int .i64 d] P cp i (fun _ => False) sd.1 sd.2 w' ∧ KeepsOthers w4 w')))) (ds := []) (msk 15 0) (by kernel_rfl) rfl rfl (HT.out _ ⟨HI.out.1.below (qaq (Below.refl _ _)), HI.out.2.trans (KeepsOthers.drew _)⟩) (fun hHeld => ?_)
         have HP6 := qab.mk hHeld
         refine zt5 0 1 46 hHeld ?_
         refine zq 1 2 47 ?_
         refine zq 2 3 48 ?_
         refine zt5 3 4 49 hHeld ?_
         refine zt5 4 5 50 hHeld ?_
         refine zq 5 6 51 ?_
         refine zq 6 7 52 ?_
         refine zq 7 8 53 ?_
         refine zq 8 9 54 ?_
         refine zq 9 10 55 ?_
         refine zq 10 11 56 ?_
         refine zt5 11 12 57 hHeld ?_
         refine zq 12 13 58 ?_
         refine one_ (i := 13) (N := some 59) (msk 15 14) rfl rfl (by kernel_rfl) (by decide) (fun K hK => ?_)
         refine zg Try.func64 #[.slice A2 ws.length c2, .int .i64 (k : Int)] ?_
         refine (HCON.out _ hHeld.2.2.2.2.out.1.hb).mono ?_; rintro e w6 ⟨rfl, hb⟩; have HP6 := qab.mk (HT.out w6 ⟨hHeld.2.2.2.2.out.1.below hb, hHeld.2.2.2.2.out.2.trans (KeepsOthers.of_grownBy (grown_of_below hb none) (fun j o e => by cases e))⟩); clear hb; refine ⟨_, rfl, ?_⟩; refine hK.out _ _ HP6.out (fun hHeld => ?_); clear hK K; refine zn 59 ?_
         refine zq 14 15 60 ?_
         refine done_ (by kernel_rfl) ?_
         refine onlyN_to ?_
         clear hHeld HI
         have HA := HP6.out.2.2.2.2
         clear HP6
         go_wp2
         go_roundw
         case rel => exact ⟨k + 1, by omega, by go_num, ⟨by rw [seedTo_succ, ← HSD.out, HSS.out]; exact HA.out⟩⟩
         case measure => simp [intOf]; omega
      ·
       obtain rfl : P = k := by omega
       go_upto_region 18 with fail
       obtain ⟨T, hT⟩ : ∃ T, T = foulTo P l1 ws d ths (i + 1) := ⟨_, rfl⟩
       have HTV : qab (bfsV l1 (openL d l1 th l1.length) i (cntN i (seedTo i ws (foulTo P l1 ws d ths i) P).1 + (seedTo i ws (foulTo P l1 ws d ths i) P).2.length + 1) (seedTo i ws (foulTo P l1 ws d ths i) P).1 (seedTo i ws (foulTo P l1 ws d ths i) P).2 = T) := ⟨by
        rw [hT, HTH.out]
        show _ = yearV _ _ _ _ _ _
        unfold yearV
        rw [foulTo_length]⟩
       have HQI := qab.mk (seedTo_in i ws (foulTo P l1 ws d ths i) P)
       have HLQ := qab.mk (seedTo_len i ws (foulTo P l1 ws d ths i) P)
       have HLN : qab ((seedTo i ws (foulTo P l1 ws d ths i) P).1.length = P) := ⟨by rw [seedTo_length, foulTo_length]⟩
       have HTT := qab.mk hT
       clear hT
       obtain ⟨sd, hsd⟩ : ∃ s, s = seedTo i ws (foulTo P l1 ws d ths i) P := ⟨_, rfl⟩
       rw [← hsd] at HI HTV HQI HLN HLQ
       clear hsd
       have HI2 := qab.mk (And.intro (HI.out.1.more (X' := fun k => wr.heap.size ≤ k) (fun k h1 h2 => by omega)) HI.out.2)
       have HTK := qab.mk (take_FS HI2.out.1 (by omega))
       have q9 : wr.cell? ⟨g9, 0, none⟩ = some (.pointer (some ⟨gq, 0, none⟩)) := (qaa HI.out.1.x9 0).trans rfl
       clear HI
       go_wp2_with (go_at_call 90; (with_reducible refine HTK.out.mono ?_); rintro e wt ⟨p, is, q, rfl, hc, hf, hk, ho⟩; have HF := qab.mk (And.intro hf (HI2.out.2.trans ho)); have HC := qab.mk hc; have HWT := qab.mk (KB.size hk); clear hf hk ho hc)
       have hbx := qag (Below.refl wt.heap.size wt) (.cells #[.int .i64 p] 3)
       have h11 := blk_new wt (.cells #[.int .i64 p] 3)
       have hwr : w.heap.size ≤ wr.heap.size := HI2.out.1.hb.size
       have hwt := HWT.out
       have HQ0 : qab (FQ w gd g5 g7 g9 gq go wt.heap.size #[.int .i64 (P : Int), .slice A1 l1.length c1, .slice A2 ws.length c2, v3, v4, v5, .int .i64 d] P cp i l1 (openL d l1 th l1.length) T p is sd.1 q Ds (wt.alloc (.cells #[.int .i64 p] 3))) := ⟨by
        have hf := HF.out.1
        refine ⟨(hf.below hbx).more (fun k e hlt => by rw [e]; exact hwt), h11, by omega, ⟨fun e => by have := hf.lo; omega, fun e => by have := blk_lt hf.x7; omega⟩, fun D hD => ?_, HU4.out.nd, HLN.out, ?_, fun x hx => HQI.out x ?_, ?_⟩
        ·
         have h1 := HU4.out.marks D hD
         exact ⟨(hbx.block D (blk_lt (HF.out.2.same D _ h1.1 rfl))).trans (HF.out.2.same D _ h1.1 rfl), h1.2⟩
        ·
         have h5 := HLQ.out
         have h6 : cntN i sd.1 ≤ P := by
          unfold cntN
          exact Nat.le_trans (List.length_filter_le _ _) (Nat.le_of_eq HLN.out)
         rcases HC.out with ⟨_, h⟩ | ⟨_, h, _⟩
         ·
          rw [h] at h5; simp at h5; omega
         ·
          rw [h]; simp; omega
        ·
         rcases HC.out with ⟨_, h⟩ | ⟨_, h, _⟩
         ·
          rw [h]; exact List.mem_cons_of_mem _ hx
         ·
          rw [h] at hx; cases hx
        ·
         rcases HC.out with ⟨h1, h2⟩ | ⟨h1, h2, h3⟩
         ·
          refine .inl ⟨h1, HQI.out p (by rw [h2]; simp), ?_⟩
          have h4 := HTV.out
          rw [h2] at h4
          exact h4
         ·
          refine .inr ⟨h1, h2, ?_⟩
          have h4 := HTV.out
          rw [h3] at h4
          exact h4⟩
       clear hbx h11 hwr hwt
       generalize wt.alloc (.cells #[.int .i64 p] 3) = wq at HQ0 ⊢
       generalize wt.heap.size = g11 at HQ0 ⊢
       refine (wpIn_wide (n := 12)).1 ?_
       refine wpIn_loop (LIQ w gd g5 g7 g9 gq go #[.int .i64 (P : Int), .slice A1 l1.length c1, .slice A2 ws.length c2, v3, v4, v5, .int .i64 d] P cp (some ad) ths.length ct th i l1 (openL d l1 th l1.length) T) (muQ go gq P i) ?h0q ?roundq
       case h0q => exact LIQ.mk g11 p is sd.1 q Ds rfl rfl HQ0
       case roundq =>
        clear HQ0 HF HC HTK HI2 HWT
        rintro a W ⟨g11, p, is, o, q, z, Ds, rfl, HQ⟩
        refine wpIn_wide.2 ?_
        unfold frQ
        cases is with
        | false =>
         go_wp2
         refine ⟨LIY.mk (i + 1) Ds (by omega) rfl rfl ⟨?_⟩, ?_⟩
         ·
          have hf := HQ.out.f
          refine ⟨hf.hb, hf.d, hf.x5, ?_, hf.l5, hf.lo, HQ.out.marks, HQ.out.nd⟩
          rcases HQ.out.run with ⟨h, _⟩ | ⟨_, _, h⟩
          ·
           cases h
          ·
           rw [← HTT.out, ← h]
           exact hf.o
         ·
          simp [intOf]; omega
        | true =>
         go_wp2_with (go_at_call 91; refine (open_calls gd th W).mono ?_; rintro e W1 ⟨Bd, Bt, rfl, hBd, hBt, hpd, hpt, hb⟩)
         have hq0 := HQ.out
         have hWw : w.heap.size ≤ W.heap.size := hq0.f.hb.size
         have hlt1 : W.heap.size ≤ W1.heap.size := hb.size
         have hgd := blk_lt hq0.f.d
         have hgo := hq0.f.lo.2
         have hBd1 := blk_lt hpd
         have hBt1 := blk_lt hpt
         have hDs1 : ∀ D ∈ Ds, D < W1.heap.size := fun D hD => Nat.lt_of_lt_of_le (blk_lt (hq0.marks D hD).1) hlt1
         have HFB : qab (FB w gd g5 g7 g9 gq go g11 Bd Bt #[.int .i64 (P : Int), .slice A1 l1.length c1, .slice A2 ws.length c2, v3, v4, v5, .int .i64 d] P cp i th p o q Ds W1) := ⟨⟨(hq0.f.more (X' := fun k => k = g11 ∨ k = Bd ∨ k = Bt) (fun k h1 h2 => h1.elim id (fun h => h.elim (fun e => by omega) (fun e => by omega)))).below hb, qad hq0.x11 hb, hpd, hpt, fun D hD => qad (hq0.marks D hD).1 hb, hq0.n11.1, by omega⟩⟩
         have hOS := open_stops (12 - 1) (by omega) gd Bd Bt (.int .i64 (P : Int)) (.slice A2 ws.length c2) v3 v4 v5 A1 c1 l1 d th w W1 HR1.out h12 HFB.out.f.hb hpd hpt HFB.out.f.d
         have hOLEN := hq0.len
         have hLEN2 := hq0.len2
         have HMA := qab.mk hq0.marks
         have HND := qab.mk hq0.nd
         have HQS := qab.mk hq0.qs
         have HRUN := qab.mk hq0.run
         have HMU : qab (∀ a : Act, a.tmps.getD 12 undef = .bool true → muQ go gq P i a W = cntN i o + q.length + 1) := ⟨fun a ha => muQ_at hq0.f hq0.len true a ha⟩
         clear hq0 HQ hpd hpt hb
         refine (wpIn_wide (n := 12)).1 ?_
         refine wpIn_rangeFunc_ownH rfl (by omega) (gf := 107) (lb := #[.pointer (some ⟨Bd, 0, none⟩), .pointer (some ⟨Bt, 0, none⟩)]) rfl trivial (enters_of Try.func107 (by kernel_rfl) rfl) hOS (fun h k => OKp.tr h k) (okp_put (by omega) (by omega) hBd1 hBt1) (Below.refl _ _) (fun _ => rfl)
          (fun (pre : List (EdgeOf l1)) W => qab (FB w gd g5 g7 g9 gq go g11 Bd Bt #[.int .i64 (P : Int), .slice A1 l1.length c1, .slice A2 ws.length c2, v3, v4, v5, .int .i64 d] P cp i th p (relV l1 i p (pre.map (fun y : EdgeOf l1 => y.1)) (o, q)).1 (relV l1 i p (pre.map (fun y : EdgeOf l1 => y.1)) (o, q)).2 Ds W))
          (fun _ _ _ => False)
          (fun s A B row hs hg hr => ⟨hs.out.own (by omega) hDs1 hg hr⟩)
          (fun _ _ _ _ _ hs _ _ => hs)
          HFB
          (fun x a' W => ∃ (Be : Nat) (z : Nat → Value), W.heap[Be]? = some (.cells #[.int .i64 (qav l1 x.1).f0, .int .i64 (qav l1 x.1).f1, .int .i64 (qav l1 x.1).f2, .int .i64 (qav l1 x.1).f3] 44 (0, 0)) ∧ a' = { tmps := frB g5 g7 g9 g11 Be z, defers := [] })
          (fun x a' s A B row hs hg hr => by obtain ⟨Be, z, h2, h3⟩ := hs; exact ⟨Be, z, blk_own' h2 hg hr, h3⟩)
          ?assign ?body ?done ?stop
         case assign =>
          clear hOS
          rintro l pre x W K HBI hK
          unfold encE
          gi_wp2
          have hx1 := qag (Below.refl W.heap.size W) (.cells #[.int .i64 (qav l1 x.1).f0, .int .i64 (qav l1 x.1).f1, .int .i64 (qav l1 x.1).f2, .int .i64 (qav l1 x.1).f3] 44)
          exact hK _ _ ((KeepsOthers.alloc _ _).from _) (HBI.out.okp (HBI.out.below hx1) hx1.size) ⟨HBI.out.below hx1⟩ ⟨W.heap.size, _, blk_new W _, actB rfl⟩
         case body =>
          rintro l pre ⟨x0, hx0⟩ a' W2 _ _ HBI ⟨Be, z2, BE, rfl⟩ hplen
          have hE0 := HE.out x0 hx0
          have HREL : ∀ s', relS l1 i p (relV l1 i p (pre.map (fun y : EdgeOf l1 => y.1)) (o, q)) x0 = s' → qab (relV l1 i p ((pre ++ [(⟨x0, hx0⟩ : EdgeOf l1)]).map (fun y : EdgeOf l1 => y.1)) (o, q) = s') := fun s' h => ⟨by rw [List.map_append]; exact (relV_snoc _ _ _ _ _ _).trans h⟩
          have hsl : (relV l1 i p (pre.map (fun y : EdgeOf l1 => y.1)) (o, q)).1.length = P := by rw [relV_length]; exact hOLEN
          have hsq : (relV l1 i p (pre.map (fun y : EdgeOf l1 => y.1)) (o, q)).2.length ≤ 2 * P := by
           have h1 := relV_meas l1 i p (pre.map (fun y : EdgeOf l1 => y.1)) (o, q) (fun k hk => by
            obtain ⟨y, _, rfl⟩ := List.mem_map.1 hk
            have h2 := (HE.out y.1 y.2).2
            rw [show ((o, q) : List Int × List Int).1.length = P from hOLEN]
            exact h2)
           simp only at h1
           omega
          obtain ⟨s, hs⟩ : ∃ s, s = relV l1 i p (pre.map (fun y : EdgeOf l1 => y.1)) (o, q) := ⟨_, rfl⟩
          rw [← hs] at HREL hsl hsq
          have HBI : qab (FB w gd g5 g7 g9 gq go g11 Bd Bt #[.int .i64 (P : Int), .slice A1 l1.length c1, .slice A2 ws.length c2, v3, v4, v5, .int .i64 d] P cp i th p s.1 s.2 Ds W2 ∧ W2.heap[Be]? = some (.cells #[.int .i64 (qav l1 x0).f0, .int .i64 (qav l1 x0).f1, .int .i64 (qav l1 x0).f2, .int .i64 (qav l1 x0).f3] 44 (0, 0))) := ⟨by rw [hs]; exact HBI.out, BE⟩
          clear hs BE hOS
          unfold relS at HREL
          generalize qav l1 x0 = X at HBI hE0 HREL
          obtain ⟨e0, e1, e2, e3⟩ := X
          dsimp only at HBI hE0 HREL
          obtain ⟨t, rfl⟩ : ∃ t : Nat, e1 = t := ⟨e1.toNat, by omega⟩
          have ht : t < P := by omega
          obtain ⟨x, hx⟩ : ∃ x, x = rd s.1 t := ⟨_, rfl⟩
          have HX := qab.mk hx
          rw [← hx] at HREL
          clear hx hE0
          have HT : qab (∀ W', FB w gd g5 g7 g9 gq go g11 Bd Bt #[.int .i64 (P : Int), .slice A1 l1.length c1, .slice A2 ws.length c2, v3, v4, v5, .int .i64 d] P cp i th p s.1 s.2 Ds W' ∧ KeepsOthers W2 W' ∧ W'.heap[Be]? = some (.cells #[(.int .i64 e0), (.int .i64 (t : Int)), (.int .i64 e2), (.int .i64 e3)] 44 (0, 0)) → (W'.cell? ⟨Be, 0, none⟩ = some (.int .i64 e0) ∧ W'.cell? ⟨Be, 1, none⟩ = some (.int .i64 (t : Int)) ∧ W'.cell? ⟨g11, 0, none⟩ = some (.int .i64 p) ∧ W'.cell? ⟨g5, 0, none⟩ = some (.slice (some ⟨go, 0, none⟩) P cp) ∧ W'.cell? ⟨go, t, none⟩ = some (.int .i64 x) ∧ W'.cell? ⟨g7, 0, none⟩ = some (.int .i64 (i : Int)) ∧ W'.cell? ⟨g9, 0, none⟩ = some (.pointer (some ⟨gq, 0, none⟩)) ∧ qab (FB w gd g5 g7 g9 gq go g11 Bd Bt #[.int .i64 (P : Int), .slice A1 l1.length c1, .slice A2 ws.length c2, v3, v4, v5, .int .i64 d] P cp i th p s.1 s.2 Ds W' ∧ KeepsOthers W2 W' ∧ W'.heap[Be]? = some (.cells #[(.int .i64 e0), (.int .i64 (t : Int)), (.int .i64 e2), (.int .i64 e3)] 44 (0, 0))))) := ⟨fun W' h => ⟨(qaa h.2.2 0).trans rfl, (qaa h.2.2 1).trans rfl, (qaa h.1.x11 0).trans rfl, (qaa h.1.f.x5 0).trans rfl, by rw [HX.out]; exact introw_at h.1.f.o t (by omega), (qaa h.1.f.x7 0).trans rfl, (qaa h.1.f.x9 0).trans rfl, ⟨h⟩⟩⟩
          have NO : ∀ (a : Act) (W' : World), FB w gd g5 g7 g9 gq go g11 Bd Bt #[.int .i64 (P : Int), .slice A1 l1.length c1, .slice A2 ws.length c2, v3, v4, v5, .int .i64 d] P cp i th p s.1 s.2 Ds W' ∧ KeepsOthers W2 W' → ¬ (e0 = p ∧ x > i) → ownPostG W1.heap.size (OKp w.heap.size gd Bd Bt) (fun (pre : List (EdgeOf l1)) W => qab (FB w gd g5 g7 g9 gq go g11 Bd Bt #[.int .i64 (P : Int), .slice A1 l1.length c1, .slice A2 ws.length c2, v3, v4, v5, .int .i64 d] P cp i th p (relV l1 i p (pre.map (fun y : EdgeOf l1 => y.1)) (o, q)).1 (relV l1 i p (pre.map (fun y : EdgeOf l1 => y.1)) (o, q)).2 Ds W)) (fun _ _ _ => False) (pre ++ [(⟨x0, hx0⟩ : EdgeOf l1)]) W2 .normal a W' := by
           intro a W' h hn
           refine ⟨h.2.from _, HBI.out.1.okp h.1 h.2.size, ⟨?_⟩⟩
           rw [(HREL _ (if_neg hn)).out]
           exact h.1
          have HNO := qab.mk NO
          clear NO
          refine wpIn_block ?_
          refine wpIn_seq ?_
          unfold frB
          by_cases hc1 : e0 = p
          ·
           have hb1 : (e0 == p) = true := by simp [hc1]
           by_cases hc2 : x > i
           ·
            have hb2 : decide ((i : Int) < x) = true := decide_eq_true hc2
            have HR' := HREL _ (if_pos ⟨hc1, hc2⟩)
            clear HREL HNO hc1 hc2
            refine startR_ (n := 13) (S := (fun w' => (w'.cell? ⟨Be, 0, none⟩ = some (.int .i64 e0) ∧ w'.cell? ⟨Be, 1, none⟩ = some (.int .i64 (t : Int)) ∧ w'.cell? ⟨g11, 0, none⟩ = some (.int .i64 p) ∧ w'.cell? ⟨g5, 0, none⟩ = some (.slice (some ⟨go, 0, none⟩) P cp) ∧ w'.cell? ⟨go, t, none⟩ = some (.int .i64 x) ∧ w'.cell? ⟨g7, 0, none⟩ = some (.int .i64 (i : Int)) ∧ w'.cell? ⟨g9, 0, none⟩ = some (.pointer (some ⟨gq, 0, none⟩)) ∧ qab (FB w gd g5 g7 g9 gq go g11 Bd Bt #[.int .i64 (P : Int), .slice A1 l1.length c1, .slice A2 ws.length c2, v3, v4, v5, .int .i64 d] P cp i th p s.1 s.2 Ds w' ∧ KeepsOthers W2 w' ∧ w'.heap[Be]? = some (.cells #[(.int .i64 e0), (.int .i64 (t : Int)), (.int .i64 e2), (.int .i64 e3)] 44 (0, 0)))))) (ds := []) (msk 13 0) (by kernel_rfl) (fun hl => by obtain ⟨_, _, h⟩ := hl; exact h) (by kernel_rfl) rfl rfl (HT.out _ ⟨HBI.out.1.below (qaq (Below.refl _ _)), KeepsOthers.drew _, (qad HBI.out.2 (qaq (Below.refl _ _)))⟩) (fun hHeld => ?_)
            have HP6 := qab.mk hHeld
            refine zq 0 1 90 ?_
            refine zt8 1 2 91 hHeld ?_
            refine zt8 2 3 92 hHeld ?_
            refine zq 3 4 93 ?_
            refine zq 4 5 94 ?_
            refine zt8 5 6 95 hHeld ?_
            refine zq 6 7 96 ?_
            refine zt8 7 8 97 hHeld ?_
            refine zq 8 9 98 ?_
            refine zt8 9 10 99 hHeld ?_
            refine zt8 10 11 100 hHeld ?_
            refine zq 11 12 101 ?_
            refine zq 12 13 102 ?_
            refine done_ (by kernel_rfl) ?_
            have HA := HP6.out.2.2.2.2.2.2.2
            clear HP6 hHeld
            generalize W2.drew = wa at HA ⊢
            obtain ⟨f0, f1, f2, f3, f4, f5, f6, _⟩ := HT.out wa HA.out
            obtain ⟨_, cso, hbo⟩ := R_blk HA.out.1.f.o (by omega)
            have fr := qac hbo
            have HNE : qab (Be ≠ go) := ⟨blk_ne HA.out.2.2 hbo (by decide)⟩
            clear hbo
            have g1 : (wa.setCell ⟨go, t, none⟩ (.int .i64 (i : Int))).cell? ⟨Be, 1, none⟩ = some (.int .i64 (t : Int)) := (World.cell?_setCell_far _ _ _ _ (Ne.symm HNE.out)).trans f1
            have g6 : (wa.setCell ⟨go, t, none⟩ (.int .i64 (i : Int))).cell? ⟨g9, 0, none⟩ = some (.pointer (some ⟨gq, 0, none⟩)) := (qaa (HA.out.1.put (by omega) t i).f.x9 0).trans rfl
            have HPUT := qab.mk (put_calls gq _ s.2 (t : Int) w (wa.setCell ⟨go, t, none⟩ (.int .i64 (i : Int))) (HA.out.1.put (by omega) t i).f.hb (HA.out.1.put (by omega) t i).f.q (fun j hj => by have := (HA.out.1.put (by omega) t i); have h1 := blk_lt this.f.d; have h2 := blk_lt this.f.x5; have h3 := blk_lt this.f.x7; have h4 := blk_lt this.f.x9; have h5 := this.f.q.lt; have h6 := this.f.lo; have h7 := this.f.hb.size; have h8 := blk_lt this.x11; have h9 := blk_lt this.bd; have h10 := blk_lt this.bt; exact ⟨by omega, by omega, by omega, by omega, by omega, by omega, by omega, fun h => by rcases h with h | h | h <;> omega⟩) (by omega))
            gi_wp2
            refine ⟨trivial, (CallsIn.inRound l (callsIn_wide.2 HPUT.out)).mono ?_⟩
            rintro e W3 ⟨rfl, hq3, hk3, ho3, hb3⟩
            have h3 := (HA.out.1.put (by omega) t i).queue (by omega) hq3 hk3 hb3 ho3
            have h4 := (HA.out.2.1.trans (KeepsOthers.setCell _ _ _)).trans ho3
            have HZ := qab.mk h3
            have HZ4 := qab.mk h4
            clear h3 h4 hq3 hk3 hb3 ho3 HPUT
            gi_wp2
            exact ⟨HZ4.out.from _, HBI.out.1.okp HZ.out HZ4.out.size, ⟨by rw [HR'.out]; exact HZ.out⟩⟩
           ·
            have hb2 : decide ((i : Int) < x) = false := decide_eq_false hc2
            have hn : ¬ (e0 = p ∧ x > i) := fun h => hc2 h.2
            clear HREL hc1 hc2
            refine startR_ (n := 13) (S := (fun w' => (w'.cell? ⟨Be, 0, none⟩ = some (.int .i64 e0) ∧ w'.cell? ⟨Be, 1, none⟩ = some (.int .i64 (t : Int)) ∧ w'.cell? ⟨g11, 0, none⟩ = some (.int .i64 p) ∧ w'.cell? ⟨g5, 0, none⟩ = some (.slice (some ⟨go, 0, none⟩) P cp) ∧ w'.cell? ⟨go, t, none⟩ = some (.int .i64 x) ∧ w'.cell? ⟨g7, 0, none⟩ = some (.int .i64 (i : Int)) ∧ w'.cell? ⟨g9, 0, none⟩ = some (.pointer (some ⟨gq, 0, none⟩)) ∧ qab (FB w gd g5 g7 g9 gq go g11 Bd Bt #[.int .i64 (P : Int), .slice A1 l1.length c1, .slice A2 ws.length c2, v3, v4, v5, .int .i64 d] P cp i th p s.1 s.2 Ds w' ∧ KeepsOthers W2 w' ∧ w'.heap[Be]? = some (.cells #[(.int .i64 e0), (.int .i64 (t : Int)), (.int .i64 e2), (.int .i64 e3)] 44 (0, 0)))))) (ds := []) (msk 13 0) (by kernel_rfl) (fun hl => by obtain ⟨_, _, h⟩ := hl; exact h) (by kernel_rfl) rfl rfl (HT.out _ ⟨HBI.out.1.below (qaq (Below.refl _ _)), KeepsOthers.drew _, (qad HBI.out.2 (qaq (Below.refl _ _)))⟩) (fun hHeld => ?_)
            have HP6 := qab.mk hHeld
            refine zq 0 1 90 ?_
            refine zt8 1 2 91 hHeld ?_
            refine zt8 2 3 92 hHeld ?_
            refine zq 3 4 93 ?_
            refine zq 4 5 94 ?_
            refine zt8 5 6 95 hHeld ?_
            refine zq 6 7 96 ?_
            refine zt8 7 8 97 hHeld ?_
            refine zq 8 9 98 ?_
            refine zt8 9 10 99 hHeld ?_
            refine zt8 10 11 100 hHeld ?_
            refine zq 11 12 101 ?_
            refine zq 12 13 102 ?_
            refine done_ (by kernel_rfl) ?_
            have HA := HP6.out.2.2.2.2.2.2.2
            gi_wp2
            exact HNO.out _ _ ⟨HA.out.1, HA.out.2.1⟩ hn
          ·
           have hb1 : (e0 == p) = false := by simp [hc1]
           have hn : ¬ (e0 = p ∧ x > i) := fun h => hc1 h.1
           clear HREL hc1
           refine startR_ (n := 13) (S := (fun w' => (w'.cell? ⟨Be, 0, none⟩ = some (.int .i64 e0) ∧ w'.cell? ⟨Be, 1, none⟩ = some (.int .i64 (t : Int)) ∧ w'.cell? ⟨g11, 0, none⟩ = some (.int .i64 p) ∧ w'.cell? ⟨g5, 0, none⟩ = some (.slice (some ⟨go, 0, none⟩) P cp) ∧ w'.cell? ⟨go, t, none⟩ = some (.int .i64 x) ∧ w'.cell? ⟨g7, 0, none⟩ = some (.int .i64 (i : Int)) ∧ w'.cell? ⟨g9, 0, none⟩ = some (.pointer (some ⟨gq, 0, none⟩)) ∧ qab (FB w gd g5 g7 g9 gq go g11 Bd Bt #[.int .i64 (P : Int), .slice A1 l1.length c1, .slice A2 ws.length c2, v3, v4, v5, .int .i64 d] P cp i th p s.1 s.2 Ds w' ∧ KeepsOthers W2 w' ∧ w'.heap[Be]? = some (.cells #[(.int .i64 e0), (.int .i64 (t : Int)), (.int .i64 e2), (.int .i64 e3)] 44 (0, 0)))))) (ds := []) (msk 13 0) (by kernel_rfl) (fun hl => by obtain ⟨_, _, h⟩ := hl; exact h) (by kernel_rfl) rfl rfl (HT.out _ ⟨HBI.out.1.below (qaq (Below.refl _ _)), KeepsOthers.drew _, (qad HBI.out.2 (qaq (Below.refl _ _)))⟩) (fun hHeld => ?_)
           have HP6 := qab.mk hHeld
           refine zq 0 1 90 ?_
           refine zt8 1 2 91 hHeld ?_
           refine zt8 2 3 92 hHeld ?_
           refine zq 3 4 93 ?_
           refine zq 4 5 94 ?_
           refine zo 5 6 95 ?_
           refine zo 6 7 96 ?_
           refine zo 7 8 97 ?_
           refine zo 8 9 98 ?_
           refine zo 9 10 99 ?_
           refine zo 10 11 100 ?_
           refine zo 11 12 101 ?_
           refine zq 12 13 102 ?_
           refine done_ (by kernel_rfl) ?_
           have HA := HP6.out.2.2.2.2.2.2.2
           gi_wp2
           exact HNO.out _ _ ⟨HA.out.1, HA.out.2.1⟩ hn
         case done =>
          clear hOS
          rintro D xs W2 hD hS HBI hK
          have hks : ∀ k ∈ xs.map (fun y : EdgeOf l1 => y.1), 0 ≤ (qav l1 k).f1 ∧ (qav l1 k).f1 < (P : Int) := fun k hk => by
           obtain ⟨y, _, rfl⟩ := List.mem_map.1 hk
           exact (HE.out y.1 y.2).2
          have hS' : xs.map (fun y : EdgeOf l1 => y.1) = openL d l1 th l1.length := hS
          clear hS
          have HFB2 : qab (FB w gd g5 g7 g9 gq go g11 Bd Bt #[.int .i64 (P : Int), .slice A1 l1.length c1, .slice A2 ws.length c2, v3, v4, v5, .int .i64 d] P cp i th p (relV l1 i p (xs.map (fun y : EdgeOf l1 => y.1)) (o, q)).1 (relV l1 i p (xs.map (fun y : EdgeOf l1 => y.1)) (o, q)).2 Ds W2) := HBI
          clear HBI
          rw [hS'] at hks HFB2
          clear hS'
          have HKS := qab.mk hks
          have HTK := qab.mk (take_FS HFB2.out.next1 (by omega))
          have hNX := HFB2.out.next1
          have f11 : W2.cell? ⟨g11, 0, none⟩ = some (.int .i64 p) := (qaa HFB2.out.x11 0).trans rfl
          have f9 : (W2.alloc (.cells #[.int .i64 p] 3)).cell? ⟨g9, 0, none⟩ = some (.pointer (some ⟨gq, 0, none⟩)) := (qaa hNX.x9 0).trans rfl
          clear hNX hks
          have hrun : bfsV l1 (openL d l1 th l1.length) i (cntN i o + (q.length + 1) + 1) o (p :: q) = T := by
           rcases HRUN.out with h | h
           ·
            exact h.2.2
           ·
            exact absurd h.1 (by simp)
          have HRN := qab.mk hrun
          clear hrun
          go_wp2_with (go_at_call 90; (with_reducible refine HTK.out.mono ?_); rintro e W4 ⟨p2, is2, q2, rfl, hc, hf, hk, ho⟩; have hn4 := hk.blk (blk_new W2 (.cells #[.int .i64 p] 3)) (fun e => e.elim (fun e => by have := HFB2.out.f.q.lt; omega) (fun e => e.2.2.2.2.2.2.2 (.inr (.inr (.inr rfl))))); have f4 : W4.cell? ⟨W2.heap.size, 0, none⟩ = some (.int .i64 p) := (qaa hn4 0).trans rfl; have fr4 := qac hn4; have HN2 := qab.mk (HFB2.out.next2 (by omega) HRN.out hOLEN hLEN2 HQS.out HKS.out hK (by omega) (fun hd => by have := hDs1 D hd; omega) (fun D hd => (HMA.out D hd).2) HND.out hf hk ho hc); clear hc hf hk ho hn4 HTK f9 f11)
          refine ⟨LIQ.mk W2.heap.size p2 is2 _ q2 (D :: Ds) rfl rfl ⟨HN2.out.1⟩, ?_⟩
          rw [muQ_at HN2.out.1.f HN2.out.1.len is2 _ rfl, HMU.out _ rfl]
          exact HN2.out.2
         case stop =>
          rintro D c pre W _ _ h _
          exact h.elim
    ·
     have hiE : i = ths.length := by omega
     have HV : qab (foulTo P l1 ws d ths i = foulV P l1 ws d ths) := ⟨by rw [hiE]; rfl⟩
     have q5 : W.cell? ⟨g5, 0, none⟩ = some (.slice (some ⟨go, 0, none⟩) P cp) := (qaa HU.out.x5 0).trans rfl
     clear hiE
     go_wp2
     refine leaveF w _ _ (foulTo P l1 ws d ths i) go P cp rfl rfl _ ?_ Ds W HU.out.nd HU.out.marks HU.out.o HU.out.hb
     intro W' hr hb
     rw [HV.out] at hr
     exact ⟨_, rfl, Kd.R_mono hr (fun _ _ => trivial), hb⟩
end Go.Proofs.Ytafkanmioinbiaa.SA
namespace Go.Proofs.Ytafkanmioinbiaa.SA
open Go.RowKit Go.Proofs.YtafkanmioinbiaaW.PrintWords Go.Proofs.YtafkanmioinbiaaW.PrintLast Go.Proofs.YtafkanmioinbiaaW.PrintMore
attribute [local go_sem] qax qaz max_two min_two qao qap qay qba
structure ValidF (p : Int) (l1 : List S44) (l2 l3 : List Int) (l4 : List S41) (l5 : List S95) : Prop where
 pp : 1 ≤ p ∧ p ≤ 10
 n1 : l1.length ≤ 12
 e : ∀ k : Nat, k < l1.length → (0 ≤ (qav l1 k).f0 ∧ (qav l1 k).f0 < p) ∧ (0 ≤ (qav l1 k).f1 ∧ (qav l1 k).f1 < p) ∧ (qav l1 k).f0 ≠ (qav l1 k).f1 ∧ (0 ≤ (qav l1 k).f2 ∧ (qav l1 k).f2 ≤ 20000) ∧ (-1 ≤ (qav l1 k).f3 ∧ (qav l1 k).f3 ≤ 1000000)
 w2 : ∀ x ∈ l2, 0 ≤ x ∧ x < p
 w3 : ∀ x ∈ l3, 0 ≤ x ∧ x < p
 n2 : l2.length ≤ 10
 n3 : l3.length ≤ 10
 n4 : 1 ≤ l4.length ∧ l4.length ≤ 10
 s : ∀ k : Nat, k < l4.length → 0 ≤ (rd_T41 l4 k).f0 ∧ (rd_T41 l4 k).f0 ≤ (rd_T41 l4 k).f1 ∧ (rd_T41 l4 k).f1 ≤ 20000
 n5 : l5.length ≤ 6
 l : ∀ k : Nat, k < l5.length → ((rd_T95 l5 k).f0 = -1 ∨ ((k : Int) + 1 ≤ (rd_T95 l5 k).f0 ∧ (rd_T95 l5 k).f0 < l5.length)) ∧ (0 ≤ (rd_T95 l5 k).f1 ∧ (rd_T95 l5 k).f1 ≤ 20000) ∧ (0 ≤ (rd_T95 l5 k).f2.f0 ∧ (rd_T95 l5 k).f2.f0 ≤ (rd_T95 l5 k).f2.f1 ∧ (rd_T95 l5 k).f2.f1 ≤ 1000000) ∧ (0 ≤ (rd_T95 l5 k).f3.f0 ∧ (rd_T95 l5 k).f3.f0 ≤ (rd_T95 l5 k).f3.f1 ∧ (rd_T95 l5 k).f3.f1 ≤ 1000000)
theorem incB_at {l : List Int} {b : Int} (h : incB l b = true) (i : Nat) (hi : i < l.length) : incAt l b i = true := by
 unfold incB at h
 rw [List.all_eq_true] at h
 exact h i (List.mem_range.2 hi)
theorem incB_step {l : List Int} {b : Int} (h : incB l b = true) (i : Nat) (hi : i + 1 < l.length) : l.getD i 0 < l.getD (i + 1) 0 := by
 have h1 := incB_at h (i + 1) hi
 unfold incAt at h1
 simp only [Bool.and_eq_true, Bool.or_eq_true, decide_eq_true_eq, Nat.add_sub_cancel] at h1
 rcases h1.2 with h2 | h2
 ·
  omega
 ·
  exact h2
theorem incB_ge {l : List Int} {b : Int} (h : incB l b = true) : ∀ i : Nat, i < l.length → (i : Int) ≤ l.getD i 0
 | 0, hi => by
  have h1 := incB_at h 0 hi
  unfold incAt inB at h1
  simp only [Bool.and_eq_true, decide_eq_true_eq] at h1
  exact h1.1.1
 | i + 1, hi => by
  have h1 := incB_ge h i (by omega)
  have h2 := incB_step h i hi
  omega
theorem incB_len {l : List Int} {b : Int} (h : incB l b = true) (hb : 0 ≤ b) (hb2 : b ≤ 9223372036854775807) : (l.length : Int) ≤ b := by
 rcases Nat.eq_zero_or_pos l.length with h0 | h0
 ·
  omega
 ·
  have h1 := incB_ge h (l.length - 1) (by omega)
  have h2 := inc_mem h (.inr hb) hb2 (l.getD (l.length - 1) 0) (by rw [List.getD_eq_getElem?_getD, List.getElem?_eq_getElem (show l.length - 1 < l.length by omega)]; exact List.getElem_mem _)
  omega
theorem valid_facts {p : Int} {l1 : List S44} {l2 l3 : List Int} {l4 : List S41} {l5 : List S95} (h : validB p l1 l2 l3 l4 l5 = true) : ValidF p l1 l2 l3 l4 l5 := by
 unfold validB at h
 simp only [Bool.and_eq_true, decide_eq_true_eq] at h
 obtain ⟨he, hl, hp, hn1, hi2, hi3, hn4, hs, hn5⟩ := h
 unfold inB at hp hn4
 simp only [Bool.and_eq_true, decide_eq_true_eq] at hp hn4
 have hw : wrap64 (p - 1) = p - 1 := by unfold wrap64; omega
 refine ⟨hp, hn1, fun k hk => ?_, inc_mem hi2 (.inl hp.1) (by omega), inc_mem hi3 (.inl hp.1) (by omega), ?_, ?_, ⟨by omega, by omega⟩, fun k hk => ?_, hn5, fun k hk => ?_⟩
 ·
  have h1 := List.all_eq_true.1 he (l1[k]) (List.getElem_mem hk)
  rw [show qav l1 k = l1[k] from by simp [qav, hk]]
  unfold edgeB inB at h1
  simp only [Bool.and_eq_true, decide_eq_true_eq, Bool.not_eq_true', decide_eq_false_iff_not, hw] at h1
  omega
 ·
  have := incB_len hi2 (by omega) (by omega); omega
 ·
  have := incB_len hi3 (by omega) (by omega); omega
 ·
  have h1 := List.all_eq_true.1 hs (l4[k]) (List.getElem_mem hk)
  rw [show rd_T41 l4 k = l4[k] from by simp [rd_T41, hk]]
  unfold spanB at h1
  simp only [Bool.and_eq_true, decide_eq_true_eq] at h1
  exact h1
 ·
  unfold lakesB at hl
  have h1 := List.all_eq_true.1 hl k (List.mem_range.2 hk)
  rw [show rd_T95 l5 k = l5[k] from by simp [rd_T95, hk]]
  unfold lakeB inB spanB at h1
  simp only [List.getD_eq_getElem?_getD, List.getElem?_eq_getElem hk, Option.getD_some, Bool.and_eq_true, Bool.or_eq_true, decide_eq_true_eq] at h1
  omega
theorem given_valid {p : Int} {l1 : List S44} {l2 l3 : List Int} {l4 : List S41} {l5 : List S95} {l : List Int} (h : givenB p l1 l2 l3 l4 l5 l = true) : validB p l1 l2 l3 l4 l5 = true := by
 unfold givenB at h
 simp only [Bool.and_eq_true] at h
 exact h.1
theorem foulV_length (P : Nat) (es : List S44) (ws : List Int) (d : Int) (ths : List Int) : (foulV P es ws d ths).length = P := foulTo_length _ _ _ _ _ _
theorem foulG (a0_0 : Int) (A0_1 : Option Addr) (c0_1 : Nat) (l0_1 : List S44) (A0_2 : Option Addr) (c0_2 : Nat) (l0_2 : List Int) (A0_3 : Option Addr) (c0_3 : Nat) (l0_3 : List Int) (A0_4 : Option Addr) (c0_4 : Nat) (l0_4 : List S41) (A0_5 : Option Addr) (c0_5 : Nat) (l0_5 : List S95) (d : Int) (gd : Nat) (At : Option Addr) (ct : Nat) (ths : List Int) (w : World) (hr0_1 : Kd.C k44 w A0_1 l0_1.length l0_1) (hc0_1 : l0_1.length ≤ c0_1) (hr0_2 : Kd.C (Kd.int .i64) w A0_2 l0_2.length l0_2) (hc0_2 : l0_2.length ≤ c0_2) (hr0_3 : Kd.C (Kd.int .i64) w A0_3 l0_3.length l0_3) (hc0_3 : l0_3.length ≤ c0_3) (hr0_4 : Kd.C k41 w A0_4 l0_4.length l0_4) (hc0_4 : l0_4.length ≤ c0_4) (hr0_5 : Kd.C k95 w A0_5 l0_5.length l0_5) (hc0_5 : l0_5.length ≤ c0_5) (hrt : Kd.C (Kd.int .i64) w At ths.length ths) (hy : ths.length ≤ 100000) (hV : ValidF a0_0 l0_1 l0_2 l0_3 l0_4 l0_5)
  (hd : w.heap[gd]? = some (.cells #[.int .i64 a0_0, .slice A0_1 l0_1.length c0_1, .slice A0_2 l0_2.length c0_2, .slice A0_3 l0_3.length c0_3, .slice A0_4 l0_4.length c0_4, .slice A0_5 l0_5.length c0_5, .int .i64 d] 123 (0, 0))) :
  Calls Try.prog 56 #[.pointer (some ⟨gd, 0, none⟩), .slice At ths.length ct] w fun e w' => ∃ v, e = .returned v ∧ Kd.R (Kd.int .i64) 3 w' w.heap.size (fun _ => True) v (foulV a0_0.toNat l0_1 l0_2 d ths) ∧ Below w.heap.size w w' := by
 obtain ⟨P, rfl⟩ : ∃ P : Nat, a0_0 = P := ⟨a0_0.toNat, by have := hV.pp; omega⟩
 have h1 := hV.pp
 have h2 := hV.n1
 exact foul_calls gd P _ _ _ A0_1 c0_1 l0_1 A0_2 c0_2 l0_2 d At ct ths w hr0_1 hr0_2 hc0_2 hrt (by omega) (by omega) (by omega) hy (fun k hk => ⟨(hV.e k hk).1, (hV.e k hk).2.1⟩) hd
theorem given_true (a0_0 : Int) (A0_1 : Option Addr) (c0_1 : Nat) (l0_1 : List S44) (A0_2 : Option Addr) (c0_2 : Nat) (l0_2 : List Int) (A0_3 : Option Addr) (c0_3 : Nat) (l0_3 : List Int) (A0_4 : Option Addr) (c0_4 : Nat) (l0_4 : List S41) (A0_5 : Option Addr) (c0_5 : Nat) (l0_5 : List S95) (A1 : Option Addr) (c1 : Nat) (l1 : List Int) (w : World) (hr0_1 : Kd.C k44 w A0_1 l0_1.length l0_1) (hc0_1 : l0_1.length ≤ c0_1) (hr0_2 : Kd.C (Kd.int .i64) w A0_2 l0_2.length l0_2) (hc0_2 : l0_2.length ≤ c0_2) (hr0_3 : Kd.C (Kd.int .i64) w A0_3 l0_3.length l0_3) (hc0_3 : l0_3.length ≤ c0_3) (hr0_4 : Kd.C k41 w A0_4 l0_4.length l0_4) (hc0_4 : l0_4.length ≤ c0_4) (hr0_5 : Kd.C k95 w A0_5 l0_5.length l0_5) (hc0_5 : l0_5.length ≤ c0_5) (hr1 : Kd.C (Kd.int .i64) w A1 l1.length l1) (hc1 : l1.length ≤ c1) (hg : givenB a0_0 l0_1 l0_2 l0_3 l0_4 l0_5 l1 = true) :
  Calls Try.prog 54 #[.agg #[.int .i64 a0_0, .slice A0_1 l0_1.length c0_1, .slice A0_2 l0_2.length c0_2, .slice A0_3 l0_3.length c0_3, .slice A0_4 l0_4.length c0_4, .slice A0_5 l0_5.length c0_5], .slice A1 l1.length c1] w fun e w' => ∃ g, e = .returned (.tuple #[.pointer (some ⟨g, 0, none⟩), .bool true]) ∧ w.heap.size ≤ g ∧ w'.heap[g]? = some (.cells #[.int .i64 a0_0, .slice A0_1 l0_1.length c0_1, .slice A0_2 l0_2.length c0_2, .slice A0_3 l0_3.length c0_3, .slice A0_4 l0_4.length c0_4, .slice A0_5 l0_5.length c0_5, .int .i64 (maskV l1 : Int)] 123 (0, 0)) ∧ Below w.heap.size w w' := by
 refine (given_calls a0_0 A0_1 c0_1 l0_1 A0_2 c0_2 l0_2 A0_3 c0_3 l0_3 A0_4 c0_4 l0_4 A0_5 c0_5 l0_5 A1 c1 l1 w hr0_1 hc0_1 hr0_2 hc0_2 hr0_3 hc0_3 hr0_4 hc0_4 hr0_5 hc0_5 hr1 hc1).mono ?_
 rintro e w' (⟨_, h⟩ | ⟨h, _⟩)
 ·
  exact h
 ·
  rw [hg] at h; cases h
theorem given_false (a0_0 : Int) (A0_1 : Option Addr) (c0_1 : Nat) (l0_1 : List S44) (A0_2 : Option Addr) (c0_2 : Nat) (l0_2 : List Int) (A0_3 : Option Addr) (c0_3 : Nat) (l0_3 : List Int) (A0_4 : Option Addr) (c0_4 : Nat) (l0_4 : List S41) (A0_5 : Option Addr) (c0_5 : Nat) (l0_5 : List S95) (A1 : Option Addr) (c1 : Nat) (l1 : List Int) (w : World) (hr0_1 : Kd.C k44 w A0_1 l0_1.length l0_1) (hc0_1 : l0_1.length ≤ c0_1) (hr0_2 : Kd.C (Kd.int .i64) w A0_2 l0_2.length l0_2) (hc0_2 : l0_2.length ≤ c0_2) (hr0_3 : Kd.C (Kd.int .i64) w A0_3 l0_3.length l0_3) (hc0_3 : l0_3.length ≤ c0_3) (hr0_4 : Kd.C k41 w A0_4 l0_4.length l0_4) (hc0_4 : l0_4.length ≤ c0_4) (hr0_5 : Kd.C k95 w A0_5 l0_5.length l0_5) (hc0_5 : l0_5.length ≤ c0_5) (hr1 : Kd.C (Kd.int .i64) w A1 l1.length l1) (hc1 : l1.length ≤ c1) (hg : givenB a0_0 l0_1 l0_2 l0_3 l0_4 l0_5 l1 = false) :
  Calls Try.prog 54 #[.agg #[.int .i64 a0_0, .slice A0_1 l0_1.length c0_1, .slice A0_2 l0_2.length c0_2, .slice A0_3 l0_3.length c0_3, .slice A0_4 l0_4.length c0_4, .slice A0_5 l0_5.length c0_5], .slice A1 l1.length c1] w fun e w' => e = .returned (.tuple #[.pointer none, .bool false]) ∧ Below w.heap.size w w' := by
 refine (given_calls a0_0 A0_1 c0_1 l0_1 A0_2 c0_2 l0_2 A0_3 c0_3 l0_3 A0_4 c0_4 l0_4 A0_5 c0_5 l0_5 A1 c1 l1 w hr0_1 hc0_1 hr0_2 hc0_2 hr0_3 hc0_3 hr0_4 hc0_4 hr0_5 hc0_5 hr1 hc1).mono ?_
 rintro e w' (⟨h, _⟩ | ⟨_, h⟩)
 ·
  rw [hg] at h; cases h
 ·
  exact h
end Go.Proofs.Ytafkanmioinbiaa.SA
namespace Go.Proofs.Ytafkanmioinbiaa.SA
open Go.RowKit Go.Proofs.YtafkanmioinbiaaW.PrintWords Go.Proofs.YtafkanmioinbiaaW.PrintLast Go.Proofs.YtafkanmioinbiaaW.PrintMore
attribute [local go_sem] qax qaz max_two min_two qao qap qay qba
attribute [local go_sem] Oper.semAt_some
def playOk (l4 : List S41) (ths : List Int) : Bool := decide (ths.length = l4.length) && (List.range ths.length).all fun i => inB (rd ths i) (rd_T41 l4 i).f0 (rd_T41 l4 i).f1
def playV (p : Int) (l1 : List S44) (l2 l3 : List Int) (l4 : List S41) (l5 : List S95) (l ths : List Int) : List Int × Int :=
 if (givenB p l1 l2 l3 l4 l5 l && playOk l4 ths) = true then (foulV p.toNat l1 l2 (maskV l) ths, 0) else ([], 2)
theorem playOk_bad {l4 : List S41} {ths : List Int} (k : Nat) (hk : k < ths.length) (h : inB (rd ths k) (rd_T41 l4 k).f0 (rd_T41 l4 k).f1 = false) : playOk l4 ths = false := by
 unfold playOk
 rw [range_all_false k hk h, Bool.and_false]
theorem playOk_ok {l4 : List S41} {ths : List Int} (hl : ths.length = l4.length) (h : ∀ k : Nat, k < ths.length → inB (rd ths k) (rd_T41 l4 k).f0 (rd_T41 l4 k).f1 = true) : playOk l4 ths = true := by
 unfold playOk
 rw [range_all_true h, decide_eq_true hl]
 rfl
def seep_Play.f (a0_0 : Int) (l0_1 : List (S44)) (l0_2 : List Int) (l0_3 : List Int) (l0_4 : List (S41)) (l0_5 : List (S95)) (l1 : List Int) (l2 : List Int) : Option (List Int × Int) := some (playV a0_0 l0_1 l0_2 l0_3 l0_4 l0_5 l1 l2)
theorem seep_Play.calls (a0_0 : Int) (A0_1 : Option Addr) (c0_1 : Nat) (l0_1 : List (S44)) (A0_2 : Option Addr) (c0_2 : Nat) (l0_2 : List Int) (A0_3 : Option Addr) (c0_3 : Nat) (l0_3 : List Int) (A0_4 : Option Addr) (c0_4 : Nat) (l0_4 : List (S41)) (A0_5 : Option Addr) (c0_5 : Nat) (l0_5 : List (S95)) (A1 : Option Addr) (c1 : Nat) (l1 : List Int) (A2 : Option Addr) (c2 : Nat) (l2 : List Int) (r1 : List Int) (r2 : Int) (w : World) (hr0_1 : Kd.C k44 w A0_1 l0_1.length l0_1) (hc0_1 : l0_1.length ≤ c0_1) (hr0_2 : Kd.C (Kd.int .i64) w A0_2 l0_2.length l0_2) (hc0_2 : l0_2.length ≤ c0_2) (hr0_3 : Kd.C (Kd.int .i64) w A0_3 l0_3.length l0_3) (hc0_3 : l0_3.length ≤ c0_3) (hr0_4 : Kd.C k41 w A0_4 l0_4.length l0_4) (hc0_4 : l0_4.length ≤ c0_4) (hr0_5 : Kd.C k95 w A0_5 l0_5.length l0_5) (hc0_5 : l0_5.length ≤ c0_5) (hr1 : Kd.C (Kd.int .i64) w A1 l1.length l1) (hc1 : l1.length ≤ c1) (hr2 : Kd.C (Kd.int .i64) w A2 l2.length l2) (hc2 : l2.length ≤ c2) (h : seep_Play.f a0_0 l0_1 l0_2 l0_3 l0_4 l0_5 l1 l2 = some (r1, r2)) :
  Calls Try.prog 18 #[.agg #[.int .i64 a0_0, .slice A0_1 l0_1.length c0_1, .slice A0_2 l0_2.length c0_2, .slice A0_3 l0_3.length c0_3, .slice A0_4 l0_4.length c0_4, .slice A0_5 l0_5.length c0_5], .slice A1 l1.length c1, .slice A2 l2.length c2] w fun e w' => ∃ v0_ : Value, e = .returned (.tuple #[v0_, .int .i64 r2]) ∧ Kd.R (Kd.int .i64) 3 w' w.heap.size (fun _ => True) v0_ r1 ∧ Below w.heap.size w w' := by
 have hp : playV a0_0 l0_1 l0_2 l0_3 l0_4 l0_5 l1 l2 = (r1, r2) := Option.some.inj h
 clear h
 have hu27 := Try.underlying27
 have hu41 := Try.underlying41
 have HB := qab.mk (Below.refl w.heap.size w)
 have m2 := Kd.C_max hr2
 cases hg : givenB a0_0 l0_1 l0_2 l0_3 l0_4 l0_5 l1 with
 | false =>
  obtain ⟨rfl, rfl⟩ : r1 = [] ∧ r2 = 2 := by
   unfold playV at hp
   rw [hg] at hp
   injection hp with h1 h2
   exact ⟨h1.symm, h2.symm⟩
  have HGIV : qab (∀ W, Below w.heap.size w W → Calls Try.prog 54 #[.agg #[.int .i64 a0_0, .slice A0_1 l0_1.length c0_1, .slice A0_2 l0_2.length c0_2, .slice A0_3 l0_3.length c0_3, .slice A0_4 l0_4.length c0_4, .slice A0_5 l0_5.length c0_5], .slice A1 l1.length c1] W fun e w' => e = .returned (.tuple #[.pointer none, .bool false]) ∧ Below W.heap.size W w') := ⟨fun W hW => given_false a0_0 A0_1 c0_1 l0_1 A0_2 c0_2 l0_2 A0_3 c0_3 l0_3 A0_4 c0_4 l0_4 A0_5 c0_5 l0_5 A1 c1 l1 W (Kd.qai hr0_1 hW) hc0_1 (Kd.qai hr0_2 hW) hc0_2 (Kd.qai hr0_3 hW) hc0_3 (Kd.qai hr0_4 hW) hc0_4 (Kd.qai hr0_5 hW) hc0_5 (Kd.qai hr1 hW) hc1 hg⟩
  clear hp hg hr0_1 hr0_2 hr0_3 hr0_4 hr0_5 hr1 hr2
  go_enter Try.func18, Try.ntmps18
  go_wp2_with (first | ((with_reducible refine qam (N := 3) rfl ?_); refine ze 3 #[.int .i64 a0_0, .slice A0_1 l0_1.length c0_1, .slice A0_2 l0_2.length c0_2, .slice A0_3 l0_3.length c0_3, .slice A0_4 l0_4.length c0_4, .slice A0_5 l0_5.length c0_5] 27 ?_; intro gb hg_gb w2 hbox hb; have BKgb := qab.mk hbox; have n_HB := qab.mk (qae HB.out hb); have GEgb : w.heap.size ≤ gb := (by rw [hg_gb]; exact HB.out.size); clear HB; have HB := n_HB; clear n_HB; obtain ⟨hfgb, hcgb_0, hcgb_1, hcgb_2, hcgb_3, hcgb_4, hcgb_5⟩ := qz6 BKgb.out; clear hbox hb hg_gb) | (go_at_call 54; (with_reducible refine (HGIV.out _ HB.out).mono ?_); rintro e wn ⟨rfl, hb⟩; replace BKgb := qab.mk (qad BKgb.out hb); replace HB := qab.mk (qae HB.out hb); clear hb; obtain ⟨hfgb, hcgb_0, hcgb_1, hcgb_2, hcgb_3, hcgb_4, hcgb_5⟩ := qz6 BKgb.out))
  go_ret2
  exact ⟨_, rfl, Kd.R_nil _ _ _ _ _, HB.out⟩
 | true =>
  have HV := qab.mk (valid_facts (given_valid hg))
  have hp2 : (if playOk l0_4 l2 = true then (foulV a0_0.toNat l0_1 l0_2 (maskV l1) l2, (0 : Int)) else ([], 2)) = (r1, r2) := by
   rw [← hp]
   unfold playV
   rw [hg, Bool.true_and]
  have HP := qab.mk hp2
  have hn4 := HV.out.n4
  have HGIV : qab (∀ W, Below w.heap.size w W → Calls Try.prog 54 #[.agg #[.int .i64 a0_0, .slice A0_1 l0_1.length c0_1, .slice A0_2 l0_2.length c0_2, .slice A0_3 l0_3.length c0_3, .slice A0_4 l0_4.length c0_4, .slice A0_5 l0_5.length c0_5], .slice A1 l1.length c1] W fun e w' => ∃ g, e = .returned (.tuple #[.pointer (some ⟨g, 0, none⟩), .bool true]) ∧ W.heap.size ≤ g ∧ w'.heap[g]? = some (.cells #[.int .i64 a0_0, .slice A0_1 l0_1.length c0_1, .slice A0_2 l0_2.length c0_2, .slice A0_3 l0_3.length c0_3, .slice A0_4 l0_4.length c0_4, .slice A0_5 l0_5.length c0_5, .int .i64 (maskV l1 : Int)] 123 (0, 0)) ∧ Below W.heap.size W w') := ⟨fun W hW => given_true a0_0 A0_1 c0_1 l0_1 A0_2 c0_2 l0_2 A0_3 c0_3 l0_3 A0_4 c0_4 l0_4 A0_5 c0_5 l0_5 A1 c1 l1 W (Kd.qai hr0_1 hW) hc0_1 (Kd.qai hr0_2 hW) hc0_2 (Kd.qai hr0_3 hW) hc0_3 (Kd.qai hr0_4 hW) hc0_4 (Kd.qai hr0_5 hW) hc0_5 (Kd.qai hr1 hW) hc1 hg⟩
  have HR4 := qab.mk hr0_4
  have HR2 := qab.mk hr2
  by_cases hl : l2.length = l0_4.length
  ·
   have hlb : ((l2.length : Int) != (l0_4.length : Int)) = false := by simp; omega
   have HL := qab.mk hl
   have HFOUG : qab (∀ gd, (∀ W, Below w.heap.size w W → W.heap[gd]? = some (.cells #[.int .i64 a0_0, .slice A0_1 l0_1.length c0_1, .slice A0_2 l0_2.length c0_2, .slice A0_3 l0_3.length c0_3, .slice A0_4 l0_4.length c0_4, .slice A0_5 l0_5.length c0_5, .int .i64 (maskV l1 : Int)] 123 (0, 0)) → Calls Try.prog 56 #[.pointer (some ⟨gd, 0, none⟩), .slice A2 l2.length c2] W fun e w' => ∃ v, e = .returned v ∧ Kd.R (Kd.int .i64) 3 w' W.heap.size (fun _ => True) v (foulV a0_0.toNat l0_1 l0_2 (maskV l1 : Int) l2) ∧ Below W.heap.size W w')) := ⟨fun gd W hW hd => foulG a0_0 A0_1 c0_1 l0_1 A0_2 c0_2 l0_2 A0_3 c0_3 l0_3 A0_4 c0_4 l0_4 A0_5 c0_5 l0_5 (maskV l1 : Int) gd A2 c2 l2 W (Kd.qai hr0_1 hW) hc0_1 (Kd.qai hr0_2 hW) hc0_2 (Kd.qai hr0_3 hW) hc0_3 (Kd.qai hr0_4 hW) hc0_4 (Kd.qai hr0_5 hW) hc0_5 (Kd.qai hr2 hW) (by omega) HV.out hd⟩
   clear hl hp hp2 hg hr0_1 hr0_2 hr0_3 hr0_4 hr0_5 hr1 hr2
   go_enter Try.func18, Try.ntmps18
   go_wp2_with (first | ((with_reducible refine qam (N := 3) rfl ?_); refine ze 3 #[.int .i64 a0_0, .slice A0_1 l0_1.length c0_1, .slice A0_2 l0_2.length c0_2, .slice A0_3 l0_3.length c0_3, .slice A0_4 l0_4.length c0_4, .slice A0_5 l0_5.length c0_5] 27 ?_; intro gb hg_gb w2 hbox hb; have BKgb := qab.mk hbox; have n_HB := qab.mk (qae HB.out hb); have GEgb : w.heap.size ≤ gb := (by rw [hg_gb]; exact HB.out.size); clear HB; have HB := n_HB; clear n_HB; obtain ⟨hfgb, hcgb_0, hcgb_1, hcgb_2, hcgb_3, hcgb_4, hcgb_5⟩ := qz6 BKgb.out; clear hbox hb hg_gb) | (go_at_call 54; (with_reducible refine (HGIV.out _ HB.out).mono ?_); rintro e wn ⟨gd, rfl, GEgd, hbk, hb⟩; have BKgd := qab.mk hbk; clear hbk; have HBo := HB; replace BKgb := qab.mk (qad BKgb.out hb); replace HB := qab.mk (qae HB.out hb); clear hb; have GEd : w.heap.size ≤ gd := Nat.le_trans (by first | exact HBo.out.size | omega) GEgd; obtain ⟨hfgb, hcgb_0, hcgb_1, hcgb_2, hcgb_3, hcgb_4, hcgb_5⟩ := qz6 BKgb.out))
   go_loopw [30] (fun s30 wr => ∃ k : Nat, k ≤ l2.length ∧ s30 = .int .i64 k ∧ qab (∀ j : Nat, j < k → inB (rd l2 j) (rd_T41 l0_4 j).f0 (rd_T41 l0_4 j).f1 = true) ∧ qab (wr.heap[gb]? = some (.cells #[.int .i64 a0_0, .slice A0_1 l0_1.length c0_1, .slice A0_2 l0_2.length c0_2, .slice A0_3 l0_3.length c0_3, .slice A0_4 l0_4.length c0_4, .slice A0_5 l0_5.length c0_5] 27 (0, 0))) ∧ qab (wr.heap[gd]? = some (.cells #[.int .i64 a0_0, .slice A0_1 l0_1.length c0_1, .slice A0_2 l0_2.length c0_2, .slice A0_3 l0_3.length c0_3, .slice A0_4 l0_4.length c0_4, .slice A0_5 l0_5.length c0_5, .int .i64 (maskV l1 : Int)] 123 (0, 0))) ∧ qab (Below w.heap.size w wr)) (fun s _ => l2.length - (intOf s).toNat)
   case atStart => exact ⟨0, by omega, rfl, ⟨fun j h => by omega⟩, BKgb, BKgd, HB⟩
   case round =>
    clear HB BKgb BKgd hfgb hcgb_0 hcgb_1 hcgb_2 hcgb_3 hcgb_4 hcgb_5 HBo GEgd
    obtain ⟨k, hk, rfl, HN, BKgb, BKgd, HB⟩ := hrel
    by_cases hlt : k < l2.length
    ·
     obtain ⟨ad, e, q⟩ := Kd.at_int HR2.out k (by omega) (by omega)
     cases e
     have hk4 : k < l0_4.length := by have := HL.out; omega
     obtain ⟨a4, e, q0, q1⟩ := at_T41 HR4.out k (by omega) (by omega)
     cases e
     simp only [Int.toNat_natCast] at q q0 q1
     obtain ⟨b, hb⟩ : ∃ b, b = inB (rd l2 k) (rd_T41 l0_4 k).f0 (rd_T41 l0_4 k).f1 := ⟨_, rfl⟩
     have HIN : qab (∀ W, Calls Try.prog 55 #[.int .i64 (rd l2 k), .int .i64 (rd_T41 l0_4 k).f0, .int .i64 (rd_T41 l0_4 k).f1] W fun e w' => e = .returned (.bool b) ∧ Below W.heap.size W w') := ⟨fun W => by rw [hb]; exact in_calls _ _ _ W⟩
     have HBV := qab.mk hb
     clear hb
     generalize (rd_T41 l0_4 k).f0 = lo at q0 HIN
     generalize (rd_T41 l0_4 k).f1 = hi at q1 HIN
     generalize rd l2 k = th at q HIN
     have T0 := qab.mk q0
     have T1 := qab.mk q1
     have MC4 : qab (∀ W, Below wr.heap.size wr W → W.cell? ⟨gb, 4, none⟩ = some (.slice (some a4) l0_4.length c0_4)) := ⟨fun W h => (qaa (qad BKgb.out h) 4).trans rfl⟩
     have HT : qab (∀ W, Below wr.heap.size wr W → (W.cell? ⟨gb, 4, none⟩ = some (.slice (some a4) l0_4.length c0_4) ∧ W.cell? (a4.add (k * 2)) = some (.int .i64 lo) ∧ W.cell? ⟨(a4.add (k * 2)).block, (a4.add (k * 2)).off + 1, none⟩ = some (.int .i64 hi) ∧ qab (Below wr.heap.size wr W))) := ⟨fun W h => ⟨MC4.out W h, ((qae HB.out h).cell (World.block_lt_of_cell? w _ T0.out)).trans T0.out, ((qae HB.out h).cell (World.block_lt_of_cell? w _ T1.out)).trans T1.out, ⟨h⟩⟩⟩
     replace q := (HB.out.cell (World.block_lt_of_cell? w _ q)).trans q
     clear q0 q1
     go_upto_region 7 with fail
     cases b with
     | false =>
      obtain ⟨rfl, rfl⟩ : r1 = [] ∧ r2 = 2 := by
       have h1 := HP.out
       rw [if_neg (by rw [playOk_bad k hlt HBV.out.symm]; decide)] at h1
       injection h1 with h1 h2
       exact ⟨h1.symm, h2.symm⟩
      refine start_ (n := 15) (S := (fun w' => (w'.cell? ⟨gb, 4, none⟩ = some (.slice (some a4) l0_4.length c0_4) ∧ w'.cell? (a4.add (k * 2)) = some (.int .i64 lo) ∧ w'.cell? ⟨(a4.add (k * 2)).block, (a4.add (k * 2)).off + 1, none⟩ = some (.int .i64 hi) ∧ qab (Below wr.heap.size wr w')))) (ds := []) (msk 15 0) (by kernel_rfl) rfl rfl (HT.out _ (qaq (Below.refl _ _))) (fun hHeld => ?_)
      refine zq 0 1 35 ?_
      refine zq 1 2 36 ?_
      refine zt4 2 3 37 hHeld ?_
      refine zq 3 4 38 ?_
      refine zq 4 5 39 ?_
      refine zq 5 6 40 ?_
      refine zt4 6 7 41 hHeld ?_
      refine zq 7 8 42 ?_
      refine zt4 8 9 43 hHeld ?_
      refine zq 9 10 44 ?_
      refine zq 10 11 45 ?_
      refine zq 11 12 46 ?_
      refine zt4 12 13 47 hHeld ?_
      refine one_ (i := 13) (N := some 48) (msk 15 14) rfl rfl (by kernel_rfl) (by decide) (fun K hK => ?_)
      refine zg Try.func55 #[.int .i64 th, .int .i64 lo, .int .i64 hi] ?_
      refine (HIN.out _).mono ?_; rintro e w6 ⟨rfl, hb⟩; have HP6 := qab.mk (HT.out w6 (qae hHeld.2.2.2.out hb)); clear hb; refine ⟨_, rfl, ?_⟩; refine hK.out _ _ HP6.out (fun hHeld => ?_); clear hK K; refine zn 48 ?_
      refine zq 14 15 49 ?_
      refine done_ (by kernel_rfl) ?_
      have HZ := HP6.out.2.2.2
      clear HP6 hHeld
      go_wp2
      go_ret2
      exact ⟨_, rfl, Kd.R_nil _ _ _ _ _, qae HB.out HZ.out⟩
     | true =>
      refine start_ (n := 15) (S := (fun w' => (w'.cell? ⟨gb, 4, none⟩ = some (.slice (some a4) l0_4.length c0_4) ∧ w'.cell? (a4.add (k * 2)) = some (.int .i64 lo) ∧ w'.cell? ⟨(a4.add (k * 2)).block, (a4.add (k * 2)).off + 1, none⟩ = some (.int .i64 hi) ∧ qab (Below wr.heap.size wr w')))) (ds := []) (msk 15 0) (by kernel_rfl) rfl rfl (HT.out _ (qaq (Below.refl _ _))) (fun hHeld => ?_)
      refine zq 0 1 35 ?_
      refine zq 1 2 36 ?_
      refine zt4 2 3 37 hHeld ?_
      refine zq 3 4 38 ?_
      refine zq 4 5 39 ?_
      refine zq 5 6 40 ?_
      refine zt4 6 7 41 hHeld ?_
      refine zq 7 8 42 ?_
      refine zt4 8 9 43 hHeld ?_
      refine zq 9 10 44 ?_
      refine zq 10 11 45 ?_
      refine zq 11 12 46 ?_
      refine zt4 12 13 47 hHeld ?_
      refine one_ (i := 13) (N := some 48) (msk 15 14) rfl rfl (by kernel_rfl) (by decide) (fun K hK => ?_)
      refine zg Try.func55 #[.int .i64 th, .int .i64 lo, .int .i64 hi] ?_
      refine (HIN.out _).mono ?_; rintro e w6 ⟨rfl, hb⟩; have HP6 := qab.mk (HT.out w6 (qae hHeld.2.2.2.out hb)); clear hb; refine ⟨_, rfl, ?_⟩; refine hK.out _ _ HP6.out (fun hHeld => ?_); clear hK K; refine zn 48 ?_
      refine zq 14 15 49 ?_
      refine done_ (by kernel_rfl) ?_
      have HZ := HP6.out.2.2.2
      clear HP6 hHeld
      go_wp2
      go_roundw
      case rel => exact ⟨k + 1, by omega, by go_num, ⟨fun j hj => by
       rcases Nat.lt_or_ge j k with h | h
       ·
        exact HN.out j h
       ·
        obtain rfl : j = k := by omega
        exact HBV.out.symm⟩, ⟨qad BKgb.out HZ.out⟩, ⟨qad BKgd.out HZ.out⟩, ⟨qae HB.out HZ.out⟩⟩
      case measure => simp [intOf]; omega
    ·
     obtain ⟨rfl, rfl⟩ : r1 = foulV a0_0.toNat l0_1 l0_2 (maskV l1) l2 ∧ r2 = 0 := by
      have h1 := HP.out
      rw [if_pos (playOk_ok HL.out (fun j hj => HN.out j (by omega)))] at h1
      injection h1 with h1 h2
      exact ⟨h1.symm, h2.symm⟩
     go_wp2_with (go_at_call 56; (with_reducible refine (HFOUG.out gd _ HB.out BKgd.out).mono ?_); rintro e wf ⟨v, rfl, hR, hb⟩; have HRR := qab.mk (Kd.R_lower hR HB.out.size); have HBF := qab.mk (qae HB.out hb); clear hR hb)
     go_ret2
     exact ⟨v, rfl, HRR.out, HBF.out⟩
  ·
   have hlb : ((l2.length : Int) != (l0_4.length : Int)) = true := by simp; omega
   obtain ⟨rfl, rfl⟩ : r1 = [] ∧ r2 = 2 := by
    have h1 := HP.out
    rw [if_neg (by unfold playOk; simp [hl])] at h1
    injection h1 with h1 h2
    exact ⟨h1.symm, h2.symm⟩
   clear hp hp2 hg hr0_1 hr0_2 hr0_3 hr0_4 hr0_5 hr1 hr2
   go_enter Try.func18, Try.ntmps18
   go_wp2_with (first | ((with_reducible refine qam (N := 3) rfl ?_); refine ze 3 #[.int .i64 a0_0, .slice A0_1 l0_1.length c0_1, .slice A0_2 l0_2.length c0_2, .slice A0_3 l0_3.length c0_3, .slice A0_4 l0_4.length c0_4, .slice A0_5 l0_5.length c0_5] 27 ?_; intro gb hg_gb w2 hbox hb; have BKgb := qab.mk hbox; have n_HB := qab.mk (qae HB.out hb); have GEgb : w.heap.size ≤ gb := (by rw [hg_gb]; exact HB.out.size); clear HB; have HB := n_HB; clear n_HB; obtain ⟨hfgb, hcgb_0, hcgb_1, hcgb_2, hcgb_3, hcgb_4, hcgb_5⟩ := qz6 BKgb.out; clear hbox hb hg_gb) | (go_at_call 54; (with_reducible refine (HGIV.out _ HB.out).mono ?_); rintro e wn ⟨gd, rfl, GEgd, hbk, hb⟩; have BKgd := qab.mk hbk; clear hbk; have HBo := HB; replace BKgb := qab.mk (qad BKgb.out hb); replace HB := qab.mk (qae HB.out hb); clear hb; have GEd : w.heap.size ≤ gd := Nat.le_trans (by first | exact HBo.out.size | omega) GEgd; obtain ⟨hfgb, hcgb_0, hcgb_1, hcgb_2, hcgb_3, hcgb_4, hcgb_5⟩ := qz6 BKgb.out))
   go_ret2
   exact ⟨_, rfl, Kd.R_nil _ _ _ _ _, HB.out⟩
end Go.Proofs.Ytafkanmioinbiaa.SA
namespace Go.Proofs.Ytafkanmioinbiaa.SA
open Go.RowKit Go.Proofs.YtafkanmioinbiaaW.PrintWords Go.Proofs.YtafkanmioinbiaaW.PrintLast Go.Proofs.YtafkanmioinbiaaW.PrintMore
attribute [local go_sem] qax qaz max_two min_two qao qap qay qba
def talikref07_Same.l0 : Nat → List Int → List Int → Int → Option (Bool)
 | 0, _, _, _ => none
 | k + 1, x0, x1, x5 => if x5 < (x0.length : Int) then (if 0 ≤ x5 then (if x5 < (x1.length : Int) then (if (rd x0 x5) = (rd x1 x5) then (talikref07_Same.l0 k x0 x1 (wrap64 (x5 + 1))) else (some false)) else (none)) else (none)) else (some true)
def talikref07_Same.f (k : Nat) (l0 : List Int) (l1 : List Int) : Option (Bool) := if (l0.length : Int) = (l1.length : Int) then (talikref07_Same.l0 k l0 l1 0) else (some false)
theorem talikref07_Same.calls (k : Nat) (A0 : Option Addr) (c0 : Nat) (l0 : List Int) (A1 : Option Addr) (c1 : Nat) (l1 : List Int) (r : Bool) (w : World) (hr0 : Kd.C (Kd.int .i64) w A0 l0.length l0) (hc0 : l0.length ≤ c0) (hr1 : Kd.C (Kd.int .i64) w A1 l1.length l1) (hc1 : l1.length ≤ c1) (h : talikref07_Same.f k l0 l1 = some r) :
  Calls Try.prog 21 #[.slice A0 l0.length c0, .slice A1 l1.length c1] w fun e w' => e = .returned (.bool r) ∧ qar w w' := by
 have HR0 := qab.mk hr0
 have HC0 := qab.mk hc0
 clear hr0 hc0
 have HR1 := qab.mk hr1
 have HC1 := qab.mk hc1
 clear hr1 hc1
 have H : (if (l0.length : Int) = (l1.length : Int) then (talikref07_Same.l0 k l0 l1 0) else (some false)) = some r := h
 clear h
 by_cases c3 : (l0.length : Int) = (l1.length : Int)
 ·
  rw [if_pos c3] at H
  have c3b0 : ((l0.length : Int) == (l1.length : Int)) = true := beq_iff_eq.mpr c3
  have c3b1 : ((l0.length : Int) != (l1.length : Int)) = false := bne_eq_false_iff_eq.mpr c3
  have c3b2 : (l0.length == l1.length) = true := by first | simpa using c3 | (simp at c3 ⊢; omega)
  clear c3
  have H' := qab.mk H
  clear H
  go_enter Try.func21, Try.ntmps21
  go_wp2
  repeat (go_quiet (fail); try go_wp2)
  go_loopg [5] k (fun kq v5 w' => ∃ (x5_1 : Int), v5 = .int .i64 x5_1 ∧ qab (talikref07_Same.l0 kq l0 l1 x5_1 = some r) ∧ qab (kq ≤ k) ∧ qar w w')
  case atStart => exact ⟨(0), (by first | rfl | (simp; done) | (simp [*]; done)), H', ⟨Nat.le_refl _⟩, by repeat (first | exact qar.refl _ | apply qar.step)⟩
  case round =>
   clear H'
   try clear c1
   try clear c2
   try clear p2
   try clear c3
   try clear c3b0
   try clear c3b1
   try clear c3b2
   obtain ⟨x5_1, rfl, HA, HK1, ⟨m1, rfl⟩⟩ := hrel
   cases gk with
   | zero => exact absurd HA.out (by simp [talikref07_Same.l0])
   | succ k1 =>
    have H := HA.out
    clear HA
    simp only [talikref07_Same.l0] at H
    by_cases c4 : x5_1 < (l0.length : Int)
    ·
     rw [if_pos c4] at H
     have c4b0 : decide (x5_1 < (l0.length : Int)) = true := decide_eq_true c4
     clear c4
     by_cases c5 : 0 ≤ x5_1
     ·
      rw [if_pos c5] at H
      have c5b0 : decide (0 ≤ x5_1) = true := decide_eq_true c5
      clear c5
      by_cases c6 : x5_1 < (l1.length : Int)
      ·
       rw [if_pos c6] at H
       have c6b0 : decide (x5_1 < (l1.length : Int)) = true := decide_eq_true c6
       clear c6
       by_cases c7 : (rd l0 x5_1) = (rd l1 x5_1)
       ·
        rw [if_pos c7] at H
        have c7b0 : ((rd l0 x5_1) == (rd l1 x5_1)) = true := beq_iff_eq.mpr c7
        have c7b1 : ((rd l0 x5_1) != (rd l1 x5_1)) = false := bne_eq_false_iff_eq.mpr c7
        clear c7
        have H' := qab.mk H
        clear H
        have p117 : 0 ≤ (x5_1 : Int) := of_decide_eq_true (by first | (with_reducible assumption) | assumption)
        have q117 : x5_1 < (l0.length : Int) := of_decide_eq_true (by first | (with_reducible assumption) | assumption)
        obtain ⟨ad117, e117, hx117_0⟩ := Kd.at_int HR0.out x5_1 p117 q117
        cases e117
        replace p117 := eq_true p117
        replace q117 := eq_true q117
        have p118 : 0 ≤ (x5_1 : Int) := of_decide_eq_true (by first | (with_reducible assumption) | assumption)
        have q118 : x5_1 < (l1.length : Int) := of_decide_eq_true (by first | (with_reducible assumption) | assumption)
        obtain ⟨ad118, e118, hx118_0⟩ := Kd.at_int HR1.out x5_1 p118 q118
        cases e118
        replace p118 := eq_true p118
        replace q118 := eq_true q118
        go_wp2
        repeat (go_quiet (fail); try go_wp2)
        go_roundg k1
        case measure => have := HK1.out; omega
        case rel => exact ⟨(wrap64 (x5_1 + 1)), (by first | rfl | (simp; done) | (simp [*]; done)), H', ⟨by have := HK1.out; omega⟩, by repeat (first | exact qar.refl _ | apply qar.step)⟩
       ·
        rw [if_neg c7] at H
        have c7b0 : ((rd l0 x5_1) == (rd l1 x5_1)) = false := beq_eq_false_iff_ne.mpr c7
        have c7b1 : ((rd l0 x5_1) != (rd l1 x5_1)) = true := bne_iff_ne.mpr c7
        obtain rfl := Option.some.inj H
        have p117 : 0 ≤ (x5_1 : Int) := of_decide_eq_true (by first | (with_reducible assumption) | assumption)
        have q117 : x5_1 < (l0.length : Int) := of_decide_eq_true (by first | (with_reducible assumption) | assumption)
        obtain ⟨ad117, e117, hx117_0⟩ := Kd.at_int HR0.out x5_1 p117 q117
        cases e117
        replace p117 := eq_true p117
        replace q117 := eq_true q117
        have p118 : 0 ≤ (x5_1 : Int) := of_decide_eq_true (by first | (with_reducible assumption) | assumption)
        have q118 : x5_1 < (l1.length : Int) := of_decide_eq_true (by first | (with_reducible assumption) | assumption)
        obtain ⟨ad118, e118, hx118_0⟩ := Kd.at_int HR1.out x5_1 p118 q118
        cases e118
        replace p118 := eq_true p118
        replace q118 := eq_true q118
        go_wp2
        repeat (go_quiet (fail); try go_wp2)
        go_ret
        exact ⟨by first | rfl | (simp; done) | (simp [*]; done), by repeat (first | exact qar.refl _ | apply qar.step)⟩
      ·
       rw [if_neg c6] at H
       exact absurd H (by simp)
     ·
      rw [if_neg c5] at H
      exact absurd H (by simp)
    ·
     rw [if_neg c4] at H
     have c4b0 : decide (x5_1 < (l0.length : Int)) = false := decide_eq_false c4
     clear c4
     obtain rfl := Option.some.inj H
     go_wp2
     repeat (go_quiet (fail); try go_wp2)
     go_ret
     exact ⟨by first | rfl | (simp; done) | (simp [*]; done), by repeat (first | exact qar.refl _ | apply qar.step)⟩
 ·
  rw [if_neg c3] at H
  have c3b0 : ((l0.length : Int) == (l1.length : Int)) = false := beq_eq_false_iff_ne.mpr c3
  have c3b1 : ((l0.length : Int) != (l1.length : Int)) = true := bne_iff_ne.mpr c3
  have c3b2 : (l0.length == l1.length) = false := by first | simpa using c3 | (simp at c3 ⊢; omega)
  obtain rfl := Option.some.inj H
  go_enter Try.func21, Try.ntmps21
  go_wp2
  repeat (go_quiet (fail); try go_wp2)
  go_ret
  exact ⟨by first | rfl | (simp; done) | (simp [*]; done), by repeat (first | exact qar.refl _ | apply qar.step)⟩
theorem eqA41 (d : Nat) (w : World) (x0 y0 : Int) (x1 y1 : Int) :
  (Op.equalIn (d + 2) 41 (.agg #[.int .i64 x0, .int .i64 x1]) (.agg #[.int .i64 y0, .int .i64 y1])).run Try.prog w = .ok (x0 == y0 && (x1 == y1)) w := by
 refine eqA_of Try.underlying41 (by kernel_rfl) ?_
 refine eqf_cons (by rfl) (by go_simp; rfl) (by go_simp; rfl) (by go_simp) ?_
 exact eqf_last (by rfl) (by go_simp; rfl) (by go_simp; rfl) (by go_simp)
end Go.Proofs.Ytafkanmioinbiaa.SA
