/- What functions of the program answer. No condition. -/
import Derived.Test.YtafkanmioinbiaaSC
import Derived.Test.YtafkanmioinbiaaSD
import Derived.Test.YtafkanmioinbiaaSH
import Derived.Test.YtafkanmioinbiaaSE
set_option linter.all false
set_option maxRecDepth 100000
set_option maxHeartbeats 8000000
namespace Go.Proofs.Ytafkanmioinbiaa.SA
open Go.RowKit Go.Proofs.YtafkanmioinbiaaW.PrintWords Go.Proofs.YtafkanmioinbiaaW.PrintLast Go.Proofs.YtafkanmioinbiaaW.PrintMore
attribute [local go_sem] max2_int min2_int max_two min_two qbe qbf max_four min_four
attribute [local go_sem] Oper.semAt_some
theorem search_succ (E : RE) (hE : E.Fit) (k : Nat) (hk : k ≤ 100) (IH : SearchC E k) : SearchC E (k + 1) := by
 intro p y w v r hI hy hl
 have hu99 := Try.underlying99
 have hu27 := Try.underlying27
 have hu44 := Try.underlying44
 have HI := qab.mk hI
 have HE := qab.mk hE
 have HIH := qab.mk IH
 have HB := qab.mk (Below.refl w.heap.size w)
 have HLT := qab.mk hI.map.lt
 have hn1 := hE.n1
 have hlk := hI.map.looks1 (t := 96) (el := 4) Try.underlying96 (z := .bool false) (fun W' => by kernel_rfl) ⟨p, y, ((k + 1 : Nat) : Int)⟩
 obtain ⟨yy, hyy⟩ : ∃ yy : Int, yy = y := ⟨_, rfl⟩
 obtain ⟨nn, hnn⟩ : ∃ nn : Int, nn = ((k + 1 : Nat) : Int) := ⟨_, rfl⟩
 have hz : (nn == 0) = false := by rw [beq_eq_false_iff_ne]; omega
 have hlk' : (E.path (k + 1) p y = none ∧ ∀ W' : World, W'.heap[E.mm]? = w.heap[E.mm]? → (Instr.lookup 96 (.map (some E.mm)) (.agg #[.int .i64 p, .int .i64 yy, .int .i64 nn]) false).run Try.prog W' = .ok (.bool true) W') ∨ (∀ W' : World, W'.heap[E.mm]? = w.heap[E.mm]? → (Instr.lookup 96 (.map (some E.mm)) (.agg #[.int .i64 p, .int .i64 yy, .int .i64 nn]) false).run Try.prog W' = .ok (.bool false) W') := by
  rw [hyy, hnn]
  rcases hlk with ⟨u, ⟨rfl, k', y', e1, e2, hd⟩, hl⟩ | hl
  ·
   have e1' : k + 1 = k' := by have h : ((k + 1 : Nat) : Int) = k' := e1; omega
   have e2' : y = y' := by have h : (y : Int) = y' := e2; omega
   subst e1'
   subst e2'
   exact .inl ⟨hd, hl⟩
  ·
   exact .inr hl
 have HYY := qab.mk hyy
 have HNN := qab.mk hnn
 obtain ⟨last, hla⟩ : ∃ x, x = E.last := ⟨_, rfl⟩
 have HLA := qab.mk hla
 clear hla
 obtain ⟨A1, hA1⟩ : ∃ A1, A1 = E.A1 := ⟨_, rfl⟩
 have HA1 := qab.mk hA1
 rw [← hyy, ← hnn]
 clear hI hE IH hlk hyy hnn hA1
 rcases hlk' with ⟨hdead, hlo⟩ | hlo
 ·
  have HL := qab.mk hlo
  have HD := qab.mk hdead
  clear hlo hdead
  go_enter Try.func62, Try.ntmps62
  go_wp2_with ((with_reducible refine qaq (N := 8) rfl ?_); refine qan ?hg (N := 8) ?hd (cs := #[.int .i64 p, .int .i64 yy, .int .i64 nn]) (t := 99) ?hr ?_; (case hd => rfl); (case hg => rfl); (case hr => first | (go_simp; done) | (go_simp; rfl)); intro gs hg_gs w2 hbox hb; have BKgs := qab.mk hbox; have n_HB := qab.mk (qae HB.out hb); have GEgs : w.heap.size ≤ gs := (by rw [hg_gs]; exact HB.out.size); clear HB; have HB := n_HB; clear n_HB; obtain ⟨hfgs, hcgs_0, hcgs_1, hcgs_2⟩ := qz3 BKgs.out; clear hbox hb hg_gs; have HI2 := qab.mk (HI.out.below HB.out); have fk : w2.cell? ⟨E.Bk, 0, none⟩ = some (.map (some E.mm)) := (qaa HI2.out.xk 0).trans rfl; have hl3 := HL.out w2 (HB.out.block _ HLT.out); have fm1 : w2.cell? ⟨E.Bm, 1, none⟩ = some (.slice A1 E.l1.length E.c1) := (qaa HI2.out.xm 1).trans (by rw [HA1.out]; rfl))
  go_ret
  refine ⟨by rw [HD.out]; rfl, ⟨v, by rw [HD.out]; simpa using HI2.out⟩, KC.of_below HB.out⟩
 ·
  have HL := qab.mk hlo
  clear hlo
  go_enter Try.func62, Try.ntmps62
  go_wp2_with ((with_reducible refine qaq (N := 8) rfl ?_); refine qan ?hg (N := 8) ?hd (cs := #[.int .i64 p, .int .i64 yy, .int .i64 nn]) (t := 99) ?hr ?_; (case hd => rfl); (case hg => rfl); (case hr => first | (go_simp; done) | (go_simp; rfl)); intro gs hg_gs w2 hbox hb; have BKgs := qab.mk hbox; have n_HB := qab.mk (qae HB.out hb); have GEgs : w.heap.size ≤ gs := (by rw [hg_gs]; exact HB.out.size); clear HB; have HB := n_HB; clear n_HB; obtain ⟨hfgs, hcgs_0, hcgs_1, hcgs_2⟩ := qz3 BKgs.out; clear hbox hb hg_gs; have HI2 := qab.mk (HI.out.below HB.out); have fk : w2.cell? ⟨E.Bk, 0, none⟩ = some (.map (some E.mm)) := (qaa HI2.out.xk 0).trans rfl; have hl3 := HL.out w2 (HB.out.block _ HLT.out); have fm1 : w2.cell? ⟨E.Bm, 1, none⟩ = some (.slice A1 E.l1.length E.c1) := (qaa HI2.out.xm 1).trans (by rw [HA1.out]; rfl))
  have BK2 := BKgs
  clear BKgs
  have HK : qab (KC E w2 w2) := ⟨KC.refl _ _⟩
  clear HI
  have HI := HI2
  have HNE := qab.mk (blk_ne BK2.out HI2.out.xr (by decide))
  clear HI2
  have HFR : qab (E.path (k + 1) p y = E.from_ k p y 0) := ⟨E.path_from k p y⟩
  have GEgs : w.heap.size ≤ gs := by assumption
  have HBw := HB
  have hlr := hl
  clear hl3 fk fm1 hfgs hcgs_0 hcgs_1 hcgs_2
  obtain ⟨vA, vn, vc, e⟩ := R_shape HI.out.row
  subst e
  go_loopw [27] (fun s27 wr => ∃ (i : Nat) (A : Option Addr) (n c : Nat), i ≤ E.l1.length ∧ s27 = .int .i64 i ∧ qab (E.path (k + 1) p y = E.from_ k p y i) ∧ qab (RInv E wr (.slice A n c) r) ∧ qab (KC E w2 wr)) (fun s _ => E.l1.length - (intOf s).toNat)
  case atStart => exact ⟨0, vA, vn, vc, by omega, rfl, HFR, HI, HK⟩
  case round =>
   clear HI HK HFR
   obtain ⟨i, A, n, c, hi, rfl, HFR, HI, HK⟩ := hrel
   obtain ⟨W0, rfl⟩ : ∃ W0, W0 = wr := ⟨_, rfl⟩
   have BKgs : qab (W0.heap[gs]? = some (.cells #[.int .i64 p, .int .i64 yy, .int .i64 nn] 99 (0, 0))) := ⟨HK.out.own _ _ _ BK2.out (by decide) HNE.out⟩
   by_cases hlt : i < E.l1.length
   ·
    obtain ⟨ad, e, q0, q1, q2, q3⟩ := at_T44 (Kd.qai HE.out.r1 HI.out.hb) i (by omega) (by omega)
    rw [← HA1.out] at e
    cases e
    simp only [Int.toNat_natCast] at q0 q1 q2 q3
    have HST := qab.mk (E.from_step k p y i hlt)
    have HPS : qab (pathS E.d E.l1 E.l4 E.last (E.path k) p y i = if (qax E.l1 (i : Nat)).f0 = p then (match goesN E.d E.l1 E.l4 i y with | some y' => if (y' : Int) ≤ E.last then (E.path k (qax E.l1 (i : Nat)).f1 y').map ((i : Int) :: ·) else none | none => none) else none) := ⟨rfl⟩
    generalize (qax E.l1 i).f0 = e0 at q0 HPS
    generalize (qax E.l1 i).f1 = e1 at q1 HPS
    generalize (qax E.l1 i).f2 = e2 at q2
    generalize (qax E.l1 i).f3 = e3 at q3
    have HBW := qab.mk (Below.refl W0.heap.size W0)
    go_upto_region 8 with ((with_reducible refine qaq (N := 11) rfl ?_); refine qan ?hg (N := 11) ?hd (cs := #[.int .i64 0, .int .i64 0, .int .i64 0, .int .i64 0]) (t := 44) ?hr ?_; (case hd => rfl); (case hg => rfl); (case hr => first | (go_simp; done) | (go_simp; rfl)); intro ge hg_ge w3 hbox hb; have BKge := qab.mk hbox; have ne_gs_ge : gs ≠ ge := (by rw [hg_ge]; exact Nat.ne_of_lt (blk_lt BKgs.out)); replace BKgs := qab.mk (qad BKgs.out hb); have n_HB := qab.mk (qae HBW.out hb); have GEge : W0.heap.size ≤ ge := (by rw [hg_ge]; exact HBW.out.size); clear HBW; have HBW := n_HB; clear n_HB; obtain ⟨hfge, hcge_0, hcge_1, hcge_2, hcge_3⟩ := qz4 BKge.out; clear hbox hb hg_ge)
    clear q0 q1 q2 q3 hfge hcge_0 hcge_1 hcge_2 hcge_3
    have he_ : setAll w3 ge [.int .i64 e0, .int .i64 e1, .int .i64 e2, .int .i64 e3] 0 = ((((w3.setCell ⟨ge, 0, none⟩ (.int .i64 e0)).setCell ⟨ge, 1, none⟩ (.int .i64 e1)).setCell ⟨ge, 2, none⟩ (.int .i64 e2)).setCell ⟨ge, 3, none⟩ (.int .i64 e3)) := rfl; have hbl := setAll_below GEge [.int .i64 e0, .int .i64 e1, .int .i64 e2, .int .i64 e3] 0 _ HBW.out; have hbx : (setAll w3 ge [.int .i64 e0, .int .i64 e1, .int .i64 e2, .int .i64 e3] 0).heap[ge]? = some (.cells #[.int .i64 e0, .int .i64 e1, .int .i64 e2, .int .i64 e3] 44 (0, 0)) := setAll_new [.int .i64 e0, .int .i64 e1, .int .i64 e2, .int .i64 e3] [.int .i64 0, .int .i64 0, .int .i64 0, .int .i64 0] BKge.out rfl; have hx_BKgs := setAll_far ne_gs_ge [.int .i64 e0, .int .i64 e1, .int .i64 e2, .int .i64 e3] 0 _ BKgs.out; rw [he_] at hbl hbx hx_BKgs; clear he_; generalize ((((w3.setCell ⟨ge, 0, none⟩ (.int .i64 e0)).setCell ⟨ge, 1, none⟩ (.int .i64 e1)).setCell ⟨ge, 2, none⟩ (.int .i64 e2)).setCell ⟨ge, 3, none⟩ (.int .i64 e3)) = w5 at hbl hbx hx_BKgs ⊢; clear HBW BKge; have HBW := qab.mk hbl; have BKge := qab.mk hbx; clear hbl hbx; clear BKgs; have BKgs := qab.mk hx_BKgs; clear hx_BKgs
    have HI5 := qab.mk (HI.out.below HBW.out)
    have HNE2 := qab.mk (blk_ne BKge.out HI5.out.xr (by decide))
    have HK5 := qab.mk (HK.out.trans (KC.of_below HBW.out))
    have b0 : w5.cell? ⟨ge, 0, none⟩ = some (.int .i64 e0) := (qaa BKge.out 0).trans rfl
    have b2 : w5.cell? ⟨E.Bd, 0, none⟩ = some (.pointer (some ⟨E.gd, 0, none⟩)) := (qaa HI5.out.xb 0).trans rfl
    have b3 : w5.cell? ⟨gs, 1, none⟩ = some (.int .i64 yy) := (qaa BKgs.out 1).trans rfl
    have b1 : w5.cell? ⟨gs, 0, none⟩ = some (.int .i64 p) := (qaa BKgs.out 0).trans rfl
    by_cases he : e0 = p
    ·
     have hne : (e0 == p) = true := by simp [he]
     have HGV : qab (∀ W, RInv E W (.slice A n c) r → Calls Try.prog 63 #[.pointer (some ⟨E.gd, 0, none⟩), .int .i64 (i : Int), .int .i64 yy] W fun e w' => e = .returned (.tuple #[.int .i64 (goesV E.d E.l1 E.l4 i y).1, .bool (goesV E.d E.l1 E.l4 i y).2]) ∧ Below W.heap.size W w') := ⟨fun W h => by rw [HYY.out]; exact goes_calls E.gd E.v0 E.v2 E.v3 E.v5 E.A1 E.c1 E.l1 E.A4 E.c4 E.l4 E.d i y W (Kd.qai HE.out.r1 h.hb) (Kd.qai HE.out.r4 h.hb) (by have := HE.out.n4; omega) hlt (by omega) (by omega) h.xd⟩
     have HPS2 : qab (pathS E.d E.l1 E.l4 E.last (E.path k) p y i = (match goesN E.d E.l1 E.l4 i y with | some y' => if (y' : Int) ≤ E.last then (E.path k e1 y').map ((i : Int) :: ·) else none | none => none)) := ⟨by rw [HPS.out, if_pos he]⟩
     clear HPS he
     cases hG : goesN E.d E.l1 E.l4 i y with
     | none =>
      have HGO : qab (∀ W, RInv E W (.slice A n c) r → Calls Try.prog 63 #[.pointer (some ⟨E.gd, 0, none⟩), .int .i64 (i : Int), .int .i64 yy] W fun e w' => e = .returned (.tuple #[.int .i64 0, .bool false]) ∧ Below W.heap.size W w') := ⟨fun W h => by have h1 := HGV.out W h; unfold goesV at h1; rw [hG] at h1; exact h1⟩
      have HN1 : qab (E.path (k + 1) p y = E.from_ k p y (i + 1)) := ⟨by rw [HFR.out, HST.out, HPS2.out, hG]; rfl⟩
      clear HPS2 HST HGV hG
      go_wp2_with (go_at_call 63; (with_reducible refine (HGO.out _ HI5.out).mono ?_); rintro e w6 ⟨rfl, hb⟩; have HI6 := qab.mk (HI5.out.below hb); have HK6 := qab.mk (KC.of_below (E := E) hb); have fl : w6.cell? ⟨E.Bl, 0, none⟩ = some (.int .i64 last) := (qaa HI6.out.xl 0).trans (by rw [HLA.out]; rfl); clear hb)
      go_roundw
      case rel => exact ⟨i + 1, A, n, c, by omega, by go_num, HN1, HI6, ⟨HK5.out.trans HK6.out⟩⟩
      case measure => simp [intOf]; omega
     | some y' =>
      have HGO : qab (∀ W, RInv E W (.slice A n c) r → Calls Try.prog 63 #[.pointer (some ⟨E.gd, 0, none⟩), .int .i64 (i : Int), .int .i64 yy] W fun e w' => e = .returned (.tuple #[.int .i64 (y' : Int), .bool true]) ∧ Below W.heap.size W w') := ⟨fun W h => by have h1 := HGV.out W h; unfold goesV at h1; rw [hG] at h1; exact h1⟩
      have hlt2 := goesN_lt _ _ _ _ _ _ hG
      have hy2 : y' ≤ 10 := by have := HE.out.n4; omega
      have HPS3 : qab (pathS E.d E.l1 E.l4 E.last (E.path k) p y i = if (y' : Int) ≤ E.last then (E.path k e1 y').map ((i : Int) :: ·) else none) := ⟨by rw [HPS2.out, hG]⟩
      clear HPS2 HGV hG hlt2
      by_cases hle : (y' : Int) ≤ last
      ·
       have hcd : decide ((y' : Int) ≤ last) = true := decide_eq_true hle
       have HPS4 : qab (pathS E.d E.l1 E.l4 E.last (E.path k) p y i = (E.path k e1 y').map ((i : Int) :: ·)) := ⟨by rw [HPS3.out, if_pos (by rw [← HLA.out]; exact hle)]⟩
       clear HPS3 hle
       go_upto_region 11 with (go_at_call 63; (with_reducible refine (HGO.out _ HI5.out).mono ?_); rintro e w6 ⟨rfl, hb⟩; have HI6 := qab.mk (HI5.out.below hb); have HK6 := qab.mk (KC.of_below (E := E) hb); have fl : w6.cell? ⟨E.Bl, 0, none⟩ = some (.int .i64 last) := (qaa HI6.out.xl 0).trans (by rw [HLA.out]; rfl); clear hb)
       have fr6 : w6.cell? ⟨E.Br, 0, none⟩ = some (.slice A n c) := (qaa HI6.out.xr 0).trans rfl
       clear fl b0 b1 b2 b3
       go_upto_region 12 with ((with_reducible refine gate_builtin (b := .append) (xs := #[.tmp 51, .tmp 53]) rfl ?_); at_builtin; refine Kd.R_append (Kd.int .i64) (w0 := E.w0) E.w0.heap.size rfl (.tmp 51) (.tmp 53) 23 3 (.int .i64 0) 8 rfl Try.underlying23 info3 rfl (by decide) (by omega) (.slice A n c) r (i : Int) [.int .i64 (i : Int)] (fun k => k ≠ E.Bp ∧ k ≠ E.Bl) (fun _ => False) rfl rfl ?aP (fun _ hk => hk.elim) ?aF ?aO ?aB ?aS ?aL ?_; (case aP => exact rfl); (case aF => exact fun k hk => by have h1 := blk_lt HI6.out.xp; have h2 := blk_lt HI6.out.xl; constructor <;> omega); (case aO => exact HI6.out.row); (case aB => exact HI6.out.hb); (case aS => exact HI6.out.hb.size); (case aL => omega); intro v1 w1 ho hB hg hat; obtain ⟨vB, vm, vd, e⟩ := R_shape ho; subst e; have HA8 := qab.mk (HI6.out.app HE.out.br hg hB ho); have HK8 := qab.mk (HK6.out.trans (KC.of_app HI6.out hg (.slice vB vm vd))); have xr7 := blk_grown HI6.out.xr hg (Kd.R_ne HI6.out.row HI6.out.xr (by decide)); have fr7 := qac xr7; have cr7 : w1.cell? ⟨E.Br, 0, none⟩ = some (.slice A n c) := (qaa xr7 0).trans rfl; clear ho hB hg hat xr7)
       clear fr7 cr7 fr6
       generalize World.setCell w1 ⟨E.Br, 0, none⟩ (.slice vB vm vd) = w8 at HA8 HK8 ⊢
       have f0 : w8.cell? ⟨E.Bs, 0, none⟩ = some (.func (.func 62) #[] #[.pointer (some ⟨E.Bp, 0, none⟩), .pointer (some ⟨E.Bk, 0, none⟩), .pointer (some ⟨E.Bm, 0, none⟩), .pointer (some ⟨E.Bd, 0, none⟩), .pointer (some ⟨E.Bl, 0, none⟩), .pointer (some ⟨E.Br, 0, none⟩), .pointer (some ⟨E.Bs, 0, none⟩)]) := (qaa HA8.out.xs 0).trans rfl
       have f1 : w8.cell? ⟨ge, 1, none⟩ = some (.int .i64 e1) := (qaa (HK8.out.own _ _ _ BKge.out (by decide) HNE2.out) 1).trans rfl
       have f2 : w8.cell? ⟨gs, 2, none⟩ = some (.int .i64 nn) := (qaa (HK8.out.own _ _ _ BKgs.out (by decide) HNE.out) 2).trans rfl
       have hkn : wrap64 (nn - 1) = k := by rw [HNN.out]; unfold wrap64; omega
       have HKN := qab.mk hkn
       clear hkn
       cases hX : E.path k e1 y' with
       | some l =>
        have HSE : qab (∀ W v, RInv E W v (r ++ [(i : Int)]) → Calls Try.prog 62 #[.agg #[.int .i64 e1, .int .i64 (y' : Int), .int .i64 (wrap64 (nn - 1))], .pointer (some ⟨E.Bp, 0, none⟩), .pointer (some ⟨E.Bk, 0, none⟩), .pointer (some ⟨E.Bm, 0, none⟩), .pointer (some ⟨E.Bd, 0, none⟩), .pointer (some ⟨E.Bl, 0, none⟩), .pointer (some ⟨E.Br, 0, none⟩), .pointer (some ⟨E.Bs, 0, none⟩)] W fun e W' => e = .returned (.bool true) ∧ (∃ v', RInv E W' v' (r ++ [(i : Int)] ++ l)) ∧ KC E W W') := ⟨fun W v h => by have h1 := HIH.out e1 y' W v _ h hy2 (by simp; omega); rw [hX] at h1; rw [HKN.out]; exact h1⟩
        have HN1 : qab (E.path (k + 1) p y = some ((i : Int) :: l)) := ⟨by rw [HFR.out, HST.out, HPS4.out, hX]; rfl⟩
        clear hX HPS4 HST
        go_wp2_with (go_at_call 62; (with_reducible refine (HSE.out _ _ HA8.out).mono ?_); rintro e w10 ⟨rfl, ⟨v2, hI⟩, hK⟩; have HI10 := qab.mk hI; have HK10 := qab.mk (HK8.out.trans hK); clear hI hK)
        go_ret
        refine ⟨by rw [HN1.out]; rfl, ⟨v2, by rw [HN1.out]; simpa using HI10.out⟩, ?_⟩
        exact (KC.of_below HBw.out).trans (HK5.out.trans HK10.out)
       | none =>
        have HSE : qab (∀ W v, RInv E W v (r ++ [(i : Int)]) → Calls Try.prog 62 #[.agg #[.int .i64 e1, .int .i64 (y' : Int), .int .i64 (wrap64 (nn - 1))], .pointer (some ⟨E.Bp, 0, none⟩), .pointer (some ⟨E.Bk, 0, none⟩), .pointer (some ⟨E.Bm, 0, none⟩), .pointer (some ⟨E.Bd, 0, none⟩), .pointer (some ⟨E.Bl, 0, none⟩), .pointer (some ⟨E.Br, 0, none⟩), .pointer (some ⟨E.Bs, 0, none⟩)] W fun e W' => e = .returned (.bool false) ∧ (∃ v', RInv E W' v' (r ++ [(i : Int)])) ∧ KC E W W') := ⟨fun W v h => by have h1 := HIH.out e1 y' W v _ h hy2 (by simp; omega); rw [hX] at h1; rw [HKN.out]; simpa using h1⟩
        have HN1 : qab (E.path (k + 1) p y = E.from_ k p y (i + 1)) := ⟨by rw [HFR.out, HST.out, HPS4.out, hX]; rfl⟩
        clear hX HPS4 HST
        go_upto_region 14 with (go_at_call 62; (with_reducible refine (HSE.out _ _ HA8.out).mono ?_); rintro e w10 ⟨rfl, ⟨v2, hI⟩, hK⟩; have HI10 := qab.mk hI; have HK10 := qab.mk (HK8.out.trans hK); clear hI hK)
        clear f0 f1 f2
        obtain ⟨A2, c2, e⟩ := Kd.R_slice HI10.out.row
        subst e
        have hrl : (r ++ [(i : Int)]).length = r.length + 1 := by simp
        have fr10 : w10.cell? ⟨E.Br, 0, none⟩ = some (.slice A2 (r.length + 1) c2) := (qaa HI10.out.xr 0).trans (by rw [← hrl]; rfl)
        have hcap : r.length + 1 ≤ c2 := by have h := (Kd.qbc HI10.out.row).2.1; omega
        have frz : w10.frozen? ⟨E.Br, 0, none⟩ = false := qac HI10.out.xr 0
        have hwr : wrap64 ((r.length : Int) + 1 - 1) = r.length := by unfold wrap64; omega
        clear hrl
        go_wp2
        go_roundw
        have HRT := Kd.R_take (m := r.length) HI10.out.row (by simp)
        rw [List.take_left'  rfl] at HRT
        case rel => exact ⟨i + 1, A2, r.length, c2, by omega, by go_num, HN1, ⟨HI10.out.setR HE.out.br HRT⟩, ⟨(HK5.out.trans HK10.out).trans (KC.of_set E w10 _)⟩⟩
        case measure => simp [intOf]; omega
      ·
       have hcd : decide ((y' : Int) ≤ last) = false := decide_eq_false hle
       have HN1 : qab (E.path (k + 1) p y = E.from_ k p y (i + 1)) := ⟨by rw [HFR.out, HST.out, HPS3.out, if_neg (by rw [← HLA.out]; exact hle)]; rfl⟩
       clear HPS3 hle HST
       go_wp2_with (go_at_call 63; (with_reducible refine (HGO.out _ HI5.out).mono ?_); rintro e w6 ⟨rfl, hb⟩; have HI6 := qab.mk (HI5.out.below hb); have HK6 := qab.mk (KC.of_below (E := E) hb); have fl : w6.cell? ⟨E.Bl, 0, none⟩ = some (.int .i64 last) := (qaa HI6.out.xl 0).trans (by rw [HLA.out]; rfl); clear hb)
       go_roundw
       case rel => exact ⟨i + 1, A, n, c, by omega, by go_num, HN1, HI6, ⟨HK5.out.trans HK6.out⟩⟩
       case measure => simp [intOf]; omega
    ·
     have hne : (e0 == p) = false := by simp [he]
     have HN1 : qab (E.path (k + 1) p y = E.from_ k p y (i + 1)) := ⟨by rw [HFR.out, HST.out, HPS.out, if_neg he]; rfl⟩
     clear HPS HST he
     go_wp2
     go_roundw
     case rel => exact ⟨i + 1, A, n, c, by omega, by go_num, HN1, HI5, HK5⟩
     case measure => simp [intOf]; omega
   ·
    have HN1 : qab (E.path (k + 1) p y = none) := ⟨by rw [HFR.out, E.from_end k p y i (by omega)]⟩
    obtain ⟨w9, hrun, hI9, hK9⟩ := HI.out.dead HE.out.bm (k + 1) y p HN1.out
    rw [← HYY.out, ← HNN.out] at hrun
    have HI9 := qab.mk hI9
    have HK9 := qab.mk hK9
    have fk : W0.cell? ⟨E.Bk, 0, none⟩ = some (.map (some E.mm)) := (qaa HI.out.xk 0).trans rfl
    obtain ⟨hfgs, hcgs_0, hcgs_1, hcgs_2⟩ := qz3 BKgs.out
    clear hI9 hK9
    go_wp2
    go_ret
    exact ⟨by rw [HN1.out]; rfl, ⟨_, by rw [HN1.out]; simpa using HI9.out⟩, (KC.of_below HBw.out).trans (HK.out.trans HK9.out)⟩
theorem search_calls (E : RE) (hE : E.Fit) : ∀ k : Nat, k ≤ 100 → SearchC E k
 | 0, _ => search_zero E
 | k + 1, h => search_succ E hE k (by omega) (search_calls E hE k (by omega))
def rootS (d : Int) (l1 : List S44) (l2 : List Int) (l4 : List S41) (last pt : Int) (k i : Nat) : Option (List Int) :=
 match goesN d l1 l4 i 0 with
 | some y => if (y : Int) ≤ last then if l2.contains (qax l1 (i : Nat)).f0 = true then (pathV d l1 l4 last pt k (qax l1 (i : Nat)).f1 y).map ((i : Int) :: ·) else none else none
 | none => none
def routeBy (d : Int) (l1 : List S44) (l2 : List Int) (l4 : List S41) (last pt : Int) : Nat → Option (List Int)
 | 0 => if l2.contains pt = true then some [] else none
 | k + 1 => (List.range l1.length).findSome? (rootS d l1 l2 l4 last pt k)
def routeV (d : Int) (l1 : List S44) (l2 : List Int) (l4 : List S41) (last pt : Int) (P : Nat) : List Int := ((List.range (P + 1)).findSome? (routeBy d l1 l2 l4 last pt)).getD []
def routeF (p : Int) (l1 : List S44) (l2 l3 : List Int) (l4 : List S41) (l5 : List S95) (l : List Int) (pt : Int) : List Int × Int :=
 if (givenB p l1 l2 l3 l4 l5 l && inB pt 0 (p - 1)) = true then
  if rd (foulV p.toNat l1 l2 (maskV l) (l4.map (·.f1))) pt = l4.length then ([], 5)
  else (routeV (maskV l) l1 l2 l4 (rd (foulV p.toNat l1 l2 (maskV l) (l4.map (·.f1))) pt) pt p.toNat, 0)
 else ([], 2)
structure RQ (w : World) (gb gp g8 gd : Nat) (mc dc : Array Value) (pt : Int) (W : World) : Prop where
 hb : Below w.heap.size w W
 xm : W.heap[gb]? = some (.cells mc 27 (0, 0))
 xp : W.heap[gp]? = some (.cells #[.int .i64 pt] 3 (0, 0))
 xb : W.heap[g8]? = some (.cells #[.pointer (some ⟨gd, 0, none⟩)] 84 (0, 0))
 xd : W.heap[gd]? = some (.cells dc 123 (0, 0))
section
variable {w W W' : World} {gb gp g8 gd g : Nat} {mc dc : Array Value} {pt : Int}
theorem RQ.below (h : RQ w gb gp g8 gd mc dc pt W) (hb : Below W.heap.size W W') : RQ w gb gp g8 gd mc dc pt W' := ⟨qae h.hb hb, qad h.xm hb, qad h.xp hb, qad h.xb hb, qad h.xd hb⟩
theorem RQ.ne (h : RQ w gb gp g8 gd mc dc pt W) (hg : g = W.heap.size) : gb ≠ g ∧ gp ≠ g ∧ g8 ≠ g ∧ gd ≠ g := by
 have h1 := blk_lt h.xm
 have h2 := blk_lt h.xp
 have h3 := blk_lt h.xb
 have h4 := blk_lt h.xd
 refine ⟨?_, ?_, ?_, ?_⟩ <;> omega
theorem RQ.put (h : RQ w gb gp g8 gd mc dc pt W) (hg : w.heap.size ≤ g) (hn : gb ≠ g ∧ gp ≠ g ∧ g8 ≠ g ∧ gd ≠ g) (v : Value) : RQ w gb gp g8 gd mc dc pt (W.setCell ⟨g, 0, none⟩ v) :=
 ⟨qaj h.hb hg, blk_far (p := ⟨g, 0, none⟩) h.xm hn.1 v, blk_far (p := ⟨g, 0, none⟩) h.xp hn.2.1 v, blk_far (p := ⟨g, 0, none⟩) h.xb hn.2.2.1 v, blk_far (p := ⟨g, 0, none⟩) h.xd hn.2.2.2 v⟩
end
theorem R_one (W : World) (base : Nat) (ok : Nat → Prop) (i : Int) (hb : base ≤ W.heap.size) (hok : ok W.heap.size) : Kd.R (Kd.int .i64) 3 (W.alloc (.cells #[.int .i64 i] 3)) base ok (.slice (some ⟨W.heap.size, 0, none⟩) 1 1) [i] := by
 refine Kd.R_of_own (enc := Value.int .i64) (h1 := fun _ => rfl) ?_ ?_
 ·
  have h := World.ownsRow_lit (base := base) (e := 3) (size := 1) W #[.int .i64 i] 1 hb (by decide) rfl
  simpa [encs] using h
 ·
  intro k hk
  have : W.heap.size = k := by simpa [Value.ownBlock] using hk
  subst this
  exact hok
theorem allocs4 (W : World) (o1 o2 : Obj) (o3 : Nat → Obj) (o4 : Obj) : ∃ X gr mm gk gs, (((W.alloc o1).alloc o2).alloc (o3 (W.heap.size + 1))).alloc o4 = X ∧ W.heap.size + 1 + 1 + 1 = gs ∧ W.heap.size + 1 + 1 = gk ∧ W.heap.size + 1 = mm ∧ W.heap.size = gr ∧ X.heap[gr]? = some o1 ∧ X.heap[mm]? = some o2 ∧ X.heap[gk]? = some (o3 mm) ∧ X.heap[gs]? = some o4 ∧ Below W.heap.size W X := by
 have h2 := blk_new (W.alloc o1) o2
 have h3 := blk_new ((W.alloc o1).alloc o2) (o3 (W.heap.size + 1))
 have h4 := blk_new (((W.alloc o1).alloc o2).alloc (o3 (W.heap.size + 1))) o4
 simp only [World.size_alloc] at h2 h3 h4
 exact ⟨_, _, _, _, _, rfl, rfl, rfl, rfl, rfl, qao (qao (qao (blk_new W o1) _) _) _, qao (qao h2 _) _, qao h3 _, h4, qag (qag (qag (qag (Below.refl _ _) _) _) _) _⟩
def routeTo (d : Int) (l1 : List S44) (l2 : List Int) (l4 : List S41) (last pt : Int) (P m : Nat) : Option (List Int) := ((List.range (P + 1)).drop m).findSome? (routeBy d l1 l2 l4 last pt)
theorem routeTo_step (d : Int) (l1 : List S44) (l2 : List Int) (l4 : List S41) (last pt : Int) (P m : Nat) (hm : m < P + 1) : routeTo d l1 l2 l4 last pt P m = (routeBy d l1 l2 l4 last pt m).or (routeTo d l1 l2 l4 last pt P (m + 1)) := by
 unfold routeTo
 have hl : m < (List.range (P + 1)).length := by simpa using hm
 rw [List.drop_eq_getElem_cons hl, List.findSome?_cons]
 simp only [List.getElem_range]
 cases routeBy d l1 l2 l4 last pt m <;> simp
theorem routeTo_end (d : Int) (l1 : List S44) (l2 : List Int) (l4 : List S41) (last pt : Int) (P m : Nat) (hm : P + 1 ≤ m) : routeTo d l1 l2 l4 last pt P m = none := by
 unfold routeTo
 rw [List.drop_eq_nil_of_le (by simpa using hm)]
 rfl
def rootTo (d : Int) (l1 : List S44) (l2 : List Int) (l4 : List S41) (last pt : Int) (k i : Nat) : Option (List Int) := ((List.range l1.length).drop i).findSome? (rootS d l1 l2 l4 last pt k)
theorem rootTo_step (d : Int) (l1 : List S44) (l2 : List Int) (l4 : List S41) (last pt : Int) (k i : Nat) (hi : i < l1.length) : rootTo d l1 l2 l4 last pt k i = (rootS d l1 l2 l4 last pt k i).or (rootTo d l1 l2 l4 last pt k (i + 1)) := by
 unfold rootTo
 have hl : i < (List.range l1.length).length := by simpa using hi
 rw [List.drop_eq_getElem_cons hl, List.findSome?_cons]
 simp only [List.getElem_range]
 cases rootS d l1 l2 l4 last pt k i <;> simp
theorem rootTo_end (d : Int) (l1 : List S44) (l2 : List Int) (l4 : List S41) (last pt : Int) (k i : Nat) (hi : l1.length ≤ i) : rootTo d l1 l2 l4 last pt k i = none := by
 unfold rootTo
 rw [List.drop_eq_nil_of_le (by simpa using hi)]
 rfl
theorem store_func (W : World) (g : Nat) (u : Value) (hc : W.cell? ⟨g, 0, none⟩ = some u) (hf : W.frozen? ⟨g, 0, none⟩ = false) (f : Fn) (a b : Array Value) : (store ⟨g, 0, none⟩ (.func f a b)).run Try.prog W = .ok () (W.setCell ⟨g, 0, none⟩ (.func f a b)) := by
 rw [run_store _ _ _ _ _ rfl]
 simp [stored, hc, hf]
end Go.Proofs.Ytafkanmioinbiaa.SA
