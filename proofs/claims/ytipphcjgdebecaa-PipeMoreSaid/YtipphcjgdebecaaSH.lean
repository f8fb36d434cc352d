/- What functions of the program answer. No condition. -/
import Derived.Test.YtipphcjgdebecaaSC
import Derived.Test.YtipphcjgdebecaaSE
import Derived.Test.YtipphcjgdebecaaSF
set_option linter.all false
set_option maxRecDepth 100000
set_option maxHeartbeats 8000000
namespace Go.Proofs.Ytipphcjgdebecaa.PA
open Go.RowKit Go.Proofs.YtipphcjgdebecaaW.PrintWords Go.Proofs.YtipphcjgdebecaaW.PrintLast Go.Proofs.YtipphcjgdebecaaW.PrintMore
attribute [local go_sem] qas qau max_two min_two qao qap qat qav
def pipe_place.f (l0_0 : List (S39)) (l0_1 : List (S37)) (l0_2 : List (List Int)) (a1 : Int) : Option (Bool) := (pipe_in.f a1 0 (l0_0.length : Int)).bind fun t125 => (some t125)
theorem pipe_place.calls (A0_0 : Option Addr) (c0_0 : Nat) (l0_0 : List (S39)) (A0_1 : Option Addr) (c0_1 : Nat) (l0_1 : List (S37)) (A0_2 : Option Addr) (c0_2 : Nat) (l0_2 : List (List Int)) (a1 : Int) (r : Bool) (w : World) (hr0_0 : Kd.C k39 w A0_0 l0_0.length l0_0) (hc0_0 : l0_0.length ≤ c0_0) (hr0_1 : Kd.C k37 w A0_1 l0_1.length l0_1) (hc0_1 : l0_1.length ≤ c0_1) (hr0_2 : Kd.C (Kd.slice 3 (Kd.int .i64)) w A0_2 l0_2.length l0_2) (hc0_2 : l0_2.length ≤ c0_2) (h : pipe_place.f l0_0 l0_1 l0_2 a1 = some r) :
  Calls Try.prog 62 #[.agg #[.slice A0_0 l0_0.length c0_0, .slice A0_1 l0_1.length c0_1, .slice A0_2 l0_2.length c0_2], .int .i64 a1] w fun e w' => e = .returned (.bool r) ∧ Below w.heap.size w w' := by
 have hu26 := Try.underlying26
 have HR0_0 := qab.mk hr0_0
 have HC0_0 := qab.mk hc0_0
 clear hr0_0 hc0_0
 have HR0_1 := qab.mk hr0_1
 have HC0_1 := qab.mk hc0_1
 clear hr0_1 hc0_1
 have HR0_2 := qab.mk hr0_2
 have HC0_2 := qab.mk hc0_2
 clear hr0_2 hc0_2
 have HB := qab.mk (Below.refl w.heap.size w)
 have H : ((pipe_in.f a1 0 (l0_0.length : Int)).bind fun t125 => (some t125)) = some r := h
 clear h
 replace H := Option.bind_eq_some_iff.mp H
 obtain ⟨t125, A30, H⟩ := H
 replace H : (some t125) = some r := H
 have A3 := qab.mk A30
 clear A30
 obtain rfl := Option.some.inj H
 go_enter Try.func62, Try.ntmps62
 go_wp2_with (first | ((with_reducible refine qam (N := 2) rfl ?_); refine qal ?hg (N := 2) ?hd (cs := #[.slice A0_0 l0_0.length c0_0, .slice A0_1 l0_1.length c0_1, .slice A0_2 l0_2.length c0_2]) (t := 26) ?hr ?_; (case hd => rfl); (case hg => rfl); (case hr => first | (go_simp; done) | (go_simp; rfl)); intro gb124 hg w4 hbox hb; have n0_ := qab.mk (qad (by repeat (first | (with_reducible first | exact HB.out | apply qag | apply qaf | apply qah) | exact HB.out)) hb); have n1_ := qab.mk (hbox); have n2_ := qab.mk ((by rw [hg]; exact (qar (by repeat (first | (with_reducible first | exact HB.out | apply qag | apply qaf | apply qah) | exact HB.out))) : w.heap.size ≤ gb124)); have n3_ := qab.mk ((by rw [hg]; exact (qar (by repeat (first | (with_reducible first | exact HB.out | apply qag | apply qaf | apply qah) | exact HB.out))) : w.heap.size ≤ gb124)); clear HB; have HB := n0_; have BK124 := n1_; have GW124 := n2_; have GE124 := n3_; clear n0_ n1_ n2_ n3_; clear hb hbox hg; have hcz5_0 : w4.cell? ⟨gb124, 0, none⟩ = some (.slice A0_0 l0_0.length c0_0) := (qaa BK124.out 0).trans rfl; have hcz5_1 : w4.cell? ⟨gb124, 1, none⟩ = some (.slice A0_1 l0_1.length c0_1) := (qaa BK124.out 1).trans rfl; have hcz5_2 : w4.cell? ⟨gb124, 2, none⟩ = some (.slice A0_2 l0_2.length c0_2) := (qaa BK124.out 2).trans rfl; have hfz5_0 := qac BK124.out 0; have hfz5_1 := qac BK124.out 1; have hfz5_2 := qac BK124.out 2) | ((with_reducible refine gate_callee (f := 55) rfl ?_); refine goesL_ (some 9) rfl rfl Try.func55 (by kernel_rfl) rfl #[.int .i64 a1, .int .i64 0, .int .i64 (l0_0.length : Int)] rfl (by (try simp only [List.map_toArray, List.map_cons, List.map_nil]); first | done | rfl | (simp only [List.length_drop, List.length_take]; rfl)) ?_; (with_reducible refine (pipe_in.calls a1 0 (l0_0.length : Int) t125 _ A3.out).mono ?_); rintro e w' ⟨rfl, ⟨nd, rfl⟩⟩; refine ⟨_, rfl, ?_⟩))
 go_ret
 exact ⟨by first | rfl | (simp [errW_none, errW_some] <;> rfl) | (simp [*, errW_none, errW_some] <;> rfl), by repeat (first | (with_reducible first | exact HB.out | apply qag | apply qaf | apply qah | refine qai ?_ GE124.out) | exact HB.out)⟩
def frz : List S37 → Int → Int → Int × Int
 | [], _, can => (can, -1)
 | s :: t, h, can => if s.f1 = 0 then (if s.f0 = 0 ∧ can < 0 then h + 1 else can, h + 1) else frz t (h + 1) (if s.f0 = 0 ∧ can < 0 then h + 1 else can)
theorem frz_round (l : List S37) (k : Nat) (hk : k < l.length) (can : Int) : frz (l.drop k) k can = if (rd_T37 l k).f1 = 0 then (if (rd_T37 l k).f0 = 0 ∧ can < 0 then (k : Int) + 1 else can, (k : Int) + 1) else frz (l.drop (k + 1)) ((k + 1 : Nat) : Int) (if (rd_T37 l k).f0 = 0 ∧ can < 0 then (k : Int) + 1 else can) := by
 rw [List.drop_eq_getElem_cons hk]
 have : rd_T37 l k = l[k] := by simp [rd_T37, hk]
 rw [this]
 simp only [frz]
 rfl
def pipe_net_freezes.f (l0_0 : List (S39)) (l0_1 : List (S37)) (l0_2 : List (List Int)) (a0_3 : Int) (a1 : Int) : Option (Int × Int) := if 0 ≤ a1 ∧ a1 < l0_0.length ∧ 0 ≤ a0_3 ∧ l0_1.length ≤ 1000 then some (frz (warmthV l0_0 l0_1 a0_3 a1) 0 (-1)) else none
theorem pipe_net_freezes.calls (A0_0 : Option Addr) (c0_0 : Nat) (l0_0 : List (S39)) (A0_1 : Option Addr) (c0_1 : Nat) (l0_1 : List (S37)) (A0_2 : Option Addr) (c0_2 : Nat) (l0_2 : List (List Int)) (a0_3 : Int) (a1 : Int) (r1 : Int) (r2 : Int) (w : World) (hr0_0 : Kd.C k39 w A0_0 l0_0.length l0_0) (hc0_0 : l0_0.length ≤ c0_0) (hr0_1 : Kd.C k37 w A0_1 l0_1.length l0_1) (hc0_1 : l0_1.length ≤ c0_1) (hr0_2 : Kd.C (Kd.slice 3 (Kd.int .i64)) w A0_2 l0_2.length l0_2) (hc0_2 : l0_2.length ≤ c0_2) (h : pipe_net_freezes.f l0_0 l0_1 l0_2 a0_3 a1 = some (r1, r2)) :
  Calls Try.prog 77 #[.agg #[.slice A0_0 l0_0.length c0_0, .slice A0_1 l0_1.length c0_1, .slice A0_2 l0_2.length c0_2, .int .i64 a0_3], .int .i64 a1] w fun e w' => e = .returned (.tuple #[.int .i64 r1, .int .i64 r2]) ∧ Below w.heap.size w w' := by
 unfold pipe_net_freezes.f at h
 split at h
 case isFalse => cases h
 rename_i hc
 have h' := Option.some.inj h
 clear h
 have HF := qab.mk h'
 clear h'
 have HR0 := qab.mk hr0_0
 have HR1 := qab.mk hr0_1
 clear hr0_0 hr0_1 hr0_2
 have hu99 := Try.underlying99
 have hu37 := Try.underlying37
 have HB := qab.mk (Below.refl w.heap.size w)
 obtain ⟨q0, q1, q2, q3⟩ := hc
 go_enter Try.func77, Try.ntmps77
 go_wp2_with ((with_reducible refine qam (N := 2) rfl ?_); refine qal ?hg (N := 2) ?hd (cs := #[.slice A0_0 l0_0.length c0_0, .slice A0_1 l0_1.length c0_1, .slice A0_2 l0_2.length c0_2, .int .i64 a0_3]) (t := 99) ?hr ?_; (case hd => rfl); (case hg => rfl); (case hr => first | (go_simp; done) | (go_simp; rfl)); intro gb hg_gb w2 hbox hb; have BKgb := qab.mk hbox; have n_HB := qab.mk (qad HB.out hb); have GEgb : w.heap.size ≤ gb := (by rw [hg_gb]; exact HB.out.size); clear HB; have HB := n_HB; clear n_HB; obtain ⟨hfgb, hcgb_0, hcgb_1, hcgb_2, hcgb_3⟩ := qz4 BKgb.out; clear hbox hb hg_gb)
 go_step3
 go_wp2_with fail
 go_step3
 go_wp2_with (go_at_call 79; refine (warmth_calls _ _ _ _ _ _ _ _ _ _ (Kd.qak HR0.out HB.out) (Kd.qak HR1.out HB.out) q0 q1 q2 q3).mono ?_; rintro e w3 ⟨v, rfl, ho, hb⟩; obtain ⟨A, n, c, rfl⟩ := R_shape ho; have HO := qab.mk (Kd.R_lower ho HB.out.size); clear ho; replace HB := qab.mk (qad HB.out hb); clear hb)
 clear hfgb hcgb_0 hcgb_1 hcgb_2 hcgb_3 BKgb
 have HN : qab (n = (warmthV l0_0 l0_1 a0_3 a1).length) := ⟨(Kd.R_reads' HO.out).1⟩
 have hn : n ≤ 1000 := by rw [HN.out]; simpa [warmthV] using q3
 generalize hl : warmthV l0_0 l0_1 a0_3 a1 = l at HO HF HN
 clear hl
 go_loopw [6, 7, 14] (fun s6 s7 s14 wr => ∃ (k : Nat) (can : Int), k ≤ n ∧ -1 ≤ can ∧ s14 = .int .i64 k ∧ s6 = .int .i64 can ∧ s7 = .int .i64 (-1) ∧ qab (frz (l.drop k) k can = (r1, r2)) ∧ qab (Kd.R k37 37 wr w.heap.size (fun _ => True) (.slice A n c) l) ∧ qab (Below w.heap.size w wr)) (fun _ _ s _ => n - (intOf s).toNat)
 case atStart => exact ⟨0, -1, by omega, by omega, rfl, rfl, rfl, HF, HO, HB⟩
 case round =>
  clear HO HB HF
  obtain ⟨k, can, hk, hcan, rfl, rfl, rfl, HF, HO, HB⟩ := hrel
  by_cases hlt : k < n
  ·
   have hki : (k : Int) < n := by omega
   have hC := (Kd.R_reads' HO.out).2.2
   rw [← HN.out] at hC
   obtain ⟨ad, e, hx0, hx1⟩ := at_T37 hC k (by omega) hki
   cases e
   simp only [Int.toNat_natCast] at hx0 hx1
   clear hC
   have ne0 := World.new_ne wr _ hx0
   have hrd := frz_round l k (by rw [← HN.out]; exact hlt) can
   have HD := qab.mk hrd
   clear hrd
   obtain ⟨x0, hx0e⟩ : ∃ x0, x0 = (rd_T37 l k).f0 := ⟨_, rfl⟩
   obtain ⟨x1, hx1e⟩ : ∃ x1, x1 = (rd_T37 l k).f1 := ⟨_, rfl⟩
   rw [← hx0e] at hx0 HD
   rw [← hx1e] at hx1 HD
   clear hx0e hx1e
   by_cases c1 : x1 = 0
   ·
    have HE : qab ((if x0 = 0 ∧ can < 0 then (k : Int) + 1 else can, (k : Int) + 1) = (r1, r2)) := ⟨by rw [← HF.out, HD.out, if_pos c1]⟩
    have hb1 : (x1 == 0) = true := by simp [c1]
    clear c1
    by_cases c2 : x0 = 0
    ·
     have hb2 : (x0 == 0) = true := by simp [c2]
     have C2 := qab.mk c2
     clear c2
     by_cases c3 : can < 0
     ·
      go_wp2_with fail
      try rw [Exit.noGoto_ret]
      go_ret2
      have he := HE.out
      rw [if_pos ⟨C2.out, c3⟩] at he
      cases he
      exact ⟨rfl, HB.out.alloc HB.out.size _⟩
     ·
      go_wp2_with fail
      try rw [Exit.noGoto_ret]
      go_ret2
      have he := HE.out
      rw [if_neg (by omega)] at he
      cases he
      exact ⟨rfl, HB.out.alloc HB.out.size _⟩
    ·
     have hb2 : (x0 == 0) = false := by simp [c2]
     have C2 := qab.mk c2
     clear c2
     go_wp2_with fail
     try rw [Exit.noGoto_ret]
     go_ret2
     have he := HE.out
     rw [if_neg (fun h => C2.out h.1)] at he
     cases he
     exact ⟨rfl, HB.out.alloc HB.out.size _⟩
   ·
    have HE : qab (frz (l.drop (k + 1)) ((k + 1 : Nat) : Int) (if x0 = 0 ∧ can < 0 then (k : Int) + 1 else can) = (r1, r2)) := ⟨by rw [← HF.out, HD.out, if_neg c1]⟩
    have hb1 : (x1 == 0) = false := by simp [c1]
    clear c1
    by_cases c2 : x0 = 0
    ·
     have hb2 : (x0 == 0) = true := by simp [c2]
     have C2 := qab.mk c2
     clear c2
     by_cases c3 : can < 0
     ·
      go_wp2_with fail
      go_roundw
      case rel => exact ⟨k + 1, (k : Int) + 1, by omega, by omega, by go_num, by go_num, rfl, ⟨by rw [← HE.out, if_pos ⟨C2.out, c3⟩]⟩, ⟨Kd.R_alloc HO.out _⟩, ⟨HB.out.alloc HB.out.size _⟩⟩
      case measure => simp [intOf]; omega
     ·
      go_wp2_with fail
      go_roundw
      case rel => exact ⟨k + 1, can, by omega, by omega, by go_num, rfl, rfl, ⟨by rw [← HE.out, if_neg (by omega)]⟩, ⟨Kd.R_alloc HO.out _⟩, ⟨HB.out.alloc HB.out.size _⟩⟩
      case measure => simp [intOf]; omega
    ·
     have hb2 : (x0 == 0) = false := by simp [c2]
     have C2 := qab.mk c2
     clear c2
     go_wp2_with fail
     go_roundw
     case rel => exact ⟨k + 1, can, by omega, by omega, by go_num, rfl, rfl, ⟨by rw [← HE.out, if_neg (fun h => C2.out h.1)]⟩, ⟨Kd.R_alloc HO.out _⟩, ⟨HB.out.alloc HB.out.size _⟩⟩
     case measure => simp [intOf]; omega
  ·
   have he := HF.out
   rw [List.drop_eq_nil_of_le (by rw [← HN.out]; omega)] at he
   simp only [frz] at he
   cases he
   go_wp2_with fail
   try rw [Exit.noGoto_ret]
   go_ret2
   exact ⟨rfl, HB.out⟩
def pipe_net_due.f (l0_0 : List (S39)) (l0_1 : List (S37)) (l0_2 : List (List Int)) (a0_3 : Int) (a1 : Int) : Option (Int) := (pipe_net_freezes.f l0_0 l0_1 l0_2 a0_3 a1).bind fun bt127 => (if bt127.1 ≥ 0 then (some (wrap64 (bt127.1 - 1))) else (some (l0_1.length : Int)))
theorem pipe_net_due.calls (A0_0 : Option Addr) (c0_0 : Nat) (l0_0 : List (S39)) (A0_1 : Option Addr) (c0_1 : Nat) (l0_1 : List (S37)) (A0_2 : Option Addr) (c0_2 : Nat) (l0_2 : List (List Int)) (a0_3 : Int) (a1 : Int) (r : Int) (w : World) (hr0_0 : Kd.C k39 w A0_0 l0_0.length l0_0) (hc0_0 : l0_0.length ≤ c0_0) (hr0_1 : Kd.C k37 w A0_1 l0_1.length l0_1) (hc0_1 : l0_1.length ≤ c0_1) (hr0_2 : Kd.C (Kd.slice 3 (Kd.int .i64)) w A0_2 l0_2.length l0_2) (hc0_2 : l0_2.length ≤ c0_2) (h : pipe_net_due.f l0_0 l0_1 l0_2 a0_3 a1 = some r) :
  Calls Try.prog 89 #[.agg #[.slice A0_0 l0_0.length c0_0, .slice A0_1 l0_1.length c0_1, .slice A0_2 l0_2.length c0_2, .int .i64 a0_3], .int .i64 a1] w fun e w' => e = .returned (.int .i64 r) ∧ Below w.heap.size w w' := by
 have hu99 := Try.underlying99
 have HR0_0 := qab.mk hr0_0
 have HC0_0 := qab.mk hc0_0
 clear hr0_0 hc0_0
 have HR0_1 := qab.mk hr0_1
 have HC0_1 := qab.mk hc0_1
 clear hr0_1 hc0_1
 have HR0_2 := qab.mk hr0_2
 have HC0_2 := qab.mk hc0_2
 clear hr0_2 hc0_2
 have HB := qab.mk (Below.refl w.heap.size w)
 have H : ((pipe_net_freezes.f l0_0 l0_1 l0_2 a0_3 a1).bind fun bt127 => (if bt127.1 ≥ 0 then (some (wrap64 (bt127.1 - 1))) else (some (l0_1.length : Int)))) = some r := h
 clear h
 replace H := Option.bind_eq_some_iff.mp H
 obtain ⟨⟨t127, t128⟩, A30, H⟩ := H
 replace H : (if t127 ≥ 0 then (some (wrap64 (t127 - 1))) else (some (l0_1.length : Int))) = some r := H
 have A3 := qab.mk A30
 clear A30
 by_cases c4 : t127 ≥ 0
 ·
  rw [if_pos c4] at H
  have c4b0 : decide (0 ≤ t127) = true := decide_eq_true c4
  clear c4
  obtain rfl := Option.some.inj H
  go_enter Try.func89, Try.ntmps89
  go_wp2_with (first | ((with_reducible refine qam (N := 2) rfl ?_); refine qal ?hg (N := 2) ?hd (cs := #[.slice A0_0 l0_0.length c0_0, .slice A0_1 l0_1.length c0_1, .slice A0_2 l0_2.length c0_2, .int .i64 a0_3]) (t := 99) ?hr ?_; (case hd => rfl); (case hg => rfl); (case hr => first | (go_simp; done) | (go_simp; rfl)); intro gb126 hg w5 hbox hb; have n0_ := qab.mk (qad (by repeat (first | (with_reducible first | exact HB.out | apply qag | apply qaf | apply qah) | exact HB.out)) hb); have n1_ := qab.mk (hbox); have n2_ := qab.mk ((by rw [hg]; exact (qar (by repeat (first | (with_reducible first | exact HB.out | apply qag | apply qaf | apply qah) | exact HB.out))) : w.heap.size ≤ gb126)); have n3_ := qab.mk ((by rw [hg]; exact (qar (by repeat (first | (with_reducible first | exact HB.out | apply qag | apply qaf | apply qah) | exact HB.out))) : w.heap.size ≤ gb126)); clear HB; have HB := n0_; have BK126 := n1_; have GW126 := n2_; have GE126 := n3_; clear n0_ n1_ n2_ n3_; clear hb hbox hg; have hcz6_0 : w5.cell? ⟨gb126, 0, none⟩ = some (.slice A0_0 l0_0.length c0_0) := (qaa BK126.out 0).trans rfl; have hcz6_1 : w5.cell? ⟨gb126, 1, none⟩ = some (.slice A0_1 l0_1.length c0_1) := (qaa BK126.out 1).trans rfl; have hcz6_2 : w5.cell? ⟨gb126, 2, none⟩ = some (.slice A0_2 l0_2.length c0_2) := (qaa BK126.out 2).trans rfl; have hcz6_3 : w5.cell? ⟨gb126, 3, none⟩ = some (.int .i64 a0_3) := (qaa BK126.out 3).trans rfl; have hfz6_0 := qac BK126.out 0; have hfz6_1 := qac BK126.out 1; have hfz6_2 := qac BK126.out 2; have hfz6_3 := qac BK126.out 3) | ((with_reducible refine gate_callee (f := 77) rfl ?_); refine goesL_ (some 10) rfl rfl Try.func77 (by kernel_rfl) rfl #[.agg #[.slice A0_0 l0_0.length c0_0, .slice A0_1 l0_1.length c0_1, .slice A0_2 l0_2.length c0_2, .int .i64 a0_3], .int .i64 a1] rfl (by (try simp only [List.map_toArray, List.map_cons, List.map_nil]); first | done | rfl | (simp only [List.length_drop, List.length_take]; rfl)) ?_; (with_reducible refine (pipe_net_freezes.calls _ _ l0_0 _ _ l0_1 _ _ l0_2 a0_3 a1 t127 t128 _ ?side1 ?side2 ?side3 ?side4 ?side5 ?side6 A3.out).mono ?_); (case side1 => repeat (first | exact (Kd.qak HR0_0.out HB.out) | (with_reducible refine Kd.C_alloc ?_ _) | (with_reducible refine Kd.C_drewN ?_ _) | (with_reducible refine Kd.C_drew ?_))); (case side2 => exact HC0_0.out); (case side3 => repeat (first | exact (Kd.qak HR0_1.out HB.out) | (with_reducible refine Kd.C_alloc ?_ _) | (with_reducible refine Kd.C_drewN ?_ _) | (with_reducible refine Kd.C_drew ?_))); (case side4 => exact HC0_1.out); (case side5 => repeat (first | exact (Kd.qak HR0_2.out HB.out) | (with_reducible refine Kd.C_alloc ?_ _) | (with_reducible refine Kd.C_drewN ?_ _) | (with_reducible refine Kd.C_drew ?_))); (case side6 => exact HC0_2.out); rintro e w7 ⟨rfl, hb⟩; refine ⟨_, rfl, ?_⟩; have n0_ := qab.mk (qae (g := gb126) (o := .cells #[.slice A0_0 l0_0.length c0_0, .slice A0_1 l0_1.length c0_1, .slice A0_2 l0_2.length c0_2, .int .i64 a0_3] 99 (0, 0)) (by (with_reducible repeat (first | refine blk_drewN ?_ _ | refine blk_drew ?_ | refine qan ?_ _)); exact BK126.out) hb); have n1_ := qab.mk (qad (by repeat (first | (with_reducible first | exact HB.out | apply qag | apply qaf | apply qah | refine qai ?_ GE126.out) | exact HB.out)) hb); clear BK126; clear HB; have BK126 := n0_; have HB := n1_; clear n0_ n1_; (try clear hb); (try clear hb2); (try clear hk); (try clear hi)))
  go_ret
  exact ⟨by first | rfl | (simp [errW_none, errW_some] <;> rfl) | (simp [*, errW_none, errW_some] <;> rfl), by repeat (first | (with_reducible first | exact HB.out | apply qag | apply qaf | apply qah | refine qai ?_ GE126.out) | exact HB.out)⟩
 ·
  rw [if_neg c4] at H
  have c4b0 : decide (0 ≤ t127) = false := decide_eq_false c4
  clear c4
  obtain rfl := Option.some.inj H
  go_enter Try.func89, Try.ntmps89
  go_wp2_with (first | ((with_reducible refine qam (N := 2) rfl ?_); refine qal ?hg (N := 2) ?hd (cs := #[.slice A0_0 l0_0.length c0_0, .slice A0_1 l0_1.length c0_1, .slice A0_2 l0_2.length c0_2, .int .i64 a0_3]) (t := 99) ?hr ?_; (case hd => rfl); (case hg => rfl); (case hr => first | (go_simp; done) | (go_simp; rfl)); intro gb126 hg w8 hbox hb; have n0_ := qab.mk (qad (by repeat (first | (with_reducible first | exact HB.out | apply qag | apply qaf | apply qah) | exact HB.out)) hb); have n1_ := qab.mk (hbox); have n2_ := qab.mk ((by rw [hg]; exact (qar (by repeat (first | (with_reducible first | exact HB.out | apply qag | apply qaf | apply qah) | exact HB.out))) : w.heap.size ≤ gb126)); have n3_ := qab.mk ((by rw [hg]; exact (qar (by repeat (first | (with_reducible first | exact HB.out | apply qag | apply qaf | apply qah) | exact HB.out))) : w.heap.size ≤ gb126)); clear HB; have HB := n0_; have BK126 := n1_; have GW126 := n2_; have GE126 := n3_; clear n0_ n1_ n2_ n3_; clear hb hbox hg; have hcz9_0 : w8.cell? ⟨gb126, 0, none⟩ = some (.slice A0_0 l0_0.length c0_0) := (qaa BK126.out 0).trans rfl; have hcz9_1 : w8.cell? ⟨gb126, 1, none⟩ = some (.slice A0_1 l0_1.length c0_1) := (qaa BK126.out 1).trans rfl; have hcz9_2 : w8.cell? ⟨gb126, 2, none⟩ = some (.slice A0_2 l0_2.length c0_2) := (qaa BK126.out 2).trans rfl; have hcz9_3 : w8.cell? ⟨gb126, 3, none⟩ = some (.int .i64 a0_3) := (qaa BK126.out 3).trans rfl; have hfz9_0 := qac BK126.out 0; have hfz9_1 := qac BK126.out 1; have hfz9_2 := qac BK126.out 2; have hfz9_3 := qac BK126.out 3) | ((with_reducible refine gate_callee (f := 77) rfl ?_); refine goesL_ (some 10) rfl rfl Try.func77 (by kernel_rfl) rfl #[.agg #[.slice A0_0 l0_0.length c0_0, .slice A0_1 l0_1.length c0_1, .slice A0_2 l0_2.length c0_2, .int .i64 a0_3], .int .i64 a1] rfl (by (try simp only [List.map_toArray, List.map_cons, List.map_nil]); first | done | rfl | (simp only [List.length_drop, List.length_take]; rfl)) ?_; (with_reducible refine (pipe_net_freezes.calls _ _ l0_0 _ _ l0_1 _ _ l0_2 a0_3 a1 t127 t128 _ ?side1 ?side2 ?side3 ?side4 ?side5 ?side6 A3.out).mono ?_); (case side1 => repeat (first | exact (Kd.qak HR0_0.out HB.out) | (with_reducible refine Kd.C_alloc ?_ _) | (with_reducible refine Kd.C_drewN ?_ _) | (with_reducible refine Kd.C_drew ?_))); (case side2 => exact HC0_0.out); (case side3 => repeat (first | exact (Kd.qak HR0_1.out HB.out) | (with_reducible refine Kd.C_alloc ?_ _) | (with_reducible refine Kd.C_drewN ?_ _) | (with_reducible refine Kd.C_drew ?_))); (case side4 => exact HC0_1.out); (case side5 => repeat (first | exact (Kd.qak HR0_2.out HB.out) | (with_reducible refine Kd.C_alloc ?_ _) | (with_reducible refine Kd.C_drewN ?_ _) | (with_reducible refine Kd.C_drew ?_))); (case side6 => exact HC0_2.out); rintro e w10 ⟨rfl, hb⟩; refine ⟨_, rfl, ?_⟩; have n0_ := qab.mk (qae (g := gb126) (o := .cells #[.slice A0_0 l0_0.length c0_0, .slice A0_1 l0_1.length c0_1, .slice A0_2 l0_2.length c0_2, .int .i64 a0_3] 99 (0, 0)) (by (with_reducible repeat (first | refine blk_drewN ?_ _ | refine blk_drew ?_ | refine qan ?_ _)); exact BK126.out) hb); have n1_ := qab.mk (qad (by repeat (first | (with_reducible first | exact HB.out | apply qag | apply qaf | apply qah | refine qai ?_ GE126.out) | exact HB.out)) hb); clear BK126; clear HB; have BK126 := n0_; have HB := n1_; clear n0_ n1_; (try clear hb); (try clear hb2); (try clear hk); (try clear hi); have hcz11_0 : w10.cell? ⟨gb126, 0, none⟩ = some (.slice A0_0 l0_0.length c0_0) := (qaa BK126.out 0).trans rfl; have hcz11_1 : w10.cell? ⟨gb126, 1, none⟩ = some (.slice A0_1 l0_1.length c0_1) := (qaa BK126.out 1).trans rfl; have hcz11_2 : w10.cell? ⟨gb126, 2, none⟩ = some (.slice A0_2 l0_2.length c0_2) := (qaa BK126.out 2).trans rfl; have hcz11_3 : w10.cell? ⟨gb126, 3, none⟩ = some (.int .i64 a0_3) := (qaa BK126.out 3).trans rfl; have hfz11_0 := qac BK126.out 0; have hfz11_1 := qac BK126.out 1; have hfz11_2 := qac BK126.out 2; have hfz11_3 := qac BK126.out 3))
  go_ret
  exact ⟨by first | rfl | (simp [errW_none, errW_some] <;> rfl) | (simp [*, errW_none, errW_some] <;> rfl), by repeat (first | (with_reducible first | exact HB.out | apply qag | apply qaf | apply qah | refine qai ?_ GE126.out) | exact HB.out)⟩
theorem eqA123 (d : Nat) (w : World) (a b : Sp) : (Op.equalIn (d + 2) 123 (spV a) (spV b)).run Try.prog w = .ok (a.p == b.p && (a.h == b.h && (a.r == b.r))) w := by
 refine eqA_of Try.underlying123 (by kernel_rfl) ?_
 refine eqf_cons (by rfl) (by go_simp; rfl) (by go_simp; rfl) (by go_simp) ?_
 refine eqf_cons (by rfl) (by go_simp; rfl) (by go_simp; rfl) (by go_simp) ?_
 exact eqf_last (by rfl) (by go_simp; rfl) (by go_simp; rfl) (by go_simp)
theorem eq123 (w : World) (a b : Sp) : (Op.equal 123 (spV a) (spV b)).run Try.prog w = .ok (decide (a = b)) w := by
 have h := eqA123 9998 w a b
 have e : (a.p == b.p && (a.h == b.h && (a.r == b.r))) = decide (a = b) := by
  rw [Bool.eq_iff_iff]
  simp only [Bool.and_eq_true, beq_iff_eq, decide_eq_true_eq]
  constructor
  ·
   rintro ⟨h1, h2, h3⟩
   cases a; cases b; simp_all
  ·
   rintro rfl
   exact ⟨rfl, rfl, rfl⟩
 rw [e] at h
 exact h
structure KeyKind (κ : Type) [DecidableEq κ] where
 t : TypeId
 enc : κ → Value
 inj : ∀ a b, enc a = enc b → a = b
 check : ∀ (w : World) (em : Bool) (a : κ), (Instr.checkKey em 10000 t (enc a)).run Try.prog w = .ok () w
 find : ∀ (w : World) (a : κ) (es : List MapEntry) (ks : List κ), es.map (·.key) = ks.map enc → (Instr.findKey t (enc a) es).run Try.prog w = .ok ((ks.findIdx? (· == a)).bind fun i => (es[i]?).map fun e => (i, e.val)) w
 stays : ∀ (w : World) (a : κ), (Instr.keyThatStays (enc a) (enc a)).run Try.prog w = .ok (enc a) w
theorem findAsking_run {κ : Type} [DecidableEq κ] (t : TypeId) (enc : κ → Value) (hEq : ∀ (w : World) (a b : κ), (Op.equal t (enc a) (enc b)).run Try.prog w = .ok (decide (a = b)) w) (w : World) (a : κ) :
  ∀ (es : List MapEntry) (ks : List κ) (j : Nat), es.map (·.key) = ks.map enc → (Instr.findAsking t (enc a) es j).run Try.prog w = .ok ((ks.findIdx? (· == a)).bind fun i => (es[i]?).map fun e => (i + j, e.val)) w := by
 intro es
 induction es with
 | nil =>
  intro ks j h
  cases ks with
  | nil => rfl
  | cons k t => cases h
 | cons e es ih =>
  intro ks j h
  cases ks with
  | nil => cases h
  | cons k ks =>
   simp only [List.map_cons, List.cons.injEq] at h
   unfold Instr.findAsking
   have hrun := hEq w a k
   rw [← h.1] at hrun
   simp only [Sem.run_bind, hrun, Result.andThen_ok]
   by_cases hk : a = k
   ·
    subst hk
    simp [List.findIdx?_cons]
   ·
    have hk' : (k == a) = false := by simp [Ne.symm hk]
    simp only [hk, decide_false, Bool.false_eq_true, if_false, ih ks (j + 1) h.2, List.findIdx?_cons, hk', cond_false]
    cases List.findIdx? (· == a) ks with
    | none => rfl
    | some i => simp [Nat.add_assoc, Nat.add_comm 1 j]
theorem check123 (w : World) (em : Bool) (p h r : Int) : (Instr.checkKey em 10000 123 (.agg #[.int .i64 p, .int .i64 h, .int .i64 r])).run Try.prog w = .ok () w := by kernel_rfl
def spotKey : KeyKind Sp where
 t := 123
 enc := spV
 inj a b h := by
  cases a; cases b
  simp only [spV, Value.agg.injEq, Array.mk.injEq, List.cons.injEq, Value.int.injEq, true_and, and_true] at h
  simp [h]
 check w em a := by
  obtain ⟨p, h, r⟩ := a
  exact check123 w em p h r
 find w a es ks h := by
  unfold Instr.findKey
  have hu := Try.underlying123
  have hF := findAsking_run 123 spV eq123 w a es ks 0 h
  cases es with
  | nil =>
   cases ks with
   | nil => simp [go_sem, hu, Instr.findNow]
   | cons k t => cases h
  | cons e es =>
   have : Instr.findNow (.struct #[{ name := "place", type := 3, offset := 0, embedded := false, tag := "", pkgPath := "talik/pipe", byteOffset := 0 }, { name := "hours", type := 3, offset := 1, embedded := false, tag := "", pkgPath := "talik/pipe", byteOffset := 8 }, { name := "rest", type := 3, offset := 2, embedded := false, tag := "", pkgPath := "talik/pipe", byteOffset := 16 }]) (spV a) (e :: es) 0 = none := rfl
   simp only [Sem.run_bind, run_underlying hu, Result.andThen_ok, this]
   exact hF
 stays w a := by
  have : Instr.sameBits 10000 (spV a) (spV a) = true := by simp [Instr.sameBits, spV]
  simp [Instr.keyThatStays, this]
def intKey : KeyKind Int where
 t := 3
 enc := .int .i64
 inj a b h := by injection h
 check w em a := by
  have h3 := Try.underlying3
  unfold Instr.checkKey
  simp [go_sem, h3]
 find w a es ks h := by
  unfold Instr.findKey
  have hu := Try.underlying3
  have key : ∀ (es : List MapEntry) (ks : List Int) (j : Nat), es.map (·.key) = ks.map (Value.int .i64) → Instr.findNow (.int .i64) (.int .i64 a) es j = some ((ks.findIdx? (· == a)).bind fun i => (es[i]?).map fun e => (i + j, e.val)) := by
   intro es
   induction es with
   | nil =>
    intro ks j h
    cases ks with
    | nil => rfl
    | cons k t => cases h
   | cons e es ih =>
    intro ks j h
    cases ks with
    | nil => cases h
    | cons k ks =>
     simp only [List.map_cons, List.cons.injEq] at h
     unfold Instr.findNow
     rw [h.1]
     by_cases hk : a = k
     ·
      subst hk
      simp [Instr.sameNow, List.findIdx?_cons]
     ·
      have hk' : (k == a) = false := by simp [Ne.symm hk]
      have hk2 : (a == k) = false := by simp [hk]
      simp only [Instr.sameNow, if_true, hk2, ih ks (j + 1) h.2, List.findIdx?_cons, hk', cond_false, Bool.false_eq_true, if_false]
      cases List.findIdx? (· == a) ks with
      | none => rfl
      | some i => simp [Nat.add_assoc, Nat.add_comm 1 j]
  simp only [Sem.run_bind, run_underlying hu, Result.andThen_ok, key es ks 0 h]
  rfl
 stays w a := by
  have : Instr.sameBits 10000 (.int .i64 a) (.int .i64 a) = true := by simp [Instr.sameBits]
  simp [Instr.keyThatStays, this]
def MapIs {κ : Type} [DecidableEq κ] (K : KeyKind κ) (W : World) (b : Nat) (I : κ → Value → Prop) (has : κ → Prop) : Prop :=
 ∃ (es : Array MapEntry) (clock : Nat) (ks : List κ), W.heap[b]? = some (.map es clock) ∧ es.toList.map (·.key) = ks.map K.enc ∧ ks.Nodup ∧ (∀ (i : Nat) (k : κ) (e : MapEntry), ks[i]? = some k → es.toList[i]? = some e → I k e.val) ∧ (∀ k, has k → k ∈ ks)
section
variable {κ : Type} [DecidableEq κ] {K : KeyKind κ} {W W' : World} {b : Nat} {I I' : κ → Value → Prop} {has has' : κ → Prop}
theorem MapIs.imp (h : MapIs K W b I has) (hI : ∀ k v, I k v → I' k v) (hh : ∀ k, has' k → has k) : MapIs K W b I' has' := by
 obtain ⟨es, clock, ks, h1, h2, h3, h4, h5⟩ := h
 exact ⟨es, clock, ks, h1, h2, h3, fun i k e a c => hI _ _ (h4 i k e a c), fun k hk => h5 k (hh k hk)⟩
theorem MapIs.at (h : MapIs K W b I has) (hb : W'.heap[b]? = W.heap[b]?) : MapIs K W' b I has := by
 obtain ⟨es, clock, ks, h1, h2⟩ := h
 exact ⟨es, clock, ks, hb.trans h1, h2⟩
theorem MapIs.lt (h : MapIs K W b I has) : b < W.heap.size := by
 obtain ⟨es, clock, ks, h1, h2⟩ := h
 exact blk_lt h1
theorem MapIs.noCells (h : MapIs K W b I has) {cs : Array Value} {t : TypeId} {g : Nat} (hg : W.heap[g]? = some (.cells cs t (0, 0))) : g ≠ b := by
 obtain ⟨es, clock, ks, h1, h2⟩ := h
 rintro rfl
 rw [hg] at h1
 cases h1
theorem MapIs.look (h : MapIs K W b I has) {t el : TypeId} (ht : Try.prog.underlying t = some (.map K.t el)) {z : Value} (hz : (zeroValue el).run Try.prog W = .ok z W) (a : κ) :
  (∃ v, I a v ∧ (Instr.lookup t (.map (some b)) (K.enc a) true).run Try.prog W = .ok (.tuple #[v, .bool true]) W ∧ (Instr.lookup t (.map (some b)) (K.enc a) false).run Try.prog W = .ok v W) ∨
  (¬ has a ∧ (Instr.lookup t (.map (some b)) (K.enc a) true).run Try.prog W = .ok (.tuple #[z, .bool false]) W ∧ (Instr.lookup t (.map (some b)) (K.enc a) false).run Try.prog W = .ok z W) := by
 obtain ⟨es, clock, ks, h1, h2, h3, h4, h5⟩ := h
 have hf := K.find W a es.toList ks h2
 have hlen : es.size = ks.length := by have := congrArg List.length h2; simpa using this
 have hg := MapKept.run_getObj_map (P := Try.prog) h1
 cases hx : ks.findIdx? (· == a) with
 | none =>
  rw [hx, Option.bind_none] at hf
  right
  refine ⟨fun hh => ?_, ?_, ?_⟩
  ·
   rw [List.findIdx?_eq_none_iff] at hx
   have := hx a (h5 a hh)
   simp at this
  ·
   simp [Instr.lookup, run_underlying ht, hg, K.check, hf, hz]
  ·
   simp [Instr.lookup, run_underlying ht, hg, K.check, hf, hz]
 | some i =>
  rw [List.findIdx?_eq_some_iff_getElem] at hx
  obtain ⟨hi, hk, _⟩ := hx
  have hk' : ks[i] = a := by simpa using hk
  have hi' : i < es.toList.length := by simpa [hlen] using hi
  left
  refine ⟨es.toList[i].val, ?_, ?_, ?_⟩
  ·
   exact h4 i a _ (by rw [List.getElem?_eq_getElem hi, hk']) (List.getElem?_eq_getElem hi')
  ·
   have hx2 : ks.findIdx? (· == a) = some i := by
    rw [List.findIdx?_eq_some_iff_getElem]
    refine ⟨hi, hk, fun j hj => ?_⟩
    have := (List.nodup_iff_pairwise_ne.1 h3)
    rw [List.pairwise_iff_getElem] at this
    have hne := this j i (by omega) hi hj
    rw [hk'] at hne
    simpa using hne
   rw [hx2, Option.bind_some, List.getElem?_eq_getElem hi', Option.map_some] at hf
   simp [Instr.lookup, run_underlying ht, hg, K.check, hf]
  ·
   have hx2 : ks.findIdx? (· == a) = some i := by
    rw [List.findIdx?_eq_some_iff_getElem]
    refine ⟨hi, hk, fun j hj => ?_⟩
    have := (List.nodup_iff_pairwise_ne.1 h3)
    rw [List.pairwise_iff_getElem] at this
    have hne := this j i (by omega) hi hj
    rw [hk'] at hne
    simpa using hne
   rw [hx2, Option.bind_some, List.getElem?_eq_getElem hi', Option.map_some] at hf
   simp [Instr.lookup, run_underlying ht, hg, K.check, hf]
theorem MapIs.looks (h : MapIs K W b I has) {t el : TypeId} (ht : Try.prog.underlying t = some (.map K.t el)) {z : Value} (hz : ∀ W', (zeroValue el).run Try.prog W' = .ok z W') (a : κ) :
  (∃ v, I a v ∧ ∀ W' : World, W'.heap[b]? = W.heap[b]? → (Instr.lookup t (.map (some b)) (K.enc a) true).run Try.prog W' = .ok (.tuple #[v, .bool true]) W') ∨
  (∀ W' : World, W'.heap[b]? = W.heap[b]? → (Instr.lookup t (.map (some b)) (K.enc a) true).run Try.prog W' = .ok (.tuple #[z, .bool false]) W') := by
 obtain ⟨es, clock, ks, h1, h2, h3, h4, h5⟩ := h
 have hf := fun W' => K.find W' a es.toList ks h2
 have hlen : es.size = ks.length := by have := congrArg List.length h2; simpa using this
 have hg := fun (W' : World) (e : W'.heap[b]? = W.heap[b]?) => MapKept.run_getObj_map (P := Try.prog) (e.trans h1)
 cases hx : ks.findIdx? (· == a) with
 | none =>
  rw [hx] at hf
  right
  intro W' e
  have hf' := hf W'
  rw [Option.bind_none] at hf'
  simp [Instr.lookup, run_underlying ht, hg W' e, K.check, hf', hz]
 | some i =>
  have hx2 := hx
  rw [List.findIdx?_eq_some_iff_getElem] at hx
  obtain ⟨hi, hk, _⟩ := hx
  have hk' : ks[i] = a := by simpa using hk
  have hi' : i < es.toList.length := by simpa [hlen] using hi
  left
  refine ⟨es.toList[i].val, h4 i a _ (by rw [List.getElem?_eq_getElem hi, hk']) (List.getElem?_eq_getElem hi'), fun W' e => ?_⟩
  have hf' := hf W'
  rw [hx2, Option.bind_some, List.getElem?_eq_getElem hi', Option.map_some] at hf'
  simp [Instr.lookup, run_underlying ht, hg W' e, K.check, hf']
theorem MapIs.update (h : MapIs K W b I has) {t el : TypeId} (ht : Try.prog.underlying t = some (.map K.t el)) (a : κ) (v : Value) :
  ∃ W', (Instr.mapUpdate t (.map (some b)) (K.enc a) v).run Try.prog W = .ok () W' ∧ W.grownBy W' (some b) ∧ MapIs K W' b (fun k u => (k = a ∧ u = v) ∨ (k ≠ a ∧ I k u)) (fun k => k = a ∨ has k) := by
 obtain ⟨es, clock, ks, h1, h2, h3, h4, h5⟩ := h
 have hf := K.find W a es.toList ks h2
 have hlen : es.size = ks.length := by have := congrArg List.length h2; simpa using this
 have hg := MapKept.run_getObj_map (P := Try.prog) h1
 have hgrow : ∀ o, W.grownBy (ChangeMaps.setBlock W b o) (some b) := fun o => ⟨rfl, rfl, rfl, by simp [ChangeMaps.setBlock], fun i _ hi => ChangeMaps.heap_setBlock_other h1 _ (fun e => hi (by rw [e]))⟩
 cases hx : ks.findIdx? (· == a) with
 | none =>
  rw [hx, Option.bind_none] at hf
  have hna : a ∉ ks := by
   intro ha
   rw [List.findIdx?_eq_none_iff] at hx
   have := hx a ha
   simp at this
  refine ⟨ChangeMaps.setBlock W b (.map (es.push { key := K.enc a, val := v, born := clock }) (clock + 1)), ?_, hgrow _, es.push { key := K.enc a, val := v, born := clock }, clock + 1, ks ++ [a], ChangeMaps.heap_setBlock_same h1 _, by simp [h2], ?_, ?_, ?_⟩
  ·
   simp [Instr.mapUpdate, run_underlying ht, hg, K.check, hf, MapKept.run_setObj_map _ h1, ChangeMaps.setBlock]
  ·
   rw [List.nodup_append]
   exact ⟨h3, by simp, fun x hxm y hy => by simp at hy; subst hy; intro e; exact hna (e ▸ hxm)⟩
  ·
   intro i k e hk he
   rcases Nat.lt_or_ge i ks.length with hi | hi
   ·
    rw [List.getElem?_append_left hi] at hk
    rw [Array.toList_push, List.getElem?_append_left (by simpa [hlen] using hi)] at he
    exact .inr ⟨fun e => hna (e ▸ List.mem_of_getElem? hk), h4 i k e hk he⟩
   ·
    rw [List.getElem?_append_right hi] at hk
    rw [Array.toList_push, List.getElem?_append_right (by simpa [hlen] using hi)] at he
    simp only [Array.length_toList, hlen] at he
    cases hd : i - ks.length with
    | zero =>
     rw [hd] at hk he
     simp at hk he
     exact .inl ⟨hk.symm, by rw [← he]⟩
    | succ n =>
     rw [hd] at hk
     simp at hk
  ·
   rintro k (rfl | hk)
   ·
    simp
   ·
    exact List.mem_append_left _ (h5 k hk)
 | some i =>
  have hx2 := hx
  rw [List.findIdx?_eq_some_iff_getElem] at hx
  obtain ⟨hi, hk, _⟩ := hx
  have hk' : ks[i] = a := by simpa using hk
  have hi' : i < es.toList.length := by simpa [hlen] using hi
  have hi2 : i < es.size := by simpa using hi'
  rw [hx2, Option.bind_some, List.getElem?_eq_getElem hi', Option.map_some] at hf
  have hkey : (es[i]?.map (·.key)).getD (K.enc a) = K.enc a := by
   have e1 : (es.toList.map (·.key))[i]? = (ks.map K.enc)[i]? := by rw [h2]
   rw [List.getElem?_map, List.getElem?_map, List.getElem?_eq_getElem hi, hk'] at e1
   rw [← Array.getElem?_toList, e1]
   rfl
  refine ⟨ChangeMaps.setBlock W b (.map (es.modify i fun e => { e with key := K.enc a, val := v }) clock), ?_, hgrow _, es.modify i fun e => { e with key := K.enc a, val := v }, clock, ks, ChangeMaps.heap_setBlock_same h1 _, ?_, h3, ?_, ?_⟩
  ·
   simp [Instr.mapUpdate, run_underlying ht, hg, K.check, hf, MapKept.run_setObj_map _ h1, ChangeMaps.setBlock, hkey, K.stays]
  ·
   rw [Array.toList_modify, ← h2]
   apply List.ext_getElem?
   intro j
   rw [List.getElem?_map, List.getElem?_map, List.getElem?_modify]
   split
   ·
    rename_i hj
    subst hj
    rw [List.getElem?_eq_getElem hi']
    have e1 : (es.toList.map (·.key))[i]? = (ks.map K.enc)[i]? := by rw [h2]
    rw [List.getElem?_map, List.getElem?_map, List.getElem?_eq_getElem hi, hk', List.getElem?_eq_getElem hi'] at e1
    simp only [Option.map_some, Option.some.injEq] at e1
    simpa using e1.symm
   ·
    simp
  ·
   intro j k e hkj he
   rw [Array.toList_modify, List.getElem?_modify] at he
   split at he
   ·
    rename_i hj
    subst hj
    rw [List.getElem?_eq_getElem hi] at hkj
    rw [List.getElem?_eq_getElem hi'] at he
    simp only [Option.map_eq_map, Option.map_some, Option.some.injEq] at he hkj
    exact .inl ⟨by rw [← hkj, hk'], by rw [← he]⟩
   ·
    rename_i hj
    have he2 : es.toList[j]? = some e := by simpa using he
    refine .inr ⟨fun e1 => hj ?_, h4 j k e hkj he2⟩
    subst e1
    have hjl : j < ks.length := (List.getElem?_eq_some_iff.1 hkj).1
    have e2 : ks[j] = ks[i] := by rw [hk']; rw [List.getElem?_eq_getElem hjl] at hkj; injection hkj
    have hp := List.nodup_iff_pairwise_ne.1 h3
    rw [List.pairwise_iff_getElem] at hp
    rcases Nat.lt_trichotomy i j with h | h | h
    ·
     exact absurd e2.symm (hp i j hi hjl h)
    ·
     exact h
    ·
     exact absurd e2 (hp j i hjl hi h)
  ·
   rintro k (rfl | hk)
   ·
    rw [← hk']; exact List.getElem_mem _
   ·
    exact h5 k hk
end
structure OE where
 w0 : World
 A0 : Option Addr
 c0 : Nat
 l0 : List S39
 A1 : Option Addr
 c1 : Nat
 l1 : List S37
 A2 : Option Addr
 c2 : Nat
 l2 : List (List Int)
 wp : Int
 Bn : Nat
 Bk : Nat
 Bd : Nat
 Bs : Nat
 m : Nat
 Ad : Option Addr
 cd : Nat
 D : List Int
def OE.S (E : OE) (s : Sp) : Way := bestV E.l0 E.l1 E.l2 E.D s
structure OE.Fit (E : OE) : Prop where
 r0 : Kd.C k39 E.w0 E.A0 E.l0.length E.l0
 r1 : Kd.C k37 E.w0 E.A1 E.l1.length E.l1
 r2 : Kd.C (Kd.slice 3 (Kd.int .i64)) E.w0 E.A2 E.l2.length E.l2
 h5 : E.l0.length ≤ 5
 hD : E.D.length = E.l0.length
 h2 : E.l2.length = E.l0.length + 1
 hrow : ∀ p : Int, 0 ≤ p → p ≤ E.l0.length → (rd_L1 E.l2 p).length = E.l0.length + 1
 bn : E.w0.heap.size ≤ E.Bn
 bk : E.w0.heap.size ≤ E.Bk
 bd : E.w0.heap.size ≤ E.Bd
 bs : E.w0.heap.size ≤ E.Bs
 bm : E.w0.heap.size ≤ E.m
abbrev NETC (E : OE) : Array Value := #[.slice E.A0 E.l0.length E.c0, .slice E.A1 E.l1.length E.c1, .slice E.A2 E.l2.length E.c2, .int .i64 E.wp]
abbrev SEARCHF (E : OE) : Value := .func (.func 90) #[] #[.pointer (some ⟨E.Bn, 0, none⟩), .pointer (some ⟨E.Bk, 0, none⟩), .pointer (some ⟨E.Bd, 0, none⟩), .pointer (some ⟨E.Bs, 0, none⟩)]
abbrev OE.Row (E : OE) (A : Nat → Prop) (W : World) (v : Value) (l : List Int) : Prop := Kd.R (Kd.int .i64) 3 W E.w0.heap.size (fun k => k ≠ E.m ∧ ¬ A k) v l
structure EnvInv (E : OE) (A : Nat → Prop) (W : World) : Prop where
 an : ¬ A E.Bn
 ak : ¬ A E.Bk
 ad : ¬ A E.Bd
 as_ : ¬ A E.Bs
 am : ¬ A E.m
 lo : ∀ k, A k → E.w0.heap.size ≤ k
 xn : W.heap[E.Bn]? = some (.cells (NETC E) 99 (0, 0))
 xk : W.heap[E.Bk]? = some (.cells #[.map (some E.m)] 120 (0, 0))
 xd : W.heap[E.Bd]? = some (.cells #[.slice E.Ad E.D.length E.cd] 47 (0, 0))
 xs : W.heap[E.Bs]? = some (.cells #[SEARCHF E] 121 (0, 0))
 hb : Below E.w0.heap.size E.w0 W
 due : E.Row A W (.slice E.Ad E.D.length E.cd) E.D
 map : MapIs spotKey W E.m (fun s u => OkS s ∧ ∃ v, u = .agg #[v, .int .i64 (E.S s).2.1, .bool (E.S s).2.2] ∧ E.Row A W v (E.S s).1) (fun _ => False)
section
variable {E : OE} {A A' : Nat → Prop} {W W' : World}
theorem EnvInv.imp (h : EnvInv E A W) (hA : ∀ k, A' k → E.w0.heap.size ≤ k ∧ (A k ∨ W.heap.size ≤ k)) : EnvInv E A' W := by
 have hn : ∀ {g o}, W.heap[g]? = some o → ¬ A g → ¬ A' g := fun hg hn hk => by
  rcases (hA _ hk).2 with h1 | h1
  ·
   exact hn h1
  ·
   have := blk_lt hg
   omega
 have hR : ∀ v l, E.Row A W v l → E.Row A' W v l := fun v l hr => Kd.R_mono (Kd.R_bound hr) (fun k hk => ⟨hk.1.1, fun ha => by
  rcases (hA _ ha).2 with h1 | h1
  ·
   exact hk.1.2 h1
  ·
   have := hk.2.2.1
   omega⟩)
 refine ⟨hn h.xn h.an, hn h.xk h.ak, hn h.xd h.ad, hn h.xs h.as_, ?_, fun k hk => (hA k hk).1, h.xn, h.xk, h.xd, h.xs, h.hb, hR _ _ h.due, h.map.imp (fun s u hu => ⟨hu.1, hu.2.imp fun v hv => ⟨hv.1, hR _ _ hv.2⟩⟩) (fun _ hk => hk)⟩
 intro hk
 rcases (hA _ hk).2 with h1 | h1
 ·
  exact h.am h1
 ·
  have := h.map.lt
  omega
theorem EnvInv.step (h : EnvInv E A W) (hk : KB A W W') : EnvInv E A W' := by
 have hR : ∀ v l, E.Row A W v l → E.Row A W' v l := fun v l hr => hk.R hr (fun k hk => hk.2)
 exact ⟨h.an, h.ak, h.ad, h.as_, h.am, h.lo, hk.blk h.xn h.an, hk.blk h.xk h.ak, hk.blk h.xd h.ad, hk.blk h.xs h.as_,
  ⟨hk.os.trans h.hb.os, hk.tape.trans h.hb.tape, hk.output.trans h.hb.output, Nat.le_trans h.hb.size hk.size, fun k hlt => (hk.block k (Nat.lt_of_lt_of_le hlt h.hb.size) (fun ha => by have := h.lo k ha; omega)).trans (h.hb.block k hlt)⟩,
  hR _ _ h.due, (h.map.at (hk.block _ h.map.lt h.am)).imp (fun s u hu => ⟨hu.1, hu.2.imp fun v hv => ⟨hv.1, hR _ _ hv.2⟩⟩) (fun _ hk => hk)⟩
theorem EnvInv.own' {row : Option Nat} (h : EnvInv E A W) (hg : W.grownBy W' row) (hr : ∀ r, row = some r → E.w0.heap.size ≤ r ∧ r ≠ E.m ∧ ∃ o : Obj, W.heap[r]? = some o ∧ o.isCells = false) : EnvInv E A W' := by
 have hR : ∀ v l, E.Row A W v l → E.Row A W' v l := fun v l hv => by
  refine Kd.R_mono (Kd.R_step (Kd.R_bound hv) (fun k hk hlt => hg.block k hlt (fun e => ?_))) (fun k hk => hk.1)
  obtain ⟨q, _, cells, hc⟩ := hk.2.2.2
  obtain ⟨_, _, o, ho, hn⟩ := hr k e.symm
  rw [hc] at ho
  injection ho with ho
  subst ho
  cases hn
 have hr' : ∀ r, row = some r → E.w0.heap.size ≤ r ∧ ∃ o : Obj, W.heap[r]? = some o ∧ o.isCells = false := fun r e => ⟨(hr r e).1, (hr r e).2.2⟩
 refine ⟨h.an, h.ak, h.ad, h.as_, h.am, h.lo, blk_own h.xn hg hr', blk_own h.xk hg hr', blk_own h.xd hg hr', blk_own h.xs hg hr',
  ⟨hg.os.trans h.hb.os, hg.tape.trans h.hb.tape, hg.output.trans h.hb.output, Nat.le_trans h.hb.size hg.size, fun k hlt => (hg.block k (Nat.lt_of_lt_of_le hlt h.hb.size) (fun e => by have := (hr k e.symm).1; omega)).trans (h.hb.block k hlt)⟩,
  hR _ _ h.due, (h.map.at (hg.block _ h.map.lt (fun e => (hr _ e.symm).2.1 rfl))).imp (fun s u hu => ⟨hu.1, hu.2.imp fun v hv => ⟨hv.1, hR _ _ hv.2⟩⟩) (fun _ hk => hk)⟩
theorem EnvInv.own {B : Nat} (hB : E.w0.heap.size ≤ B) (hm : E.m < B) {row : Option Nat} (h : EnvInv E A W) (hg : W.grownBy W' row) (hr : ∀ r, row = some r → B ≤ r ∧ ∃ o : Obj, W.heap[r]? = some o ∧ o.isCells = false) : EnvInv E A W' :=
 h.own' hg (fun r e => ⟨by have := (hr r e).1; omega, by have := (hr r e).1; omega, (hr r e).2⟩)
theorem EnvInv.put (h : EnvInv E A W) (hg : W.grownBy W' (some E.m)) {s : Sp} {u v : Value} (hs : OkS s) (hu : u = .agg #[v, .int .i64 (E.S s).2.1, .bool (E.S s).2.2]) (hv : E.Row A W v (E.S s).1) (bm : E.w0.heap.size ≤ E.m)
  (hm : MapIs spotKey W' E.m (fun k x => (k = s ∧ x = u) ∨ (k ≠ s ∧ OkS k ∧ ∃ v, x = .agg #[v, .int .i64 (E.S k).2.1, .bool (E.S k).2.2] ∧ E.Row A W v (E.S k).1)) (fun k => k = s ∨ False)) : EnvInv E A W' := by
 have hR : ∀ v l, E.Row A W v l → E.Row A W' v l := fun v l hr => Kd.R_grown hr hg (fun k hk e => hk.1 (by injection e))
 refine ⟨h.an, h.ak, h.ad, h.as_, h.am, h.lo, blk_grown h.xn hg (fun e => h.map.noCells h.xn (by injection e)), blk_grown h.xk hg (fun e => h.map.noCells h.xk (by injection e)), blk_grown h.xd hg (fun e => h.map.noCells h.xd (by injection e)), blk_grown h.xs hg (fun e => h.map.noCells h.xs (by injection e)),
  ⟨hg.os.trans h.hb.os, hg.tape.trans h.hb.tape, hg.output.trans h.hb.output, Nat.le_trans h.hb.size hg.size, fun k hlt => (hg.block k (Nat.lt_of_lt_of_le hlt h.hb.size) (fun e => by injection e with e; omega)).trans (h.hb.block k hlt)⟩,
  hR _ _ h.due, hm.imp (fun k x hx => ?_) (fun _ hk => hk.elim)⟩
 rcases hx with ⟨rfl, rfl⟩ | ⟨_, hk, w, hw, hr⟩
 ·
  exact ⟨hs, v, hu, hR _ _ hv⟩
 ·
  exact ⟨hk, w, hw, hR _ _ hr⟩
end
def OE.At (E : OE) (s : Sp) : Prop := OkS s ∧ 0 ≤ s.p ∧ s.p ≤ E.l0.length ∧ ∀ i ∈ qaq s.r 5, i < E.l0.length
theorem OE.At.next {E : OE} {s : Sp} (h : E.At s) {i : Int} (hi : i ∈ qaq s.r 5) (hr : (repV E.l0 E.l2 E.D s i).2.2 = true) : E.At (repV E.l0 E.l2 E.D s i).1 ∧ cntB (repV E.l0 E.l2 E.D s i).1.r + 1 = cntB s.r := by
 have h1 := next_ok E.l0 E.l2 E.D s h.1 i hi hr
 refine ⟨⟨h1.1, ?_⟩, h1.2⟩
 rw [rep_next E.l0 E.l2 E.D s i hr]
 obtain ⟨k, rfl, hk, _⟩ := (mem_loopsOf s.r 5 i).1 hi
 have h2 := h.2.2.2 _ hi
 refine ⟨by show (0 : Int) ≤ k + 1; omega, by show (k : Int) + 1 ≤ _; omega, ?_⟩
 intro j hj
 have h3 := (rest_of s.r h.1.1 h.1.2 k hi).2.2
 have hj' : j ∈ qaq s.r 5 := by
  have : j ∈ qaq (bits .andNot .i64 s.r (wrap64 (2 ^ (k : Int).toNat))) 5 := hj
  rw [h3] at this
  exact (List.mem_filter.1 this).1
 exact h.2.2.2 j hj'
def SearchC (E : OE) (s : Sp) : Prop := ∀ A W, EnvInv E A W → (∀ k, A k → k < W.heap.size) →
 Calls Try.prog 90 #[spV s, .pointer (some ⟨E.Bn, 0, none⟩), .pointer (some ⟨E.Bk, 0, none⟩), .pointer (some ⟨E.Bd, 0, none⟩), .pointer (some ⟨E.Bs, 0, none⟩)] W fun e W' =>
  ∃ v, e = .returned (.agg #[v, .int .i64 (E.S s).2.1, .bool (E.S s).2.2]) ∧ E.Row A W' v (E.S s).1 ∧ EnvInv E A W' ∧ KB (fun k => k = E.m) W W'
theorem loops_calls (f : Int) (w : World) : Calls Try.prog 76 #[.int .i64 f] w fun e w' => ∃ B, e = .returned (.func (.func 97) #[] #[.pointer (some ⟨B, 0, none⟩)]) ∧ w'.heap[B]? = some (.cells #[.int .i64 f] 3 (0, 0)) ∧ w.heap.size ≤ B ∧ Below w.heap.size w w' := by
 have hmf : ∀ (fn : Fn) (first cap : Array Value) (w : World), (Instr.makeFunc fn first cap).run Try.prog w = .ok (.func fn first cap) w := fun _ _ _ _ => rfl
 have HB := qab.mk (Below.refl w.heap.size w)
 go_enter Try.func76, Try.ntmps76
 go_wp2_with ((with_reducible refine qam (N := 1) rfl ?_); refine qal ?hg (N := 1) ?hd (cs := #[.int .i64 f]) (t := 3) ?hr ?_; (case hd => rfl); (case hg => rfl); (case hr => first | (go_simp; done) | (go_simp; rfl)); intro gb hg_gb w2 hbox hb; have BKgb := qab.mk hbox; have n_HB := qab.mk (qad HB.out hb); have GEgb : w.heap.size ≤ gb := (by rw [hg_gb]; exact HB.out.size); clear HB; have HB := n_HB; clear n_HB; obtain ⟨hfgb, hcgb_0⟩ := qz1 BKgb.out; clear hbox hb hg_gb)
 go_ret
 exact ⟨gb, rfl, BKgb.out, GEgb, HB.out⟩
structure Inv91 (E : OE) (s : Sp) (gs gw mw : Nat) (A : Nat → Prop) (W : World) : Prop where
 env : EnvInv E A W
 as_ : ¬ A gs
 aw : ¬ A gw
 am : ¬ A mw
 xs : W.heap[gs]? = some (.cells #[.int .i64 s.p, .int .i64 s.h, .int .i64 s.r] 123 (0, 0))
 xw : W.heap[gw]? = some (.cells #[.map (some mw)] 125 (0, 0))
 map : MapIs intKey W mw (fun _ _ => True) (fun _ => False)
 ne : mw ≠ E.m
 lw : E.w0.heap.size ≤ mw
section
variable {E : OE} {s : Sp} {gs gw mw : Nat} {A A' : Nat → Prop} {W W' : World}
theorem Inv91.imp (h : Inv91 E s gs gw mw A W) (hA : ∀ k, A' k → E.w0.heap.size ≤ k ∧ (A k ∨ W.heap.size ≤ k)) : Inv91 E s gs gw mw A' W := by
 refine ⟨h.env.imp hA, fun hk => ?_, fun hk => ?_, fun hk => ?_, h.xs, h.xw, h.map, h.ne, h.lw⟩
 ·
  rcases (hA _ hk).2 with h1 | h1
  ·
   exact h.as_ h1
  ·
   have := blk_lt h.xs
   omega
 ·
  rcases (hA _ hk).2 with h1 | h1
  ·
   exact h.aw h1
  ·
   have := blk_lt h.xw
   omega
 ·
  rcases (hA _ hk).2 with h1 | h1
  ·
   exact h.am h1
  ·
   have := h.map.lt
   omega
theorem Inv91.step (h : Inv91 E s gs gw mw A W) (hk : KB A W W') : Inv91 E s gs gw mw A W' :=
 ⟨h.env.step hk, h.as_, h.aw, h.am, hk.blk h.xs h.as_, hk.blk h.xw h.aw, h.map.at (hk.block _ h.map.lt h.am), h.ne, h.lw⟩
theorem Inv91.after (h : Inv91 E s gs gw mw A W) (he : EnvInv E A W') (hk : KB (fun k => k = E.m) W W') : Inv91 E s gs gw mw A W' :=
 ⟨he, h.as_, h.aw, h.am, hk.blk h.xs (fun e => h.env.map.noCells h.xs e), hk.blk h.xw (fun e => h.env.map.noCells h.xw e), h.map.at (hk.block _ h.map.lt h.ne), h.ne, h.lw⟩
theorem Inv91.held {B : Nat} (hB : E.w0.heap.size ≤ B) (hm : E.m < B) (hmw : mw < B) : Held B (Inv91 E s gs gw mw) where
 mono A A' W hA h := h.imp (fun k hk => ⟨h.env.lo k (hA k hk), .inl (hA k hk)⟩)
 fresh A W h := h.imp (fun k hk => ⟨hk.elim (h.env.lo k) (fun x => Nat.le_trans h.env.hb.size x), hk⟩)
 step A W W' h hk := h.step hk
 own A W W' row h hg hr := ⟨h.env.own hB hm hg hr, h.as_, h.aw, h.am, blk_own h.xs hg hr, blk_own h.xw hg hr, h.map.at (hg.block _ h.map.lt (fun e => by have := (hr _ e.symm).1; omega)), h.ne, h.lw⟩
end
section
variable {P : Program} {ops : Array Oper} {o : Oper} {a : Act} {Q : Exit → Act → World → Prop} {Kc : Act → World → Prop} {W w1 : World}
theorem step_mapUpdate (hw : Region.wanted o (yielded ops a.tmps) = true) (t : TypeId) (m k v : Operand) (ho : o.op = .mapUpdate t m k v) (M K V : Value) (hm : a.eval m = M) (hk : a.eval k = K) (hv : a.eval v = V)
  (hrun : (Instr.mapUpdate t M K V).run P W = .ok () w1) (h : Kc (a.put o.dst undef) w1) : if Region.wanted o (yielded ops a.tmps) = true then Oper.wp P o a W Kc Q else Kc (a.put o.dst undef) W := by
 rw [if_pos hw]
 unfold Oper.wp
 simp [execOp, ho, hm, hk, hv, hrun, Result.andThen]
 exact h
end
theorem Inv91.put {E : OE} {s : Sp} {gs gw mw : Nat} {A : Nat → Prop} {W : World} (h : Inv91 E s gs gw mw A W) (x : Int) (u : Value) :
  ∃ W', (Instr.mapUpdate 125 (.map (some mw)) (.int .i64 x) u).run Try.prog W = .ok () W' ∧ Inv91 E s gs gw mw A W' ∧ KB (fun k => k = mw) W W' ∧ MapIs intKey W' mw (fun k v => k = x → v = u) (fun k => k = x) := by
 obtain ⟨W', hrun, hg, hm⟩ := h.map.update Try.underlying125 x u
 have hr : ∀ r, some mw = some r → E.w0.heap.size ≤ r ∧ r ≠ E.m ∧ ∃ o : Obj, W.heap[r]? = some o ∧ o.isCells = false := fun r e => by
  injection e with e
  subst e
  obtain ⟨es, clock, ks, h1, _⟩ := h.map
  exact ⟨h.lw, h.ne, _, h1, rfl⟩
 refine ⟨W', hrun, ⟨h.env.own' hg hr, h.as_, h.aw, h.am, blk_own h.xs hg (fun r e => ⟨(hr r e).1, (hr r e).2.2⟩), blk_own h.xw hg (fun r e => ⟨(hr r e).1, (hr r e).2.2⟩), hm.imp (fun _ _ _ => trivial) (fun _ hk => hk.elim), h.ne, h.lw⟩, (KB.of_grown hg).mono (fun k e => by injection e with e; exact e.symm), hm.imp (fun k v hk e => ?_) (fun k e => .inl e)⟩
 rcases hk with ⟨_, e1⟩ | ⟨e1, _⟩
 ·
  exact e1
 ·
  exact absurd e e1
theorem field97_1 (a b c : Value) (W : World) : (Instr.field 97 (.agg #[a, b, c]) 1).run Try.prog W = .ok b W := by kernel_rfl
theorem field97_2 (a b c : Value) (W : World) : (Instr.field 97 (.agg #[a, b, c]) 2).run Try.prog W = .ok c W := by kernel_rfl
theorem zero97 (W : World) : (zeroValue 97).run Try.prog W = .ok (.agg #[.slice none 0 0, .int .i64 0, .bool false]) W := by kernel_rfl
theorem of91_calls (E : OE) (hE : E.Fit) (s : Sp) (hs : E.At s) (gs gw mw : Nat) (IH : ∀ s', E.At s' → cntB s'.r < cntB s.r → SearchC E s') (x : Int) (hx : x ∈ qaq s.r 5) (A : Nat → Prop) (w : World) (hinv : Inv91 E s gs gw mw A w) (hA : ∀ k, A k → k < w.heap.size) :
  Calls Try.prog 91 #[.int .i64 x, .pointer (some ⟨E.Bn, 0, none⟩), .pointer (some ⟨gs, 0, none⟩), .pointer (some ⟨E.Bd, 0, none⟩), .pointer (some ⟨E.Bs, 0, none⟩), .pointer (some ⟨gw, 0, none⟩)] w fun e w' =>
   e = .returned (.tuple #[.int .i64 (ofV E.l0 E.l2 E.D E.S s x).1, .bool (ofV E.l0 E.l2 E.D E.S s x).2]) ∧ Inv91 E s gs gw mw A w' ∧ KB (fun k => k = E.m ∨ k = mw) w w' := by
 have hu99 := Try.underlying99
 have hu123 := Try.underlying123
 have hu26 := Try.underlying26
 have hx0 := (mem_loopsOf s.r 5 x).1 hx
 have hx5 := hs.2.2.2 x hx
 have hx05 : 0 ≤ x ∧ x < 5 := by
  obtain ⟨xk, hxk, hxk5, _⟩ := hx0
  omega
 clear hx0
 have hrep : Calls Try.prog 92 #[.agg (NETC E), .agg #[.int .i64 s.p, .int .i64 s.h, .int .i64 s.r], .int .i64 x, .slice E.Ad E.D.length E.cd] w fun e w' =>
   e = .returned (.tuple #[spV (repV E.l0 E.l2 E.D s x).1, .int .i64 (repV E.l0 E.l2 E.D s x).2.1, .bool (repV E.l0 E.l2 E.D s x).2.2]) ∧ Below w.heap.size w w' :=
  repaired_calls _ _ _ _ _ _ _ _ s x _ _ E.D w (Kd.qak hE.r0 hinv.env.hb) (Kd.qak hE.r2 hinv.env.hb) (Kd.R_reads' hinv.env.due).2.2 hs.2.1 (by have := hE.h2; have := hs.2.2.1; omega) (by omega) hx5 (by rw [hE.hrow s.p hs.2.1 hs.2.2.1]; omega) (by rw [hE.hD]; omega) (by omega)
 have hof : ofV E.l0 E.l2 E.D E.S s x = if (repV E.l0 E.l2 E.D s x).2.2 = true then (min (repV E.l0 E.l2 E.D s x).2.1 (E.S (repV E.l0 E.l2 E.D s x).1).2.1, (E.S (repV E.l0 E.l2 E.D s x).1).2.2) else (0, false) := rfl
 have HNX : qab ((repV E.l0 E.l2 E.D s x).2.2 = true → E.At (repV E.l0 E.l2 E.D s x).1 ∧ cntB (repV E.l0 E.l2 E.D s x).1.r < cntB s.r) := ⟨fun hr => by have h := hs.next hx hr; exact ⟨h.1, by omega⟩⟩
 rw [hof]
 clear hof
 generalize repV E.l0 E.l2 E.D s x = q at hrep HNX ⊢
 obtain ⟨⟨q0, q1, q2⟩, ow, can⟩ := q
 simp only [spV_eq] at hrep
 dsimp only at HNX ⊢
 have HB := qab.mk (Below.refl w.heap.size w)
 have HI := qab.mk hinv
 have HIH := qab.mk IH
 clear IH hx hs hE hinv
 have BKn := qab.mk HI.out.env.xn
 have BKd := qab.mk HI.out.env.xd
 have BKs := qab.mk HI.out.env.xs
 have BKp := qab.mk HI.out.xs
 have BKw := qab.mk HI.out.xw
 have hfn := qac BKn.out; have hcn_0 : w.cell? ⟨E.Bn, 0, none⟩ = some (.slice E.A0 E.l0.length E.c0) := (qaa BKn.out 0).trans rfl; have hcn_1 : w.cell? ⟨E.Bn, 1, none⟩ = some (.slice E.A1 E.l1.length E.c1) := (qaa BKn.out 1).trans rfl; have hcn_2 : w.cell? ⟨E.Bn, 2, none⟩ = some (.slice E.A2 E.l2.length E.c2) := (qaa BKn.out 2).trans rfl; have hcn_3 : w.cell? ⟨E.Bn, 3, none⟩ = some (.int .i64 E.wp) := (qaa BKn.out 3).trans rfl
 obtain ⟨hfp, hcp_0, hcp_1, hcp_2⟩ := qz3 BKp.out
 have hfd := qac BKd.out; have hcd_0 : w.cell? ⟨E.Bd, 0, none⟩ = some (.slice E.Ad E.D.length E.cd) := (qaa BKd.out 0).trans rfl
 cases can with
 | false =>
  simp only [Bool.false_eq_true, if_false]
  go_enter Try.func91, Try.ntmps91
  go_wp2_with (first | (go_at_call 92; refine hrep.mono ?_; clear hrep; rintro e w2 ⟨rfl, hb⟩; replace HB := qab.mk (qad HB.out hb); clear hb) | ((with_reducible refine qam (N := 9) rfl ?_); refine qal ?hg (N := 9) ?hd (cs := #[.int .i64 0, .int .i64 0, .int .i64 0]) (t := 123) ?hr ?_; (case hd => rfl); (case hg => rfl); (case hr => first | (go_simp; done) | (go_simp; rfl)); intro gx hg_gx w3 hbox hb; have BKgx := qab.mk hbox; have n_HB := qab.mk (qad HB.out hb); have GEgx : w.heap.size ≤ gx := (by rw [hg_gx]; exact HB.out.size); clear HB; have HB := n_HB; clear n_HB; obtain ⟨hfgx, hcgx_0, hcgx_1, hcgx_2⟩ := qz3 BKgx.out; clear hbox hb hg_gx))
  go_ret2
  have hbl := qai (j := 2) (v := .int .i64 q2) (qai (j := 1) (v := .int .i64 q1) (qai (j := 0) (v := .int .i64 q0) HB.out GEgx) GEgx) GEgx
  exact ⟨rfl, HI.out.step (KB.of_below hbl A), KB.of_below hbl _⟩
 | true =>
  have hnx := HNX.out rfl
  try dsimp only at hnx
  have hsr := HIH.out _ hnx.1 hnx.2
  unfold SearchC at hsr
  clear hnx HNX HIH
  simp only [if_true]
  generalize hS : E.S ⟨q0, q1, q2⟩ = S at hsr ⊢
  clear hS
  obtain ⟨So, Ss, Sr⟩ := S
  try dsimp only at hsr
  simp only [spV_eq] at hsr
  have HSR := qab.mk hsr
  clear hsr
  go_enter Try.func91, Try.ntmps91
  go_wp2_with (first | (go_at_call 92; refine hrep.mono ?_; clear hrep; rintro e w2 ⟨rfl, hb⟩; replace HB := qab.mk (qad HB.out hb); clear hb) | ((with_reducible refine qam (N := 9) rfl ?_); refine qal ?hg (N := 9) ?hd (cs := #[.int .i64 0, .int .i64 0, .int .i64 0]) (t := 123) ?hr ?_; (case hd => rfl); (case hg => rfl); (case hr => first | (go_simp; done) | (go_simp; rfl)); intro gx hg_gx w3 hbox hb; have BKgx := qab.mk hbox; have n_HB := qab.mk (qad HB.out hb); have GEgx : w.heap.size ≤ gx := (by rw [hg_gx]; exact HB.out.size); clear HB; have HB := n_HB; clear n_HB; obtain ⟨hfgx, hcgx_0, hcgx_1, hcgx_2⟩ := qz3 BKgx.out; clear hbox hb hg_gx))
  have hbl := qai (j := 2) (v := .int .i64 q2) (qai (j := 1) (v := .int .i64 q1) (qai (j := 0) (v := .int .i64 q0) HB.out GEgx) GEgx) GEgx
  have hbx : (((w3.setCell ⟨gx, 0, none⟩ (.int .i64 q0)).setCell ⟨gx, 1, none⟩ (.int .i64 q1)).setCell ⟨gx, 2, none⟩ (.int .i64 q2)).heap[gx]? = some (.cells #[.int .i64 q0, .int .i64 q1, .int .i64 q2] 123 (0, 0)) := blk_set (blk_set (blk_set BKgx.out 0 _) 1 _) 2 _
  generalize ((w3.setCell ⟨gx, 0, none⟩ (.int .i64 q0)).setCell ⟨gx, 1, none⟩ (.int .i64 q1)).setCell ⟨gx, 2, none⟩ (.int .i64 q2) = w4 at hbl hbx ⊢
  have hi4 : Inv91 E s gs gw mw A w4 := HI.out.step (KB.of_below hbl A)
  have hk4 : KB (fun k => k = E.m ∨ k = mw) w w4 := KB.of_below hbl _
  have htup : ∀ W, Inv91 E s gs gw mw A W → KB (fun k => k = E.m ∨ k = mw) w4 W → W.cell? ⟨gw, 0, none⟩ = some (.map (some mw)) ∧ W.cell? ⟨E.Bs, 0, none⟩ = some (SEARCHF E) ∧ W.cell? ⟨gx, 0, none⟩ = some (.int .i64 q0) ∧ W.cell? ⟨gx, 1, none⟩ = some (.int .i64 q1) ∧ W.cell? ⟨gx, 2, none⟩ = some (.int .i64 q2) ∧ qab (Inv91 E s gs gw mw A W ∧ KB (fun k => k = E.m ∨ k = mw) w4 W) := by
   intro W hi hk
   have hbW := hk.blk hbx (fun e => e.elim (fun e => hi4.env.map.noCells hbx e) (fun e => hi4.map.noCells hbx e))
   exact ⟨qaa hi.xw 0, qaa hi.env.xs 0, qaa hbW 0, qaa hbW 1, qaa hbW 2, ⟨hi, hk⟩⟩
  have hdr : Inv91 E s gs gw mw A w4.drew ∧ KB (fun k => k = E.m ∨ k = mw) w4 w4.drew := ⟨hi4.step ⟨rfl, rfl, rfl, Nat.le_refl _, fun _ _ _ => rfl⟩, ⟨rfl, rfl, rfl, Nat.le_refl _, fun _ _ _ => rfl⟩⟩
  have hS4 := htup w4.drew hdr.1 hdr.2
  have hA4 : ∀ k, A k → k < w4.heap.size := fun k hk => by have := hA k hk; have := hbl.size; omega
  have hsr2 : ∀ W, Inv91 E s gs gw mw A W ∧ KB (fun k => k = E.m ∨ k = mw) w4 W → Calls Try.prog 90 #[.agg #[.int .i64 q0, .int .i64 q1, .int .i64 q2], .pointer (some ⟨E.Bn, 0, none⟩), .pointer (some ⟨E.Bk, 0, none⟩), .pointer (some ⟨E.Bd, 0, none⟩), .pointer (some ⟨E.Bs, 0, none⟩)] W fun e W' =>
    ∃ v, e = .returned (.agg #[v, .int .i64 Ss, .bool Sr]) ∧ qab (W'.cell? ⟨gw, 0, none⟩ = some (.map (some mw)) ∧ W'.cell? ⟨E.Bs, 0, none⟩ = some (SEARCHF E) ∧ W'.cell? ⟨gx, 0, none⟩ = some (.int .i64 q0) ∧ W'.cell? ⟨gx, 1, none⟩ = some (.int .i64 q1) ∧ W'.cell? ⟨gx, 2, none⟩ = some (.int .i64 q2) ∧ qab (Inv91 E s gs gw mw A W' ∧ KB (fun k => k = E.m ∨ k = mw) w4 W')) ∧ ∃ W6, (Instr.mapUpdate 125 (.map (some mw)) (.int .i64 x) (.agg #[v, .int .i64 Ss, .bool Sr])).run Try.prog W' = .ok () W6 ∧ qab (W6.cell? ⟨gw, 0, none⟩ = some (.map (some mw)) ∧ W6.cell? ⟨E.Bs, 0, none⟩ = some (SEARCHF E) ∧ W6.cell? ⟨gx, 0, none⟩ = some (.int .i64 q0) ∧ W6.cell? ⟨gx, 1, none⟩ = some (.int .i64 q1) ∧ W6.cell? ⟨gx, 2, none⟩ = some (.int .i64 q2) ∧ qab (Inv91 E s gs gw mw A W6 ∧ KB (fun k => k = E.m ∨ k = mw) w4 W6)) ∧ qab (MapIs intKey W6 mw (fun k u => k = x → u = .agg #[v, .int .i64 Ss, .bool Sr]) (fun k => k = x)) := by
   rintro W ⟨hi, hk⟩
   refine (HSR.out A W hi.env (fun k hk' => Nat.lt_of_lt_of_le (hA4 k hk') hk.size)).mono ?_
   rintro e W' ⟨v, rfl, _, henv, hkb⟩
   have hi5 := hi.after henv hkb
   have hk5 := hk.trans hkb (fun k e => .inl (.inl e))
   obtain ⟨w6, hrun, hi6, hk6, hm6⟩ := hi5.put x (.agg #[v, .int .i64 Ss, .bool Sr])
   exact ⟨v, rfl, ⟨htup _ hi5 hk5⟩, w6, hrun, ⟨htup _ hi6 (hk5.trans hk6 (fun k e => .inl (.inr e)))⟩, ⟨hm6⟩⟩
  have HSR2 := qab.mk hsr2
  have HS4 := qab.mk hS4
  have HK4 := qab.mk hk4
  clear htup hdr hS4 hi4 hk4 hbl hbx hA hA4 hsr2 HSR BKn BKd BKs BKp BKw BKgx hfgx hcgx_0 hcgx_1 hcgx_2 HI
  go_region_held3 (fun w' => w'.cell? ⟨gw, 0, none⟩ = some (.map (some mw)) ∧ w'.cell? ⟨E.Bs, 0, none⟩ = some (SEARCHF E) ∧ w'.cell? ⟨gx, 0, none⟩ = some (.int .i64 q0) ∧ w'.cell? ⟨gx, 1, none⟩ = some (.int .i64 q1) ∧ w'.cell? ⟨gx, 2, none⟩ = some (.int .i64 q2) ∧ qab (Inv91 E s gs gw mw A w' ∧ KB (fun k => k = E.m ∨ k = mw) w4 w'))
   (first | exact HS4.out | exact HS5.out | exact HS6.out)
   (first | ((go_at_call 90; refine (HSR2.out _ (qab.out (And.right (And.right (And.right (And.right (And.right (by assumption)))))))).mono ?_; rintro e w5 ⟨v, rfl, HS5, w6, hrun, HS6, HM6⟩)) | ((refine step_mapUpdate (by rfl) 125 _ _ _ rfl _ _ _ rfl rfl rfl hrun ?_)))
  rename_i hHeld
  clear hHeld hrun
  simp only [Exit.then]
  have hl6 : (Instr.lookup 125 (.map (some mw)) (.int .i64 x) false).run Try.prog w6.drew = .ok (.agg #[v, .int .i64 Ss, .bool Sr]) w6.drew := by
   rcases (MapIs.at (W' := w6.drew) HM6.out rfl).look Try.underlying125 (zero97 _) x with ⟨u, hu, _, h2⟩ | ⟨hn, _, _⟩
   ·
    rw [hu rfl] at h2
    exact h2
   ·
    exact absurd rfl hn
  have hc6 : w6.drew.cell? ⟨gw, 0, none⟩ = some (.map (some mw)) := HS6.out.1
  have hfa := field97_1
  have hfb := field97_2
  go_wp2_with fail
  go_region_held3 (fun w' => w'.cell? ⟨gw, 0, none⟩ = some (.map (some mw)) ∧ (Instr.lookup 125 (.map (some mw)) (.int .i64 x) false).run Try.prog w' = .ok (.agg #[v, .int .i64 Ss, .bool Sr]) w')
   (exact ⟨hc6, hl6⟩)
   ((fail))
  all_goals
   simp only [Exit.then]
   go_wp2_with fail
   all_goals
    go_ret2
    have hfin := HS6.out.2.2.2.2.2.out
    refine ⟨?_, hfin.1.step ⟨rfl, rfl, rfl, Nat.le_refl _, fun _ _ _ => rfl⟩, (HK4.out.trans hfin.2 (fun k e => .inl e)).trans (T' := fun _ => False) ⟨rfl, rfl, rfl, Nat.le_refl _, fun _ _ _ => rfl⟩ (fun _ e => e.elim)⟩
    have hmin : (if Ss < ow then Ss else ow) = min ow Ss := by split <;> omega
    first | (have hm : min ow Ss = Ss := (by omega); rw [hm]; rfl) | (have hm : min ow Ss = ow := (by omega); rw [hm]; rfl) | (rw [← hmin]; rfl)
theorem int_append_run (W : World) (v : Value) (xs : List Int) (x : Int) (base : Nat) (ok : Nat → Prop) (HO : Kd.R (Kd.int .i64) 3 W base ok v xs) (hbase : base ≤ W.heap.size) (hl : xs.length ≤ 1000) (hok : ∀ k, W.heap.size ≤ k → ok k) :
  ∃ v1 w1, (Builtin.append_ #[47, 47] 47 #[v, .slice (some ⟨W.heap.size, 0, none⟩) 1 1]).run Try.prog (W.alloc (.cells #[.int .i64 x] 3)) = .ok v1 w1 ∧ Kd.R (Kd.int .i64) 3 w1 base ok v1 (xs ++ [x]) ∧ W.grownBy w1 v.ownBlock ∧ (v1.ownBlock = v.ownBlock ∨ ∃ b, v1.ownBlock = some b ∧ W.heap.size ≤ b) := by
 have hown := (Kd.own_of_R (h1 := fun _ => rfl) HO).alloc (.cells #[.int .i64 x] 3)
 obtain ⟨i0, hi, hz0, hz1, hz2⟩ := info_parts info3
 obtain ⟨v1, w1, hrun, ho, hg, _, hat⟩ := run_append_own_at (W.alloc (.cells #[.int .i64 x] 3)) base 47 47 3 i0 (.int .i64 0) 1 8 Try.underlying47 hi hz0 hz1 hz2 rfl (by decide) v xs.length _ hown ⟨W.heap.size, 0, none⟩ 1 1 [.int .i64 x] rfl (Go.cell_one_new W (.int .i64 x) 3) (by simp [Value.oneCell']) (by simp only [maxLen]; omega) (by omega) (by simp; omega)
 have hgW : W.grownBy w1 v.ownBlock := World.grownBy.trans (World.grownBy_alloc W _ _) hg
 refine ⟨v1, w1, hrun, ?_, hgW, ?_⟩
 ·
  refine Kd.R_of_own (h1 := fun _ => rfl) ?_ ?_
  ·
   have e : encs (Value.int .i64) (xs ++ [x]) = encs (Value.int .i64) xs ++ [.int .i64 x] := by simp [encs]
   rw [e]
   simpa using ho
  ·
   intro k hk
   rcases hat with h1 | h1
   ·
    exact HO.1 k (by rw [← h1]; exact hk)
   ·
    rw [h1] at hk
    injection hk with hk
    subst hk
    exact hok _ (by simp)
 ·
  rcases hat with h1 | h1
  ·
   exact .inl h1
  ·
   exact .inr ⟨_, h1, by simp⟩
structure St93 (E : OE) (A : Nat → Prop) (w : World) (gn gq gd gf go gx : Nat) (slack : Int) (n : Sp) (o : List Int) (v : Value) (Ds : List Nat) (W : World) : Prop where
 env : EnvInv E (fun k => A k ∨ k = go ∨ k = gx ∨ some k = v.ownBlock) W
 xn : W.heap[gn]? = some (.cells (NETC E) 99 (0, 0))
 xq : W.heap[gq]? = some (.cells #[.int .i64 slack] 3 (0, 0))
 xd : W.heap[gd]? = some (.cells #[.slice E.Ad E.D.length E.cd] 47 (0, 0))
 xf : W.heap[gf]? = some (.cells #[SEARCHF E] 121 (0, 0))
 xo : W.heap[go]? = some (.cells #[v] 47 (0, 0))
 xx : W.heap[gx]? = some (.cells #[.int .i64 n.p, .int .i64 n.h, .int .i64 n.r] 123 (0, 0))
 row : Kd.R (Kd.int .i64) 3 W E.w0.heap.size (fun k => w.heap.size ≤ k ∧ k ≠ gq) v o
 kb : KB (fun k => k = E.m) w W
 lo : w.heap.size ≤ go ∧ w.heap.size ≤ gx
 marks : ∀ D ∈ Ds, W.heap[D]? = some (.deferred (some [])) ∧ w.heap.size ≤ D
section
variable {E : OE} {A : Nat → Prop} {w W W' : World} {gn gq gd gf go gx : Nat} {slack : Int} {n n' : Sp} {o : List Int} {v : Value} {Ds : List Nat}
theorem deferred_ne {g : Nat} {cs : Array Value} {t : TypeId} {D : Nat} (h : W.heap[g]? = some (.cells cs t (0, 0))) (hD : W.heap[D]? = some (.deferred (some []))) : D ≠ g := by
 rintro rfl
 rw [h] at hD
 cases hD
theorem St93.lt (h : St93 E A w gn gq gd gf go gx slack n o v Ds W) (hA : ∀ k, A k → k < w.heap.size) : ∀ k, (A k ∨ k = go ∨ k = gx ∨ some k = v.ownBlock) → k < W.heap.size := by
 rintro k (hk | rfl | rfl | hk)
 ·
  have := hA k hk
  have := h.kb.size
  omega
 ·
  exact blk_lt h.xo
 ·
  exact blk_lt h.xx
 ·
  exact Kd.R_lt h.row k hk.symm
theorem St93.below (h : St93 E A w gn gq gd gf go gx slack n o v Ds W) (hb : Below W.heap.size W W') : St93 E A w gn gq gd gf go gx slack n o v Ds W' :=
 ⟨h.env.step (KB.of_below hb _), qae h.xn hb, qae h.xq hb, qae h.xd hb, qae h.xf hb, qae h.xo hb, qae h.xx hb, Kd.R_below h.row hb, h.kb.then_below hb, h.lo, fun D hD => ⟨qae (h.marks D hD).1 hb, (h.marks D hD).2⟩⟩
theorem St93.after (h : St93 E A w gn gq gd gf go gx slack n o v Ds W) (he : EnvInv E (fun k => A k ∨ k = go ∨ k = gx ∨ some k = v.ownBlock) W') (hk : KB (fun k => k = E.m) W W') : St93 E A w gn gq gd gf go gx slack n o v Ds W' := by
 have ne : ∀ {g cs t}, W.heap[g]? = some (.cells cs t (0, 0)) → ¬ g = E.m := fun hg => h.env.map.noCells hg
 have hR := hk.R (Kd.R_bound h.row) (fun k hk' => by obtain ⟨q, _, cells, hc⟩ := hk'.2.2.2; exact ne hc)
 refine ⟨he, hk.blk h.xn (ne h.xn), hk.blk h.xq (ne h.xq), hk.blk h.xd (ne h.xd), hk.blk h.xf (ne h.xf), hk.blk h.xo (ne h.xo), hk.blk h.xx (ne h.xx), Kd.R_mono hR (fun k hk => hk.1), h.kb.trans hk (fun k e => .inl e), h.lo, fun D hD => ⟨hk.blk (h.marks D hD).1 (fun e => ?_), (h.marks D hD).2⟩⟩
 obtain ⟨es, clock, ks, h1, _⟩ := h.env.map
 have h2 := (h.marks D hD).1
 rw [e, h1] at h2
 cases h2
theorem St93.own {B : Nat} (hB : w.heap.size ≤ B) (hw : E.w0.heap.size ≤ w.heap.size) (hm : E.m < w.heap.size) (hDs : ∀ D ∈ Ds, D < B) {row : Option Nat} (h : St93 E A w gn gq gd gf go gx slack n o v Ds W) (hg : W.grownBy W' row) (hr : ∀ r, row = some r → B ≤ r ∧ ∃ o : Obj, W.heap[r]? = some o ∧ o.isCells = false) : St93 E A w gn gq gd gf go gx slack n o v Ds W' := by
 refine ⟨h.env.own (B := B) (by omega) (by omega) hg hr, blk_own h.xn hg hr, blk_own h.xq hg hr, blk_own h.xd hg hr, blk_own h.xf hg hr, blk_own h.xo hg hr, blk_own h.xx hg hr, ?_, h.kb.trans (KB.of_grown hg) (fun k e => .inr (by have := (hr k e).1; omega)), h.lo,
  fun D hD => ⟨(hg.block D (blk_lt (h.marks D hD).1) (fun e => by have := (hr D e.symm).1; have := hDs D hD; omega)).trans (h.marks D hD).1, (h.marks D hD).2⟩⟩
 refine Kd.R_mono (Kd.R_step (Kd.R_bound h.row) (fun k hk hlt => hg.block k hlt (fun e => ?_))) (fun k hk => hk.1)
 obtain ⟨q, _, cells, hc⟩ := hk.2.2.2
 obtain ⟨_, o', ho, hn⟩ := hr k e.symm
 rw [hc] at ho
 injection ho with ho
 subst ho
 cases hn
theorem St93.push (h : St93 E A w gn gq gd gf go gx slack n o v Ds W) (hw0 : E.w0.heap.size ≤ w.heap.size) {w1 : World} {v1 : Value} {x : Int} (hn : gn ≠ go ∧ gn ≠ gx ∧ gq ≠ go ∧ gq ≠ gx ∧ gd ≠ go ∧ gd ≠ gx ∧ gf ≠ go ∧ gf ≠ gx ∧ go ≠ gx)
  (hR : Kd.R (Kd.int .i64) 3 w1 E.w0.heap.size (fun k => w.heap.size ≤ k ∧ k ≠ gq) v1 (o ++ [x])) (hg : W.grownBy w1 v.ownBlock) (hat : v1.ownBlock = v.ownBlock ∨ ∃ b, v1.ownBlock = some b ∧ W.heap.size ≤ b) :
  St93 E A w gn gq gd gf go gx slack n' (o ++ [x]) v1 Ds ((((w1.setCell ⟨go, 0, none⟩ v1).setCell ⟨gx, 0, none⟩ (.int .i64 n'.p)).setCell ⟨gx, 1, none⟩ (.int .i64 n'.h)).setCell ⟨gx, 2, none⟩ (.int .i64 n'.r)) := by
 obtain ⟨d1, d2, d3, d4, d5, d6, d7, d8, d9⟩ := hn
 have d9' := d9.symm
 have kset : ∀ T : Nat → Prop, T go → T gx → KB T w1 ((((w1.setCell ⟨go, 0, none⟩ v1).setCell ⟨gx, 0, none⟩ (.int .i64 n'.p)).setCell ⟨gx, 1, none⟩ (.int .i64 n'.h)).setCell ⟨gx, 2, none⟩ (.int .i64 n'.r)) :=
  fun T t1 t2 => ((((KB.refl T w1).set (p := ⟨go, 0, none⟩) (.inl t1) _).set (p := ⟨gx, 0, none⟩) (.inl t2) _).set (p := ⟨gx, 1, none⟩) (.inl t2) _).set (p := ⟨gx, 2, none⟩) (.inl t2) _
 have far : ∀ {g : Nat} {cs : Array Value} {t : TypeId}, w1.heap[g]? = some (.cells cs t (0, 0)) → g ≠ go → g ≠ gx → ((((w1.setCell ⟨go, 0, none⟩ v1).setCell ⟨gx, 0, none⟩ (.int .i64 n'.p)).setCell ⟨gx, 1, none⟩ (.int .i64 n'.h)).setCell ⟨gx, 2, none⟩ (.int .i64 n'.r)).heap[g]? = some (.cells cs t (0, 0)) :=
  fun hg e1 e2 => blk_far (blk_far (blk_far (blk_far hg (p := ⟨go, 0, none⟩) e1 _) (p := ⟨gx, 0, none⟩) e2 _) (p := ⟨gx, 1, none⟩) e2 _) (p := ⟨gx, 2, none⟩) e2 _
 have k1 : ∀ {g : Nat} {cs : Array Value} {t : TypeId}, W.heap[g]? = some (.cells cs t (0, 0)) → t ≠ 3 → w1.heap[g]? = some (.cells cs t (0, 0)) := fun hg' ht => blk_grown hg' hg (Kd.R_ne h.row hg' (Ne.symm ht))
 have env1 : EnvInv E (fun k => (A k ∨ k = go ∨ k = gx ∨ some k = v.ownBlock) ∨ W.heap.size ≤ k) W := h.env.imp (fun k hk => ⟨hk.elim (h.env.lo k) (fun x => Nat.le_trans h.env.hb.size x), hk⟩)
 have env2 := env1.step ((KB.of_grown hg).mono (fun k e => .inl (.inr (.inr (.inr e.symm)))))
 have env3 := env2.step (kset _ (.inl (.inr (.inl rfl))) (.inl (.inr (.inr (.inl rfl)))))
 refine ⟨env3.imp (fun k hk => ?_), far (k1 h.xn (by decide)) d1 d2, ?_, far (k1 h.xd (by decide)) d5 d6, far (k1 h.xf (by decide)) d7 d8, ?_, ?_, ?_, ?_, h.lo, ?_⟩
 ·
  have hk' : (A k ∨ k = go ∨ k = gx ∨ some k = v.ownBlock) ∨ W.heap.size ≤ k := by
   rcases hk with hk | hk | hk | hk
   ·
    exact .inl (.inl hk)
   ·
    exact .inl (.inr (.inl hk))
   ·
    exact .inl (.inr (.inr (.inl hk)))
   ·
    rcases hat with e | ⟨b, e, hb⟩
    ·
     exact .inl (.inr (.inr (.inr (by rw [hk, e]))))
    ·
     rw [e] at hk
     injection hk with hk
     exact .inr (by omega)
  exact ⟨env1.lo k hk', .inl hk'⟩
 ·
  exact far (blk_grown h.xq hg (fun e => (h.row.1 gq e.symm).2 rfl)) d3 d4
 ·
  exact blk_far (blk_far (blk_far (blk_set (k1 h.xo (by decide)) 0 v1) (p := ⟨gx, 0, none⟩) d9 _) (p := ⟨gx, 1, none⟩) d9 _) (p := ⟨gx, 2, none⟩) d9 _
 ·
  exact blk_set (blk_set (blk_set (blk_far (k1 h.xx (by decide)) (p := ⟨go, 0, none⟩) d9' _) 0 _) 1 _) 2 _
 ·
  have ho := blk_far (p := ⟨go, 0, none⟩) (k1 h.xx (by decide)) d9' v1
  exact Kd.R_set (Kd.R_set (Kd.R_set (Kd.R_set hR (k1 h.xo (by decide)) (by decide) 0 v1) ho (by decide) 0 _) (blk_set ho 0 _) (by decide) 1 _) (blk_set (blk_set ho 0 _) 1 _) (by decide) 2 _
 ·
  refine (h.kb.trans (KB.of_grown hg) (fun k e => .inr (h.row.1 k e).1)).trans (kset (fun k => w.heap.size ≤ k) h.lo.1 h.lo.2) (fun k e => .inr e)
 ·
  intro D hD
  have hm := h.marks D hD
  have hD1 : w1.heap[D]? = some (.deferred (some [])) := (hg.block D (blk_lt hm.1) (fun e => by
   obtain ⟨cells, hc⟩ := Kd.R_typed h.row D e.symm
   rw [hm.1] at hc
   cases hc)).trans hm.1
  refine ⟨(kset (fun k => k = go ∨ k = gx) (.inl rfl) (.inr rfl)).blk hD1 (fun e => ?_), hm.2⟩
  rcases e with e | e
  ·
   exact deferred_ne (k1 h.xo (by decide)) hD1 e
  ·
   exact deferred_ne (k1 h.xx (by decide)) hD1 e
end
end Go.Proofs.Ytipphcjgdebecaa.PA
