/- Parts of a proof about the pipe seat's laws: what the functions of the program answer. No condition of its own. -/
import Derived.Test.YtipphcjgdebecaaSC
import Derived.Test.YtipphcjgdebecaaSE
import Derived.Test.YtipphcjgdebecaaSF
set_option linter.all false
namespace Go.Proofs.Ytipphcjgdebecaa.PA
open Go.RowKit Go.Proofs.YtipphcjgdebecaaW.PrintWords Go.Proofs.YtipphcjgdebecaaW.PrintLast Go.Proofs.YtipphcjgdebecaaW.PrintMore
attribute [local go_sem] max2_int min2_int max_two min_two max_three min_three max_four min_four
def pipe_place.f (l0_0 : List (S39)) (l0_1 : List (S37)) (l0_2 : List (List Int)) (a1 : Int) : Option (Bool) := (pipe_in.f a1 0 (l0_0.length : Int)).bind fun t125 => (some t125)
set_option maxHeartbeats 8000000 in
set_option maxRecDepth 100000 in
theorem pipe_place.calls (A0_0 : Option Addr) (c0_0 : Nat) (l0_0 : List (S39)) (A0_1 : Option Addr) (c0_1 : Nat) (l0_1 : List (S37)) (A0_2 : Option Addr) (c0_2 : Nat) (l0_2 : List (List Int)) (a1 : Int) (r : Bool) (w : World) (hr0_0 : Kd.C k39 w A0_0 l0_0.length l0_0) (hc0_0 : l0_0.length ≤ c0_0) (hr0_1 : Kd.C k37 w A0_1 l0_1.length l0_1) (hc0_1 : l0_1.length ≤ c0_1) (hr0_2 : Kd.C (Kd.slice 3 (Kd.int .i64)) w A0_2 l0_2.length l0_2) (hc0_2 : l0_2.length ≤ c0_2) (h : pipe_place.f l0_0 l0_1 l0_2 a1 = some r) :
  Calls Try.prog 62 #[.agg #[.slice A0_0 l0_0.length c0_0, .slice A0_1 l0_1.length c0_1, .slice A0_2 l0_2.length c0_2], .int .i64 a1] w fun e w' => e = .returned (.bool r) ∧ Below w.heap.size w w' := by
 have hu26 := Try.underlying26
 have HR0_0 := qac.mk hr0_0
 have HC0_0 := qac.mk hc0_0
 clear hr0_0 hc0_0
 have HR0_1 := qac.mk hr0_1
 have HC0_1 := qac.mk hc0_1
 clear hr0_1 hc0_1
 have HR0_2 := qac.mk hr0_2
 have HC0_2 := qac.mk hc0_2
 clear hr0_2 hc0_2
 have HB := qac.mk (Below.refl w.heap.size w)
 have H : ((pipe_in.f a1 0 (l0_0.length : Int)).bind fun t125 => (some t125)) = some r := h
 clear h
 replace H := Option.bind_eq_some_iff.mp H
 obtain ⟨t125, A30, H⟩ := H
 replace H : (some t125) = some r := H
 have A3 := qac.mk A30
 clear A30
 obtain rfl := Option.some.inj H
 go_enter Try.func62, Try.ntmps62
 go_wp2_with (first | ((with_reducible refine qax (N := 2) rfl ?_); refine qaw ?hg (N := 2) ?hd (cs := #[.slice A0_0 l0_0.length c0_0, .slice A0_1 l0_1.length c0_1, .slice A0_2 l0_2.length c0_2]) (t := 26) ?hr ?_; (case hd => rfl); (case hg => rfl); (case hr => first | (go_simp; done) | (go_simp; rfl)); intro gb124 hg w4 hbox hb; have n0_ := qac.mk (qai (by repeat (first | (with_reducible first | exact HB.out | apply qae | apply qad | apply qaf) | exact HB.out)) hb); have n1_ := qac.mk (hbox); have n2_ := qac.mk ((by rw [hg]; exact (qar (by repeat (first | (with_reducible first | exact HB.out | apply qae | apply qad | apply qaf) | exact HB.out))) : w.heap.size ≤ gb124)); have n3_ := qac.mk ((by rw [hg]; exact (qar (by repeat (first | (with_reducible first | exact HB.out | apply qae | apply qad | apply qaf) | exact HB.out))) : w.heap.size ≤ gb124)); clear HB; have HB := n0_; have BK124 := n1_; have GW124 := n2_; have GE124 := n3_; clear n0_ n1_ n2_ n3_; clear hb hbox hg; have hcz5_0 : w4.cell? ⟨gb124, 0, none⟩ = some (.slice A0_0 l0_0.length c0_0) := (qaa BK124.out 0).trans rfl; have hcz5_1 : w4.cell? ⟨gb124, 1, none⟩ = some (.slice A0_1 l0_1.length c0_1) := (qaa BK124.out 1).trans rfl; have hcz5_2 : w4.cell? ⟨gb124, 2, none⟩ = some (.slice A0_2 l0_2.length c0_2) := (qaa BK124.out 2).trans rfl; have hfz5_0 := qab BK124.out 0; have hfz5_1 := qab BK124.out 1; have hfz5_2 := qab BK124.out 2) | ((with_reducible refine qau (f := 55) rfl ?_); refine goesL_ (some 9) rfl rfl Try.func55 (by kernel_rfl) rfl #[.int .i64 a1, .int .i64 0, .int .i64 (l0_0.length : Int)] rfl (by (try simp only [List.map_toArray, List.map_cons, List.map_nil]); first | done | rfl | (simp only [List.length_drop, List.length_take]; rfl)) ?_; (with_reducible refine (pipe_in.calls a1 0 (l0_0.length : Int) t125 _ A3.out).mono ?_); rintro e w' ⟨rfl, ⟨nd, rfl⟩⟩; refine ⟨_, rfl, ?_⟩))
 go_ret
 exact ⟨by first | rfl | (simp [qas, qat] <;> rfl) | (simp [*, qas, qat] <;> rfl), by repeat (first | (with_reducible first | exact HB.out | apply qae | apply qad | apply qaf | refine qag ?_ GE124.out) | exact HB.out)⟩
end Go.Proofs.Ytipphcjgdebecaa.PA
namespace Go.Proofs.Ytipphcjgdebecaa.PA
open Go.RowKit Go.Proofs.YtipphcjgdebecaaW.PrintWords Go.Proofs.YtipphcjgdebecaaW.PrintLast Go.Proofs.YtipphcjgdebecaaW.PrintMore
attribute [local go_sem] max2_int min2_int max_two min_two max_three min_three max_four min_four
def frz : List S37 → Int → Int → Int × Int
 | [], _, can => (can, -1)
 | s :: t, h, can => if s.f1 = 0 then (if s.f0 = 0 ∧ can < 0 then h + 1 else can, h + 1) else frz t (h + 1) (if s.f0 = 0 ∧ can < 0 then h + 1 else can)
theorem frz_round (l : List S37) (k : Nat) (hk : k < l.length) (can : Int) : frz (l.drop k) k can = if (rd_T37 l k).f1 = 0 then (if (rd_T37 l k).f0 = 0 ∧ can < 0 then (k : Int) + 1 else can, (k : Int) + 1) else frz (l.drop (k + 1)) ((k + 1 : Nat) : Int) (if (rd_T37 l k).f0 = 0 ∧ can < 0 then (k : Int) + 1 else can) := by
 rw [List.drop_eq_getElem_cons hk]
 have : rd_T37 l k = l[k] := by simp [rd_T37, hk]
 rw [this]
 simp only [frz]
 rfl
def pipe_net_freezes.f (l0_0 : List (S39)) (l0_1 : List (S37)) (l0_2 : List (List Int)) (a0_3 : Int) (a1 : Int) : Option (Int × Int) := if 0 ≤ a1 ∧ a1 < l0_0.length ∧ 0 ≤ a0_3 ∧ l0_1.length ≤ 1000 then some (frz (warmthV l0_0 l0_1 a0_3 a1) 0 (-1)) else none
set_option maxHeartbeats 4000000 in
set_option maxRecDepth 100000 in
theorem pipe_net_freezes.calls (A0_0 : Option Addr) (c0_0 : Nat) (l0_0 : List (S39)) (A0_1 : Option Addr) (c0_1 : Nat) (l0_1 : List (S37)) (A0_2 : Option Addr) (c0_2 : Nat) (l0_2 : List (List Int)) (a0_3 : Int) (a1 : Int) (r1 : Int) (r2 : Int) (w : World) (hr0_0 : Kd.C k39 w A0_0 l0_0.length l0_0) (hc0_0 : l0_0.length ≤ c0_0) (hr0_1 : Kd.C k37 w A0_1 l0_1.length l0_1) (hc0_1 : l0_1.length ≤ c0_1) (hr0_2 : Kd.C (Kd.slice 3 (Kd.int .i64)) w A0_2 l0_2.length l0_2) (hc0_2 : l0_2.length ≤ c0_2) (h : pipe_net_freezes.f l0_0 l0_1 l0_2 a0_3 a1 = some (r1, r2)) :
  Calls Try.prog 77 #[.agg #[.slice A0_0 l0_0.length c0_0, .slice A0_1 l0_1.length c0_1, .slice A0_2 l0_2.length c0_2, .int .i64 a0_3], .int .i64 a1] w fun e w' => e = .returned (.tuple #[.int .i64 r1, .int .i64 r2]) ∧ Below w.heap.size w w' := by
 unfold pipe_net_freezes.f at h
 split at h
 case isFalse => cases h
 rename_i hc
 have h' := Option.some.inj h
 clear h
 have HF := qac.mk h'
 clear h'
 have HR0 := qac.mk hr0_0
 have HR1 := qac.mk hr0_1
 clear hr0_0 hr0_1 hr0_2
 have hu99 := Try.underlying99
 have hu37 := Try.underlying37
 have HB := qac.mk (Below.refl w.heap.size w)
 obtain ⟨q0, q1, q2, q3⟩ := hc
 go_enter Try.func77, Try.ntmps77
 go_wp2_with ((with_reducible refine qax (N := 2) rfl ?_); refine qaw ?hg (N := 2) ?hd (cs := #[.slice A0_0 l0_0.length c0_0, .slice A0_1 l0_1.length c0_1, .slice A0_2 l0_2.length c0_2, .int .i64 a0_3]) (t := 99) ?hr ?_; (case hd => rfl); (case hg => rfl); (case hr => first | (go_simp; done) | (go_simp; rfl)); intro gb hg_gb w2 hbox hb; have BKgb := qac.mk hbox; have n_HB := qac.mk (qai HB.out hb); have GEgb : w.heap.size ≤ gb := (by rw [hg_gb]; exact HB.out.size); clear HB; have HB := n_HB; clear n_HB; have hfgb := qab BKgb.out; have hcgb_0 : w2.cell? ⟨gb, 0, none⟩ = some (.slice A0_0 l0_0.length c0_0) := (qaa BKgb.out 0).trans rfl; have hcgb_1 : w2.cell? ⟨gb, 1, none⟩ = some (.slice A0_1 l0_1.length c0_1) := (qaa BKgb.out 1).trans rfl; have hcgb_2 : w2.cell? ⟨gb, 2, none⟩ = some (.slice A0_2 l0_2.length c0_2) := (qaa BKgb.out 2).trans rfl; have hcgb_3 : w2.cell? ⟨gb, 3, none⟩ = some (.int .i64 a0_3) := (qaa BKgb.out 3).trans rfl; clear hbox hb hg_gb)
 go_step3
 go_wp2_with fail
 go_step3
 go_wp2_with (go_at_call 79; refine (warmth_calls _ _ _ _ _ _ _ _ _ _ (Kd.qal HR0.out HB.out) (Kd.qal HR1.out HB.out) q0 q1 q2 q3).mono ?_; rintro e w3 ⟨v, rfl, ho, hb⟩; obtain ⟨A, n, c, rfl⟩ := R_shape ho; have HO := qac.mk (Kd.R_lower ho HB.out.size); clear ho; have n_HB := qac.mk (qai HB.out hb); clear HB; have HB := n_HB; clear n_HB; clear hb)
 clear hfgb hcgb_0 hcgb_1 hcgb_2 hcgb_3 BKgb
 have HN : qac (n = (warmthV l0_0 l0_1 a0_3 a1).length) := ⟨(Kd.qbb HO.out).1⟩
 have hn : n ≤ 1000 := by rw [HN.out]; simpa [warmthV] using q3
 generalize hl : warmthV l0_0 l0_1 a0_3 a1 = l at HO HF HN
 clear hl
 go_loopw [6, 7, 14] (fun s6 s7 s14 wr => ∃ (k : Nat) (can : Int), k ≤ n ∧ -1 ≤ can ∧ s14 = .int .i64 k ∧ s6 = .int .i64 can ∧ s7 = .int .i64 (-1) ∧ qac (frz (l.drop k) k can = (r1, r2)) ∧ qac (Kd.R k37 37 wr w.heap.size (fun _ => True) (.slice A n c) l) ∧ qac (Below w.heap.size w wr)) (fun _ _ s _ => n - (intOf s).toNat)
 case atStart => exact ⟨0, -1, by omega, by omega, rfl, rfl, rfl, HF, HO, HB⟩
 case round =>
  clear HO HB HF
  obtain ⟨k, can, hk, hcan, rfl, rfl, rfl, HF, HO, HB⟩ := hrel
  by_cases hlt : k < n
  ·
   have hki : (k : Int) < n := by omega
   have hC := (Kd.qbb HO.out).2.2
   rw [← HN.out] at hC
   obtain ⟨ad, e, hx0, hx1⟩ := at_T37 hC k (by omega) hki
   cases e
   simp only [Int.toNat_natCast] at hx0 hx1
   clear hC
   have ne0 := World.new_ne wr _ hx0
   have hrd := frz_round l k (by rw [← HN.out]; exact hlt) can
   have HD := qac.mk hrd
   clear hrd
   obtain ⟨x0, hx0e⟩ : ∃ x0, x0 = (rd_T37 l k).f0 := ⟨_, rfl⟩
   obtain ⟨x1, hx1e⟩ : ∃ x1, x1 = (rd_T37 l k).f1 := ⟨_, rfl⟩
   rw [← hx0e] at hx0 HD
   rw [← hx1e] at hx1 HD
   clear hx0e hx1e
   by_cases c1 : x1 = 0
   ·
    have HE : qac ((if x0 = 0 ∧ can < 0 then (k : Int) + 1 else can, (k : Int) + 1) = (r1, r2)) := ⟨by rw [← HF.out, HD.out, if_pos c1]⟩
    have hb1 : (x1 == 0) = true := by simp [c1]
    clear c1
    by_cases c2 : x0 = 0
    ·
     have hb2 : (x0 == 0) = true := by simp [c2]
     have C2 := qac.mk c2
     clear c2
     by_cases c3 : can < 0
     ·
      go_wp2_with fail
      try rw [Exit.noGoto_ret]
      go_ret2
      have he := HE.out
      rw [if_pos ⟨C2.out, c3⟩] at he
      cases he
      exact ⟨rfl, HB.out.alloc HB.out.size _⟩
     ·
      go_wp2_with fail
      try rw [Exit.noGoto_ret]
      go_ret2
      have he := HE.out
      rw [if_neg (by omega)] at he
      cases he
      exact ⟨rfl, HB.out.alloc HB.out.size _⟩
    ·
     have hb2 : (x0 == 0) = false := by simp [c2]
     have C2 := qac.mk c2
     clear c2
     go_wp2_with fail
     try rw [Exit.noGoto_ret]
     go_ret2
     have he := HE.out
     rw [if_neg (fun h => C2.out h.1)] at he
     cases he
     exact ⟨rfl, HB.out.alloc HB.out.size _⟩
   ·
    have HE : qac (frz (l.drop (k + 1)) ((k + 1 : Nat) : Int) (if x0 = 0 ∧ can < 0 then (k : Int) + 1 else can) = (r1, r2)) := ⟨by rw [← HF.out, HD.out, if_neg c1]⟩
    have hb1 : (x1 == 0) = false := by simp [c1]
    clear c1
    by_cases c2 : x0 = 0
    ·
     have hb2 : (x0 == 0) = true := by simp [c2]
     have C2 := qac.mk c2
     clear c2
     by_cases c3 : can < 0
     ·
      go_wp2_with fail
      go_roundw
      case rel => exact ⟨k + 1, (k : Int) + 1, by omega, by omega, by go_num, by go_num, rfl, ⟨by rw [← HE.out, if_pos ⟨C2.out, c3⟩]⟩, ⟨Kd.qaz HO.out _⟩, ⟨HB.out.alloc HB.out.size _⟩⟩
      case measure => simp [intOf]; omega
     ·
      go_wp2_with fail
      go_roundw
      case rel => exact ⟨k + 1, can, by omega, by omega, by go_num, rfl, rfl, ⟨by rw [← HE.out, if_neg (by omega)]⟩, ⟨Kd.qaz HO.out _⟩, ⟨HB.out.alloc HB.out.size _⟩⟩
      case measure => simp [intOf]; omega
    ·
     have hb2 : (x0 == 0) = false := by simp [c2]
     have C2 := qac.mk c2
     clear c2
     go_wp2_with fail
     go_roundw
     case rel => exact ⟨k + 1, can, by omega, by omega, by go_num, rfl, rfl, ⟨by rw [← HE.out, if_neg (fun h => C2.out h.1)]⟩, ⟨Kd.qaz HO.out _⟩, ⟨HB.out.alloc HB.out.size _⟩⟩
     case measure => simp [intOf]; omega
  ·
   have he := HF.out
   rw [List.drop_eq_nil_of_le (by rw [← HN.out]; omega)] at he
   simp only [frz] at he
   cases he
   go_wp2_with fail
   try rw [Exit.noGoto_ret]
   go_ret2
   exact ⟨rfl, HB.out⟩
end Go.Proofs.Ytipphcjgdebecaa.PA
namespace Go.Proofs.Ytipphcjgdebecaa.PA
open Go.RowKit Go.Proofs.YtipphcjgdebecaaW.PrintWords Go.Proofs.YtipphcjgdebecaaW.PrintLast Go.Proofs.YtipphcjgdebecaaW.PrintMore
attribute [local go_sem] max2_int min2_int max_two min_two max_three min_three max_four min_four
def pipe_net_due.f (l0_0 : List (S39)) (l0_1 : List (S37)) (l0_2 : List (List Int)) (a0_3 : Int) (a1 : Int) : Option (Int) := (pipe_net_freezes.f l0_0 l0_1 l0_2 a0_3 a1).bind fun bt127 => (if bt127.1 ≥ 0 then (some (wrap64 (bt127.1 - 1))) else (some (l0_1.length : Int)))
set_option maxHeartbeats 8000000 in
set_option maxRecDepth 100000 in
theorem pipe_net_due.calls (A0_0 : Option Addr) (c0_0 : Nat) (l0_0 : List (S39)) (A0_1 : Option Addr) (c0_1 : Nat) (l0_1 : List (S37)) (A0_2 : Option Addr) (c0_2 : Nat) (l0_2 : List (List Int)) (a0_3 : Int) (a1 : Int) (r : Int) (w : World) (hr0_0 : Kd.C k39 w A0_0 l0_0.length l0_0) (hc0_0 : l0_0.length ≤ c0_0) (hr0_1 : Kd.C k37 w A0_1 l0_1.length l0_1) (hc0_1 : l0_1.length ≤ c0_1) (hr0_2 : Kd.C (Kd.slice 3 (Kd.int .i64)) w A0_2 l0_2.length l0_2) (hc0_2 : l0_2.length ≤ c0_2) (h : pipe_net_due.f l0_0 l0_1 l0_2 a0_3 a1 = some r) :
  Calls Try.prog 89 #[.agg #[.slice A0_0 l0_0.length c0_0, .slice A0_1 l0_1.length c0_1, .slice A0_2 l0_2.length c0_2, .int .i64 a0_3], .int .i64 a1] w fun e w' => e = .returned (.int .i64 r) ∧ Below w.heap.size w w' := by
 have hu99 := Try.underlying99
 have HR0_0 := qac.mk hr0_0
 have HC0_0 := qac.mk hc0_0
 clear hr0_0 hc0_0
 have HR0_1 := qac.mk hr0_1
 have HC0_1 := qac.mk hc0_1
 clear hr0_1 hc0_1
 have HR0_2 := qac.mk hr0_2
 have HC0_2 := qac.mk hc0_2
 clear hr0_2 hc0_2
 have HB := qac.mk (Below.refl w.heap.size w)
 have H : ((pipe_net_freezes.f l0_0 l0_1 l0_2 a0_3 a1).bind fun bt127 => (if bt127.1 ≥ 0 then (some (wrap64 (bt127.1 - 1))) else (some (l0_1.length : Int)))) = some r := h
 clear h
 replace H := Option.bind_eq_some_iff.mp H
 obtain ⟨⟨t127, t128⟩, A30, H⟩ := H
 replace H : (if t127 ≥ 0 then (some (wrap64 (t127 - 1))) else (some (l0_1.length : Int))) = some r := H
 have A3 := qac.mk A30
 clear A30
 by_cases c4 : t127 ≥ 0
 ·
  rw [if_pos c4] at H
  have c4b0 : decide (0 ≤ t127) = true := decide_eq_true c4
  clear c4
  obtain rfl := Option.some.inj H
  go_enter Try.func89, Try.ntmps89
  go_wp2_with (first | ((with_reducible refine qax (N := 2) rfl ?_); refine qaw ?hg (N := 2) ?hd (cs := #[.slice A0_0 l0_0.length c0_0, .slice A0_1 l0_1.length c0_1, .slice A0_2 l0_2.length c0_2, .int .i64 a0_3]) (t := 99) ?hr ?_; (case hd => rfl); (case hg => rfl); (case hr => first | (go_simp; done) | (go_simp; rfl)); intro gb126 hg w5 hbox hb; have n0_ := qac.mk (qai (by repeat (first | (with_reducible first | exact HB.out | apply qae | apply qad | apply qaf) | exact HB.out)) hb); have n1_ := qac.mk (hbox); have n2_ := qac.mk ((by rw [hg]; exact (qar (by repeat (first | (with_reducible first | exact HB.out | apply qae | apply qad | apply qaf) | exact HB.out))) : w.heap.size ≤ gb126)); have n3_ := qac.mk ((by rw [hg]; exact (qar (by repeat (first | (with_reducible first | exact HB.out | apply qae | apply qad | apply qaf) | exact HB.out))) : w.heap.size ≤ gb126)); clear HB; have HB := n0_; have BK126 := n1_; have GW126 := n2_; have GE126 := n3_; clear n0_ n1_ n2_ n3_; clear hb hbox hg; have hcz6_0 : w5.cell? ⟨gb126, 0, none⟩ = some (.slice A0_0 l0_0.length c0_0) := (qaa BK126.out 0).trans rfl; have hcz6_1 : w5.cell? ⟨gb126, 1, none⟩ = some (.slice A0_1 l0_1.length c0_1) := (qaa BK126.out 1).trans rfl; have hcz6_2 : w5.cell? ⟨gb126, 2, none⟩ = some (.slice A0_2 l0_2.length c0_2) := (qaa BK126.out 2).trans rfl; have hcz6_3 : w5.cell? ⟨gb126, 3, none⟩ = some (.int .i64 a0_3) := (qaa BK126.out 3).trans rfl; have hfz6_0 := qab BK126.out 0; have hfz6_1 := qab BK126.out 1; have hfz6_2 := qab BK126.out 2; have hfz6_3 := qab BK126.out 3) | ((with_reducible refine qau (f := 77) rfl ?_); refine goesL_ (some 10) rfl rfl Try.func77 (by kernel_rfl) rfl #[.agg #[.slice A0_0 l0_0.length c0_0, .slice A0_1 l0_1.length c0_1, .slice A0_2 l0_2.length c0_2, .int .i64 a0_3], .int .i64 a1] rfl (by (try simp only [List.map_toArray, List.map_cons, List.map_nil]); first | done | rfl | (simp only [List.length_drop, List.length_take]; rfl)) ?_; (with_reducible refine (pipe_net_freezes.calls _ _ l0_0 _ _ l0_1 _ _ l0_2 a0_3 a1 t127 t128 _ ?side1 ?side2 ?side3 ?side4 ?side5 ?side6 A3.out).mono ?_); (case side1 => repeat (first | exact (Kd.qal HR0_0.out HB.out) | (with_reducible refine Kd.qan ?_ _) | (with_reducible refine Kd.qao ?_ _) | (with_reducible refine Kd.qaq ?_))); (case side2 => exact HC0_0.out); (case side3 => repeat (first | exact (Kd.qal HR0_1.out HB.out) | (with_reducible refine Kd.qan ?_ _) | (with_reducible refine Kd.qao ?_ _) | (with_reducible refine Kd.qaq ?_))); (case side4 => exact HC0_1.out); (case side5 => repeat (first | exact (Kd.qal HR0_2.out HB.out) | (with_reducible refine Kd.qan ?_ _) | (with_reducible refine Kd.qao ?_ _) | (with_reducible refine Kd.qaq ?_))); (case side6 => exact HC0_2.out); rintro e w7 ⟨rfl, hb⟩; refine ⟨_, rfl, ?_⟩; have n0_ := qac.mk (qam (g := gb126) (o := .cells #[.slice A0_0 l0_0.length c0_0, .slice A0_1 l0_1.length c0_1, .slice A0_2 l0_2.length c0_2, .int .i64 a0_3] 99 (0, 0)) (by (with_reducible repeat (first | refine qak ?_ _ | refine qap ?_ | refine qaj ?_ _)); exact BK126.out) hb); have n1_ := qac.mk (qai (by repeat (first | (with_reducible first | exact HB.out | apply qae | apply qad | apply qaf | refine qag ?_ GE126.out) | exact HB.out)) hb); clear BK126; clear HB; have BK126 := n0_; have HB := n1_; clear n0_ n1_; (try clear hb); (try clear hb2); (try clear hk); (try clear hi)))
  go_ret
  exact ⟨by first | rfl | (simp [qas, qat] <;> rfl) | (simp [*, qas, qat] <;> rfl), by repeat (first | (with_reducible first | exact HB.out | apply qae | apply qad | apply qaf | refine qag ?_ GE126.out) | exact HB.out)⟩
 ·
  rw [if_neg c4] at H
  have c4b0 : decide (0 ≤ t127) = false := decide_eq_false c4
  clear c4
  obtain rfl := Option.some.inj H
  go_enter Try.func89, Try.ntmps89
  go_wp2_with (first | ((with_reducible refine qax (N := 2) rfl ?_); refine qaw ?hg (N := 2) ?hd (cs := #[.slice A0_0 l0_0.length c0_0, .slice A0_1 l0_1.length c0_1, .slice A0_2 l0_2.length c0_2, .int .i64 a0_3]) (t := 99) ?hr ?_; (case hd => rfl); (case hg => rfl); (case hr => first | (go_simp; done) | (go_simp; rfl)); intro gb126 hg w8 hbox hb; have n0_ := qac.mk (qai (by repeat (first | (with_reducible first | exact HB.out | apply qae | apply qad | apply qaf) | exact HB.out)) hb); have n1_ := qac.mk (hbox); have n2_ := qac.mk ((by rw [hg]; exact (qar (by repeat (first | (with_reducible first | exact HB.out | apply qae | apply qad | apply qaf) | exact HB.out))) : w.heap.size ≤ gb126)); have n3_ := qac.mk ((by rw [hg]; exact (qar (by repeat (first | (with_reducible first | exact HB.out | apply qae | apply qad | apply qaf) | exact HB.out))) : w.heap.size ≤ gb126)); clear HB; have HB := n0_; have BK126 := n1_; have GW126 := n2_; have GE126 := n3_; clear n0_ n1_ n2_ n3_; clear hb hbox hg; have hcz9_0 : w8.cell? ⟨gb126, 0, none⟩ = some (.slice A0_0 l0_0.length c0_0) := (qaa BK126.out 0).trans rfl; have hcz9_1 : w8.cell? ⟨gb126, 1, none⟩ = some (.slice A0_1 l0_1.length c0_1) := (qaa BK126.out 1).trans rfl; have hcz9_2 : w8.cell? ⟨gb126, 2, none⟩ = some (.slice A0_2 l0_2.length c0_2) := (qaa BK126.out 2).trans rfl; have hcz9_3 : w8.cell? ⟨gb126, 3, none⟩ = some (.int .i64 a0_3) := (qaa BK126.out 3).trans rfl; have hfz9_0 := qab BK126.out 0; have hfz9_1 := qab BK126.out 1; have hfz9_2 := qab BK126.out 2; have hfz9_3 := qab BK126.out 3) | ((with_reducible refine qau (f := 77) rfl ?_); refine goesL_ (some 10) rfl rfl Try.func77 (by kernel_rfl) rfl #[.agg #[.slice A0_0 l0_0.length c0_0, .slice A0_1 l0_1.length c0_1, .slice A0_2 l0_2.length c0_2, .int .i64 a0_3], .int .i64 a1] rfl (by (try simp only [List.map_toArray, List.map_cons, List.map_nil]); first | done | rfl | (simp only [List.length_drop, List.length_take]; rfl)) ?_; (with_reducible refine (pipe_net_freezes.calls _ _ l0_0 _ _ l0_1 _ _ l0_2 a0_3 a1 t127 t128 _ ?side1 ?side2 ?side3 ?side4 ?side5 ?side6 A3.out).mono ?_); (case side1 => repeat (first | exact (Kd.qal HR0_0.out HB.out) | (with_reducible refine Kd.qan ?_ _) | (with_reducible refine Kd.qao ?_ _) | (with_reducible refine Kd.qaq ?_))); (case side2 => exact HC0_0.out); (case side3 => repeat (first | exact (Kd.qal HR0_1.out HB.out) | (with_reducible refine Kd.qan ?_ _) | (with_reducible refine Kd.qao ?_ _) | (with_reducible refine Kd.qaq ?_))); (case side4 => exact HC0_1.out); (case side5 => repeat (first | exact (Kd.qal HR0_2.out HB.out) | (with_reducible refine Kd.qan ?_ _) | (with_reducible refine Kd.qao ?_ _) | (with_reducible refine Kd.qaq ?_))); (case side6 => exact HC0_2.out); rintro e w10 ⟨rfl, hb⟩; refine ⟨_, rfl, ?_⟩; have n0_ := qac.mk (qam (g := gb126) (o := .cells #[.slice A0_0 l0_0.length c0_0, .slice A0_1 l0_1.length c0_1, .slice A0_2 l0_2.length c0_2, .int .i64 a0_3] 99 (0, 0)) (by (with_reducible repeat (first | refine qak ?_ _ | refine qap ?_ | refine qaj ?_ _)); exact BK126.out) hb); have n1_ := qac.mk (qai (by repeat (first | (with_reducible first | exact HB.out | apply qae | apply qad | apply qaf | refine qag ?_ GE126.out) | exact HB.out)) hb); clear BK126; clear HB; have BK126 := n0_; have HB := n1_; clear n0_ n1_; (try clear hb); (try clear hb2); (try clear hk); (try clear hi); have hcz11_0 : w10.cell? ⟨gb126, 0, none⟩ = some (.slice A0_0 l0_0.length c0_0) := (qaa BK126.out 0).trans rfl; have hcz11_1 : w10.cell? ⟨gb126, 1, none⟩ = some (.slice A0_1 l0_1.length c0_1) := (qaa BK126.out 1).trans rfl; have hcz11_2 : w10.cell? ⟨gb126, 2, none⟩ = some (.slice A0_2 l0_2.length c0_2) := (qaa BK126.out 2).trans rfl; have hcz11_3 : w10.cell? ⟨gb126, 3, none⟩ = some (.int .i64 a0_3) := (qaa BK126.out 3).trans rfl; have hfz11_0 := qab BK126.out 0; have hfz11_1 := qab BK126.out 1; have hfz11_2 := qab BK126.out 2; have hfz11_3 := qab BK126.out 3))
  go_ret
  exact ⟨by first | rfl | (simp [qas, qat] <;> rfl) | (simp [*, qas, qat] <;> rfl), by repeat (first | (with_reducible first | exact HB.out | apply qae | apply qad | apply qaf | refine qag ?_ GE126.out) | exact HB.out)⟩
end Go.Proofs.Ytipphcjgdebecaa.PA
namespace Go.Proofs.Ytipphcjgdebecaa.PA
open Go.RowKit Go.Proofs.YtipphcjgdebecaaW.PrintWords Go.Proofs.YtipphcjgdebecaaW.PrintLast Go.Proofs.YtipphcjgdebecaaW.PrintMore
attribute [local go_sem] max2_int min2_int max_two min_two max_three min_three max_four min_four
theorem ta137 (v : Value) (W : World) : (Instr.typeAssert (.iface 137 v) 20 137 true).run Try.prog W = .ok (.tuple #[v, .bool true]) W := by
 have h := Try.underlying137
 simp [Instr.typeAssert, go_sem, h]
set_option maxRecDepth 100000 in
set_option maxHeartbeats 1000000 in
theorem repaired1_late (g : Nat) (x : Bool) (i : Int) (w : World) (hb : w.heap[g]? = some (.cells #[.bool x] 4 (0, 0))) :
  CallsD Try.prog 103 #[.pointer (some ⟨g, 0, none⟩)] (.panicking ({ v := .iface 137 (.agg #[.int .i64 i]), recovered := false } :: [])) w fun e u' w' =>
   e = .returned (.tuple #[]) ∧ u' = .panicking ({ v := .iface 137 (.agg #[.int .i64 i]), recovered := true } :: []) ∧ w' = (w.alloc (.cells #[.int .i64 i] 137)).setCell ⟨g, 0, none⟩ (.bool false) := by
 have hta := ta137
 have hb1 := qaj hb (.cells #[.int .i64 i] 137)
 have h1 : (w.alloc (.cells #[.int .i64 i] 137)).cell? ⟨g, 0, none⟩ = some (.bool x) := qaa hb1 0
 have h2 : (w.alloc (.cells #[.int .i64 i] 137)).frozen? ⟨g, 0, none⟩ = false := qab hb1 0
 clear hb hb1
 refine callsD_of_wpS Try.func103 rfl fun c₀ cs hu => ?_
 apply wpS_seq
 apply wpS_region
 simp [wpOpsS, go_sem, recoverD, hu, Try.ntmps103, Exit.thenS]
 refine wpS_of_wp ?_
 go_wp2
 cases c₀
 simp_all [bodyPostS, results, Try.results103]
set_option maxRecDepth 100000 in
set_option maxHeartbeats 1000000 in
theorem repaired1_idle (p : Addr) (w : World) :
  CallsD Try.prog 103 #[.pointer (some p)] .returning w fun e u' w' => e = .returned (.tuple #[]) ∧ u' = .returning ∧ w' = w := by
 refine callsD_of_wpS Try.func103 rfl fun c₀ cs hu => ?_
 apply wpS_seq
 apply wpS_region
 simp [wpOpsS, go_sem, recoverD, hu, Try.ntmps103, Exit.thenS]
 refine wpS_of_wp ?_
 go_wp2
 cases c₀
 simp_all [bodyPostS, results, Try.results103]
def repV (l0 : List S39) (l2 : List (List Int)) (D : List Int) (s : Sp) (i : Int) : Sp × Int × Bool :=
 if hourV l0 l2 s i > rd D i then (⟨0, 0, 0⟩, 0, false) else (nextV l0 l2 s i, wrap64 (rd D i - hourV l0 l2 s i), true)
set_option maxRecDepth 100000 in
set_option maxHeartbeats 4000000 in
theorem repaired_calls (A0 : Option Addr) (c0 : Nat) (l0 : List S39) (v1 : Value) (A2 : Option Addr) (c2 : Nat) (l2 : List (List Int)) (wp : Int) (s : Sp) (i : Int) (A3 : Option Addr) (c3 : Nat) (D : List Int) (w : World)
  (hr0 : Kd.C k39 w A0 l0.length l0) (hr2 : Kd.C (Kd.slice 3 (Kd.int .i64)) w A2 l2.length l2) (hr3 : Kd.C (Kd.int .i64) w A3 D.length D)
  (p0 : 0 ≤ s.p) (p1 : s.p < l2.length) (i0 : 0 ≤ i) (i1 : i < l0.length) (i2 : i + 1 < (rd_L1 l2 s.p).length) (i3 : i < D.length) (i4 : i < 60) :
  Calls Try.prog 92 #[.agg #[.slice A0 l0.length c0, v1, .slice A2 l2.length c2, .int .i64 wp], spV s, .int .i64 i, .slice A3 D.length c3] w fun e w' =>
   e = .returned (.tuple #[spV (repV l0 l2 D s i).1, .int .i64 (repV l0 l2 D s i).2.1, .bool (repV l0 l2 D s i).2.2]) ∧ Below w.heap.size w w' := by
 have hu26 := Try.underlying26
 have hu99 := Try.underlying99
 have hu123 := Try.underlying123
 have hmf : ∀ (fn : Fn) (first cap : Array Value) (w : World), (Instr.makeFunc fn first cap).run Try.prog w = .ok (.func fn first cap) w := fun _ _ _ _ => rfl
 have H0 := qac.mk hr0
 have H2 := qac.mk hr2
 have H3 := qac.mk hr3
 clear hr0 hr2 hr3
 have HB := qac.mk (Below.refl w.heap.size w)
 unfold repV
 obtain ⟨p, h, r⟩ := s
 simp only [spV_eq]
 dsimp only at p0 p1 i2
 by_cases hlate : hourV l0 l2 ⟨p, h, r⟩ i > rd D i
 ·
  simp only [if_pos hlate]
  have HL := qac.mk hlate
  clear hlate
  go_enter_defers Try.func92, Try.ntmps92
  go_wp2_with ((first | ((with_reducible refine qax (N := 4) rfl ?_); refine qaw ?hg (N := 4) ?hd (cs := #[.slice A0 l0.length c0, v1, .slice A2 l2.length c2, .int .i64 wp]) (t := 99) ?hr ?_; (case hd => rfl); (case hg => rfl); (case hr => first | (go_simp; done) | (go_simp; rfl)); intro gb hg_gb w2 hbox hb; have BKgb := qac.mk hbox; have n_HB := qac.mk (qai HB.out hb); have GEgb : w.heap.size ≤ gb := (by rw [hg_gb]; exact HB.out.size); clear HB; have HB := n_HB; clear n_HB; clear hbox hb hg_gb) | ((with_reducible refine qax (N := 5) rfl ?_); refine qaw ?hg (N := 5) ?hd (cs := #[.int .i64 p, .int .i64 h, .int .i64 r]) (t := 123) ?hr ?_; (case hd => rfl); (case hg => rfl); (case hr => first | (go_simp; done) | (go_simp; rfl)); intro gs hg_gs w3 hbox hb; have BKgs := qac.mk hbox; have n_BKgb := qac.mk (qam BKgb.out hb); clear BKgb; have BKgb := n_BKgb; clear n_BKgb; have n_HB := qac.mk (qai HB.out hb); have GEgs : w.heap.size ≤ gs := (by rw [hg_gs]; exact HB.out.size); clear HB; have HB := n_HB; clear n_HB; clear hbox hb hg_gs) | ((with_reducible refine qax (N := 8) rfl ?_); refine qaw ?hg (N := 8) ?hd (cs := #[.int .i64 0, .int .i64 0, .int .i64 0]) (t := 123) ?hr ?_; (case hd => rfl); (case hg => rfl); (case hr => first | (go_simp; done) | (go_simp; rfl)); intro gz hg_gz w4 hbox hb; have BKgz := qac.mk hbox; have n_BKgb := qac.mk (qam BKgb.out hb); clear BKgb; have BKgb := n_BKgb; clear n_BKgb; have n_BKgs := qac.mk (qam BKgs.out hb); clear BKgs; have BKgs := n_BKgs; clear n_BKgs; have n_HB := qac.mk (qai HB.out hb); have GEgz : w.heap.size ≤ gz := (by rw [hg_gz]; exact HB.out.size); clear HB; have HB := n_HB; clear n_HB; clear hbox hb hg_gz) | ((with_reducible refine qax (N := 10) rfl ?_); refine qaw ?hg (N := 10) ?hd (cs := #[.bool false]) (t := 4) ?hr ?_; (case hd => rfl); (case hg => rfl); (case hr => first | (go_simp; done) | (go_simp; rfl)); intro gi hg_gi w5 hbox hb; have BKgi := qac.mk hbox; have n_BKgb := qac.mk (qam BKgb.out hb); clear BKgb; have BKgb := n_BKgb; clear n_BKgb; have n_BKgs := qac.mk (qam BKgs.out hb); clear BKgs; have BKgs := n_BKgs; clear n_BKgs; have n_BKgz := qac.mk (qam BKgz.out hb); clear BKgz; have BKgz := n_BKgz; clear n_BKgz; have n_HB := qac.mk (qai HB.out hb); have GEgi : w.heap.size ≤ gi := (by rw [hg_gi]; exact HB.out.size); clear HB; have HB := n_HB; clear n_HB; clear hbox hb hg_gi; have hfgb := qab BKgb.out; have hcgb_0 : w5.cell? ⟨gb, 0, none⟩ = some (.slice A0 l0.length c0) := (qaa BKgb.out 0).trans rfl; have hcgb_1 : w5.cell? ⟨gb, 1, none⟩ = some (v1) := (qaa BKgb.out 1).trans rfl; have hcgb_2 : w5.cell? ⟨gb, 2, none⟩ = some (.slice A2 l2.length c2) := (qaa BKgb.out 2).trans rfl; have hcgb_3 : w5.cell? ⟨gb, 3, none⟩ = some (.int .i64 wp) := (qaa BKgb.out 3).trans rfl; have hfgs := qab BKgs.out; have hcgs_0 : w5.cell? ⟨gs, 0, none⟩ = some (.int .i64 p) := (qaa BKgs.out 0).trans rfl; have hcgs_1 : w5.cell? ⟨gs, 1, none⟩ = some (.int .i64 h) := (qaa BKgs.out 1).trans rfl; have hcgs_2 : w5.cell? ⟨gs, 2, none⟩ = some (.int .i64 r) := (qaa BKgs.out 2).trans rfl; have hfgz := qab BKgz.out; have hcgz_0 : w5.cell? ⟨gz, 0, none⟩ = some (.int .i64 0) := (qaa BKgz.out 0).trans rfl; have hcgz_1 : w5.cell? ⟨gz, 1, none⟩ = some (.int .i64 0) := (qaa BKgz.out 1).trans rfl; have hcgz_2 : w5.cell? ⟨gz, 2, none⟩ = some (.int .i64 0) := (qaa BKgz.out 2).trans rfl; have hfgi := qab BKgi.out; have hcgi_0 : w5.cell? ⟨gi, 0, none⟩ = some (.bool false) := (qaa BKgi.out 0).trans rfl)))
  refine (repairs_calls _ _ _ _ _ _ _ _ ⟨p, h, r⟩ i _ _ D w5 (Kd.qal H0.out HB.out) (Kd.qal H2.out HB.out) (Kd.qal H3.out HB.out) p0 p1 i0 i1 i2 i3 i4).mono ?_
  rintro e w6 ⟨he, hb⟩
  rw [if_pos HL.out] at he
  subst he
  clear hfgb hcgb_0 hcgb_1 hcgb_2 hcgb_3 hfgs hcgs_0 hcgs_1 hcgs_2 hfgz hcgz_0 hcgz_1 hcgz_2 hfgi hcgi_0
  have n_BKgb := qac.mk (qam BKgb.out hb); clear BKgb; have BKgb := n_BKgb; clear n_BKgb; have n_BKgs := qac.mk (qam BKgs.out hb); clear BKgs; have BKgs := n_BKgs; clear n_BKgs; have n_BKgz := qac.mk (qam BKgz.out hb); clear BKgz; have BKgz := n_BKgz; clear n_BKgz; have n_BKgi := qac.mk (qam BKgi.out hb); clear BKgi; have BKgi := n_BKgi; clear n_BKgi; have n_HB := qac.mk (qai HB.out hb); clear HB; have HB := n_HB; clear n_HB; clear hb
  try dsimp only
  refine leaves_cons (f := 103) (args := #[.pointer (some ⟨gi, 0, none⟩)]) (by simp) (by simp [go_sem]) ?_
  refine (repaired1_late gi false i w6 BKgi.out).mono ?_
  rintro e u' w'' ⟨rfl, rfl, rfl⟩
  have B1 := qbc (p := ⟨gi, 0, none⟩) (qaj BKgz.out (.cells #[.int .i64 i] 137)) (blk_ne BKgz.out BKgi.out (by decide)) (.bool false)
  have B2 := blk_set (qaj BKgi.out (.cells #[.int .i64 i] 137)) 0 (.bool false)
  have B3 := qag (j := 0) (v := .bool false) (HB.out.alloc HB.out.size (.cells #[.int .i64 i] 137)) GEgi
  generalize (w6.alloc (.cells #[.int .i64 i] 137)).setCell ⟨gi, 0, none⟩ (.bool false) = w7 at B1 B2 B3 ⊢
  have z0 : w7.cell? ⟨gz, 0, none⟩ = some (.int .i64 0) := qaa B1 0
  have z1 : w7.cell? ⟨gz, 1, none⟩ = some (.int .i64 0) := qaa B1 1
  have z2 : w7.cell? ⟨gz, 2, none⟩ = some (.int .i64 0) := qaa B1 2
  have z3 : w7.cell? ⟨gi, 0, none⟩ = some (.bool false) := qaa B2 0
  simp [Leaves, settle, results, Try.results92, go_sem, z0, z1, z2, z3, hu123]
  exact ⟨rfl, B3⟩
 ·
  simp only [if_neg hlate]
  have HL := qac.mk hlate
  clear hlate
  go_enter_defers Try.func92, Try.ntmps92
  go_wp2_with ((first | ((with_reducible refine qax (N := 4) rfl ?_); refine qaw ?hg (N := 4) ?hd (cs := #[.slice A0 l0.length c0, v1, .slice A2 l2.length c2, .int .i64 wp]) (t := 99) ?hr ?_; (case hd => rfl); (case hg => rfl); (case hr => first | (go_simp; done) | (go_simp; rfl)); intro gb hg_gb w2 hbox hb; have BKgb := qac.mk hbox; have n_HB := qac.mk (qai HB.out hb); have GEgb : w.heap.size ≤ gb := (by rw [hg_gb]; exact HB.out.size); clear HB; have HB := n_HB; clear n_HB; clear hbox hb hg_gb) | ((with_reducible refine qax (N := 5) rfl ?_); refine qaw ?hg (N := 5) ?hd (cs := #[.int .i64 p, .int .i64 h, .int .i64 r]) (t := 123) ?hr ?_; (case hd => rfl); (case hg => rfl); (case hr => first | (go_simp; done) | (go_simp; rfl)); intro gs hg_gs w3 hbox hb; have BKgs := qac.mk hbox; have n_BKgb := qac.mk (qam BKgb.out hb); clear BKgb; have BKgb := n_BKgb; clear n_BKgb; have n_HB := qac.mk (qai HB.out hb); have GEgs : w.heap.size ≤ gs := (by rw [hg_gs]; exact HB.out.size); clear HB; have HB := n_HB; clear n_HB; clear hbox hb hg_gs) | ((with_reducible refine qax (N := 8) rfl ?_); refine qaw ?hg (N := 8) ?hd (cs := #[.int .i64 0, .int .i64 0, .int .i64 0]) (t := 123) ?hr ?_; (case hd => rfl); (case hg => rfl); (case hr => first | (go_simp; done) | (go_simp; rfl)); intro gz hg_gz w4 hbox hb; have BKgz := qac.mk hbox; have n_BKgb := qac.mk (qam BKgb.out hb); clear BKgb; have BKgb := n_BKgb; clear n_BKgb; have n_BKgs := qac.mk (qam BKgs.out hb); clear BKgs; have BKgs := n_BKgs; clear n_BKgs; have n_HB := qac.mk (qai HB.out hb); have GEgz : w.heap.size ≤ gz := (by rw [hg_gz]; exact HB.out.size); clear HB; have HB := n_HB; clear n_HB; clear hbox hb hg_gz) | ((with_reducible refine qax (N := 10) rfl ?_); refine qaw ?hg (N := 10) ?hd (cs := #[.bool false]) (t := 4) ?hr ?_; (case hd => rfl); (case hg => rfl); (case hr => first | (go_simp; done) | (go_simp; rfl)); intro gi hg_gi w5 hbox hb; have BKgi := qac.mk hbox; have n_BKgb := qac.mk (qam BKgb.out hb); clear BKgb; have BKgb := n_BKgb; clear n_BKgb; have n_BKgs := qac.mk (qam BKgs.out hb); clear BKgs; have BKgs := n_BKgs; clear n_BKgs; have n_BKgz := qac.mk (qam BKgz.out hb); clear BKgz; have BKgz := n_BKgz; clear n_BKgz; have n_HB := qac.mk (qai HB.out hb); have GEgi : w.heap.size ≤ gi := (by rw [hg_gi]; exact HB.out.size); clear HB; have HB := n_HB; clear n_HB; clear hbox hb hg_gi; have hfgb := qab BKgb.out; have hcgb_0 : w5.cell? ⟨gb, 0, none⟩ = some (.slice A0 l0.length c0) := (qaa BKgb.out 0).trans rfl; have hcgb_1 : w5.cell? ⟨gb, 1, none⟩ = some (v1) := (qaa BKgb.out 1).trans rfl; have hcgb_2 : w5.cell? ⟨gb, 2, none⟩ = some (.slice A2 l2.length c2) := (qaa BKgb.out 2).trans rfl; have hcgb_3 : w5.cell? ⟨gb, 3, none⟩ = some (.int .i64 wp) := (qaa BKgb.out 3).trans rfl; have hfgs := qab BKgs.out; have hcgs_0 : w5.cell? ⟨gs, 0, none⟩ = some (.int .i64 p) := (qaa BKgs.out 0).trans rfl; have hcgs_1 : w5.cell? ⟨gs, 1, none⟩ = some (.int .i64 h) := (qaa BKgs.out 1).trans rfl; have hcgs_2 : w5.cell? ⟨gs, 2, none⟩ = some (.int .i64 r) := (qaa BKgs.out 2).trans rfl; have hfgz := qab BKgz.out; have hcgz_0 : w5.cell? ⟨gz, 0, none⟩ = some (.int .i64 0) := (qaa BKgz.out 0).trans rfl; have hcgz_1 : w5.cell? ⟨gz, 1, none⟩ = some (.int .i64 0) := (qaa BKgz.out 1).trans rfl; have hcgz_2 : w5.cell? ⟨gz, 2, none⟩ = some (.int .i64 0) := (qaa BKgz.out 2).trans rfl; have hfgi := qab BKgi.out; have hcgi_0 : w5.cell? ⟨gi, 0, none⟩ = some (.bool false) := (qaa BKgi.out 0).trans rfl)))
  refine (repairs_calls _ _ _ _ _ _ _ _ ⟨p, h, r⟩ i _ _ D w5 (Kd.qal H0.out HB.out) (Kd.qal H2.out HB.out) (Kd.qal H3.out HB.out) p0 p1 i0 i1 i2 i3 i4).mono ?_
  rintro e w6 ⟨he, hb⟩
  rw [if_neg (Int.not_lt.2 HL.out)] at he
  subst he
  clear hfgb hcgb_0 hcgb_1 hcgb_2 hcgb_3 hfgs hcgs_0 hcgs_1 hcgs_2 hfgz hcgz_0 hcgz_1 hcgz_2 hfgi hcgi_0
  have nzi := blk_ne BKgz.out BKgi.out (by decide)
  have n_BKgb := qac.mk (qam BKgb.out hb); clear BKgb; have BKgb := n_BKgb; clear n_BKgb; have n_BKgs := qac.mk (qam BKgs.out hb); clear BKgs; have BKgs := n_BKgs; clear n_BKgs; have n_BKgz := qac.mk (qam BKgz.out hb); clear BKgz; have BKgz := n_BKgz; clear n_BKgz; have n_BKgi := qac.mk (qam BKgi.out hb); clear BKgi; have BKgi := n_BKgi; clear n_BKgi; have n_HB := qac.mk (qai HB.out hb); clear HB; have HB := n_HB; clear n_HB; clear hb
  clear BKgb BKgs
  obtain ⟨q, hq⟩ : ∃ q, nextV l0 l2 ⟨p, h, r⟩ i = q := ⟨_, rfl⟩
  rw [hq]
  have HQ := qac.mk hq
  clear hq
  obtain ⟨q0, q1, q2⟩ := q
  simp only [spV_eq]
  have hfgz := qab BKgz.out; have hcgz_0 : w6.cell? ⟨gz, 0, none⟩ = some (.int .i64 0) := (qaa BKgz.out 0).trans rfl; have hcgz_1 : w6.cell? ⟨gz, 1, none⟩ = some (.int .i64 0) := (qaa BKgz.out 1).trans rfl; have hcgz_2 : w6.cell? ⟨gz, 2, none⟩ = some (.int .i64 0) := (qaa BKgz.out 2).trans rfl
  have hfgi := qab BKgi.out; have hcgi_0 : w6.cell? ⟨gi, 0, none⟩ = some (.bool false) := (qaa BKgi.out 0).trans rfl
  have nzi2 := nzi.symm
  go_wp2
  refine leaves_cons (f := 103) (args := #[.pointer (some ⟨gi, 0, none⟩)]) (by simp) (by simp [go_sem]) ?_
  refine (repaired1_idle ⟨gi, 0, none⟩ _).mono ?_
  rintro e u' w'' ⟨rfl, rfl, rfl⟩
  have B1 := qbc (p := ⟨gi, 0, none⟩) (blk_set (blk_set (blk_set (blk_set (blk_set (blk_set BKgz.out 0 (.int .i64 q0)) 1 (.int .i64 q1)) 2 (.int .i64 q2)) 0 (.int .i64 q0)) 1 (.int .i64 q1)) 2 (.int .i64 q2)) nzi (.bool true)
  have B2 := blk_set (qbc (p := ⟨gz, 2, none⟩) (qbc (p := ⟨gz, 1, none⟩) (qbc (p := ⟨gz, 0, none⟩) (qbc (p := ⟨gz, 2, none⟩) (qbc (p := ⟨gz, 1, none⟩) (qbc (p := ⟨gz, 0, none⟩) BKgi.out nzi2 (.int .i64 q0)) nzi2 (.int .i64 q1)) nzi2 (.int .i64 q2)) nzi2 (.int .i64 q0)) nzi2 (.int .i64 q1)) nzi2 (.int .i64 q2)) 0 (.bool true)
  have B3 := qag (j := 0) (v := .bool true) (qag (j := 2) (v := .int .i64 q2) (qag (j := 1) (v := .int .i64 q1) (qag (j := 0) (v := .int .i64 q0) (qag (j := 2) (v := .int .i64 q2) (qag (j := 1) (v := .int .i64 q1) (qag (j := 0) (v := .int .i64 q0) HB.out GEgz) GEgz) GEgz) GEgz) GEgz) GEgz) GEgi
  dsimp only
  generalize World.setCell _ ⟨gi, 0, none⟩ (.bool true) = w7 at B1 B2 B3 ⊢
  have z0 : w7.cell? ⟨gz, 0, none⟩ = some (.int .i64 q0) := qaa B1 0
  have z1 : w7.cell? ⟨gz, 1, none⟩ = some (.int .i64 q1) := qaa B1 1
  have z2 : w7.cell? ⟨gz, 2, none⟩ = some (.int .i64 q2) := qaa B1 2
  have z3 : w7.cell? ⟨gi, 0, none⟩ = some (.bool true) := qaa B2 0
  simp [Leaves, settle, results, Try.results92, go_sem, z0, z1, z2, z3, hu123]
  exact ⟨by rw [HQ.out]; rfl, B3⟩
end Go.Proofs.Ytipphcjgdebecaa.PA
namespace Go.Proofs.Ytipphcjgdebecaa.PA
open Go.RowKit Go.Proofs.YtipphcjgdebecaaW.PrintWords Go.Proofs.YtipphcjgdebecaaW.PrintLast Go.Proofs.YtipphcjgdebecaaW.PrintMore
attribute [local go_sem] max2_int min2_int max_two min_two max_three min_three max_four min_four
abbrev Way := List Int × Int × Bool
def ofV (l0 : List S39) (l2 : List (List Int)) (D : List Int) (f : Sp → Way) (s : Sp) (i : Int) : Int × Bool :=
 if (repV l0 l2 D s i).2.2 = true then (min (repV l0 l2 D s i).2.1 (f (repV l0 l2 D s i).1).2.1, (f (repV l0 l2 D s i).1).2.2) else (0, false)
def goodV (l0 : List S39) (l2 : List (List Int)) (D : List Int) (f : Sp → Way) (slack : Int) (s : Sp) (i : Int) : Bool :=
 (repV l0 l2 D s i).2.2 && decide (slack ≤ (repV l0 l2 D s i).2.1) && (f (repV l0 l2 D s i).1).2.2 && decide (slack ≤ (f (repV l0 l2 D s i).1).2.1)
def sameV (l0 : List S39) (l2 : List (List Int)) (D : List Int) (f : Sp → Way) (slack : Int) : Nat → Sp → List Int → List Int
 | 0, _, out => out
 | k + 1, s, out => if s.r = 0 then out else
  match (qay s.r 5).find? (goodV l0 l2 D f slack s) with
  | some i => sameV l0 l2 D f slack k (repV l0 l2 D s i).1 (out ++ [i])
  | none => out
def stepV (l0 : List S39) (l1 : List S37) (l2 : List (List Int)) (D : List Int) (f : Sp → Way) (s : Sp) : Way :=
 if s.r = 0 then ([], (l1.length : Int), true) else
  (if (g1 (ofV l0 l2 D f s) (qay s.r 5)).2.2 = true then sameV l0 l2 D f (g1 (ofV l0 l2 D f s) (qay s.r 5)).2.1 5 (repV l0 l2 D s (g1 (ofV l0 l2 D f s) (qay s.r 5)).1).1 [(g1 (ofV l0 l2 D f s) (qay s.r 5)).1] else [],
   (g1 (ofV l0 l2 D f s) (qay s.r 5)).2.1, (g1 (ofV l0 l2 D f s) (qay s.r 5)).2.2)
def searchV (l0 : List S39) (l1 : List S37) (l2 : List (List Int)) (D : List Int) : Nat → Sp → Way
 | 0, _ => ([], (l1.length : Int), true)
 | k + 1, s => stepV l0 l1 l2 D (searchV l0 l1 l2 D k) s
def cntB (r : Int) : Nat := (qay r 5).length
theorem bits_all : (List.range 32).all (fun r => (List.range 5).all (fun i => !(bitB r i) ||
  (decide (0 ≤ bits .andNot .i64 (r : Int) (wrap64 (2 ^ i))) && decide (bits .andNot .i64 (r : Int) (wrap64 (2 ^ i)) < 32) &&
   decide (qay (bits .andNot .i64 (r : Int) (wrap64 (2 ^ i))) 5 = (qay (r : Int) 5).filter (fun j => j != (i : Int)))))) = true := by kernel_rfl
theorem mem_loopsOf (f : Int) (n : Nat) (x : Int) : x ∈ qay f n ↔ ∃ k : Nat, x = k ∧ k < n ∧ bitB f k = true := by
 induction n with
 | zero => simp [qay]
 | succ n ih =>
  unfold qay
  split
  ·
   rename_i h
   simp only [List.mem_append, ih, List.mem_singleton]
   constructor
   ·
    rintro (⟨k, rfl, hk, hb⟩ | rfl)
    ·
     exact ⟨k, rfl, by omega, hb⟩
    ·
     exact ⟨n, rfl, by omega, h⟩
   ·
    rintro ⟨k, rfl, hk, hb⟩
    rcases Nat.lt_or_ge k n with h1 | h1
    ·
     exact .inl ⟨k, rfl, h1, hb⟩
    ·
     exact .inr (by congr 1; omega)
  ·
   rename_i h
   rw [ih]
   constructor
   ·
    rintro ⟨k, rfl, hk, hb⟩
    exact ⟨k, rfl, by omega, hb⟩
   ·
    rintro ⟨k, rfl, hk, hb⟩
    refine ⟨k, rfl, ?_, hb⟩
    rcases Nat.lt_or_ge k n with h1 | h1
    ·
     exact h1
    ·
     obtain rfl : k = n := by omega
     exact absurd hb h
theorem nodup_loopsOf (f : Int) (n : Nat) : (qay f n).Nodup := by
 induction n with
 | zero => simp [qay]
 | succ n ih =>
  unfold qay
  split
  ·
   rw [List.nodup_append]
   refine ⟨ih, by simp, ?_⟩
   intro a ha b hb
   simp only [List.mem_singleton] at hb
   obtain ⟨k, rfl, hk, _⟩ := (mem_loopsOf f n a).1 ha
   subst hb
   intro e
   have : (k : Int) = n := e
   omega
  ·
   exact ih
theorem rest_of (r : Int) (h0 : 0 ≤ r) (h1 : r < 32) (i : Int) (hi : i ∈ qay r 5) :
  0 ≤ bits .andNot .i64 r (wrap64 (2 ^ i.toNat)) ∧ bits .andNot .i64 r (wrap64 (2 ^ i.toNat)) < 32 ∧
   qay (bits .andNot .i64 r (wrap64 (2 ^ i.toNat))) 5 = (qay r 5).filter (fun j => j != i) := by
 obtain ⟨k, rfl, hk, hb⟩ := (mem_loopsOf r 5 i).1 hi
 obtain ⟨n, rfl⟩ := Int.eq_ofNat_of_zero_le h0
 have h := bits_all
 rw [List.all_eq_true] at h
 have h2 := h n (by simp; omega)
 rw [List.all_eq_true] at h2
 have h3 := h2 k (by simp; omega)
 rw [hb] at h3
 simp only [Bool.not_true, Bool.false_or, Bool.and_eq_true, decide_eq_true_eq] at h3
 rw [Int.toNat_natCast]
 exact ⟨h3.1.1, h3.1.2, h3.2⟩
theorem cnt_next (r : Int) (h0 : 0 ≤ r) (h1 : r < 32) (i : Int) (hi : i ∈ qay r 5) : cntB (bits .andNot .i64 r (wrap64 (2 ^ i.toNat))) + 1 = cntB r := by
 unfold cntB
 rw [(rest_of r h0 h1 i hi).2.2]
 have := (nodup_loopsOf r 5).erase_eq_filter i
 rw [← this, List.length_erase_of_mem hi]
 have := List.length_pos_of_mem hi
 omega
theorem bits_zero : (List.range 32).all (fun r => decide ((r : Int) = 0) == decide (qay (r : Int) 5 = [])) = true := by kernel_rfl
theorem cnt_zero (r : Int) (h0 : 0 ≤ r) (h1 : r < 32) : cntB r = 0 ↔ r = 0 := by
 obtain ⟨n, rfl⟩ := Int.eq_ofNat_of_zero_le h0
 have h := bits_zero
 rw [List.all_eq_true] at h
 have h2 := h n (by simp; omega)
 rw [beq_iff_eq] at h2
 unfold cntB
 rw [List.length_eq_zero_iff]
 exact (decide_eq_decide.1 h2).symm
theorem cnt_le (r : Int) : cntB r ≤ 5 := by
 unfold cntB
 have : ∀ n, (qay r n).length ≤ n := by
  intro n
  induction n with
  | zero => simp [qay]
  | succ n ih =>
   unfold qay
   split
   ·
    simp
    omega
   ·
    omega
 exact this 5
def OkS (s : Sp) : Prop := 0 ≤ s.r ∧ s.r < 32
section
variable (l0 : List S39) (l1 : List S37) (l2 : List (List Int)) (D : List Int)
theorem rep_next (s : Sp) (i : Int) (h : (repV l0 l2 D s i).2.2 = true) : (repV l0 l2 D s i).1 = nextV l0 l2 s i := by
 unfold repV at h ⊢
 split
 ·
  rename_i hc
  rw [if_pos hc] at h
  cases h
 ·
  rfl
theorem next_ok (s : Sp) (hs : OkS s) (i : Int) (hi : i ∈ qay s.r 5) (h : (repV l0 l2 D s i).2.2 = true) : OkS (repV l0 l2 D s i).1 ∧ cntB (repV l0 l2 D s i).1.r + 1 = cntB s.r := by
 rw [rep_next l0 l2 D s i h]
 have h1 := rest_of s.r hs.1 hs.2 i hi
 exact ⟨⟨h1.1, h1.2.1⟩, cnt_next s.r hs.1 hs.2 i hi⟩
theorem g1_congr (of of' : Int → Int × Bool) (l : List Int) (h : ∀ x ∈ l, of x = of' x) : g1 of l = g1 of' l := by
 unfold g1
 generalize ((0, 0, false) : Int × Int × Bool) = a
 induction l generalizing a with
 | nil => rfl
 | cons x t ih =>
  simp only [List.foldl_cons]
  have : g1s of a x = g1s of' a x := by unfold g1s; rw [h x (by simp)]
  rw [this]
  exact ih (fun y hy => h y (by simp [hy])) _
theorem g1_mem (of : Int → Int × Bool) (l : List Int) (h : (g1 of l).2.2 = true) : (g1 of l).1 ∈ l ∧ of (g1 of l).1 = ((g1 of l).2.1, true) := by
 have key : ∀ (l : List Int) (a : Int × Int × Bool), (l.foldl (g1s of) a).2.2 = true → (l.foldl (g1s of) a = a) ∨ ((l.foldl (g1s of) a).1 ∈ l ∧ of (l.foldl (g1s of) a).1 = ((l.foldl (g1s of) a).2.1, true)) := by
  intro l
  induction l with
  | nil => intro a _; exact .inl rfl
  | cons x t ih =>
   intro a ha
   simp only [List.foldl_cons] at ha ⊢
   rcases ih _ ha with h1 | h1
   ·
    rw [h1]
    unfold g1s
    split
    ·
     rename_i hc
     exact .inr ⟨by simp, Prod.ext rfl hc.1⟩
    ·
     exact .inl rfl
   ·
    exact .inr ⟨by simp [h1.1], h1.2⟩
 rcases key l _ h with h1 | h1
 ·
  unfold g1 at h
  rw [h1] at h
  cases h
 ·
  exact h1
theorem sameV_congr (f g : Sp → Way) (slack : Int) (n : Nat) (hfg : ∀ s, OkS s → cntB s.r < n → f s = g s) : ∀ (k : Nat) (s : Sp) (out : List Int), OkS s → cntB s.r ≤ n → sameV l0 l2 D f slack k s out = sameV l0 l2 D g slack k s out := by
 intro k
 induction k with
 | zero => intro s out _ _; rfl
 | succ k ih =>
  intro s out hs hc
  unfold sameV
  split
  ·
   rfl
  ·
   have hgood : ∀ i ∈ qay s.r 5, goodV l0 l2 D f slack s i = goodV l0 l2 D g slack s i := by
    intro i hi
    unfold goodV
    cases hr : (repV l0 l2 D s i).2.2 with
    | false => simp
    | true =>
     have hn := next_ok l0 l2 D s hs i hi hr
     rw [hfg _ hn.1 (by omega)]
   have hfind : (qay s.r 5).find? (goodV l0 l2 D f slack s) = (qay s.r 5).find? (goodV l0 l2 D g slack s) := by
    generalize qay s.r 5 = l at hgood
    induction l with
    | nil => rfl
    | cons x t iht =>
     simp only [List.find?_cons]
     rw [hgood x (by simp), iht (fun i hi => hgood i (by simp [hi]))]
   rw [hfind]
   cases hf : (qay s.r 5).find? (goodV l0 l2 D g slack s) with
   | none => rfl
   | some i =>
    have hi := List.mem_of_find?_eq_some hf
    have hp := List.find?_some hf
    have hr : (repV l0 l2 D s i).2.2 = true := by
     unfold goodV at hp
     simp only [Bool.and_eq_true] at hp
     exact hp.1.1.1
    have hn := next_ok l0 l2 D s hs i hi hr
    exact ih _ _ hn.1 (by omega)
theorem ofV_yes (f : Sp → Way) (s : Sp) (i n : Int) (h : ofV l0 l2 D f s i = (n, true)) : (repV l0 l2 D s i).2.2 = true ∧ min (repV l0 l2 D s i).2.1 (f (repV l0 l2 D s i).1).2.1 = n ∧ (f (repV l0 l2 D s i).1).2.2 = true := by
 unfold ofV at h
 split at h
 ·
  rename_i hr
  injection h with h1 h2
  exact ⟨hr, h1, h2⟩
 ·
  injection h with h1 h2
  cases h2
theorem stepV_congr (f g : Sp → Way) (s : Sp) (hs : OkS s) (hfg : ∀ s', OkS s' → cntB s'.r < cntB s.r → f s' = g s') : stepV l0 l1 l2 D f s = stepV l0 l1 l2 D g s := by
 unfold stepV
 split
 ·
  rfl
 ·
  have hof : g1 (ofV l0 l2 D f s) (qay s.r 5) = g1 (ofV l0 l2 D g s) (qay s.r 5) := by
   apply g1_congr
   intro i hi
   unfold ofV
   split
   ·
    rename_i hr
    have hn := next_ok l0 l2 D s hs i hi hr
    rw [hfg _ hn.1 (by omega)]
   ·
    rfl
  rw [hof]
  by_cases hfound : (g1 (ofV l0 l2 D g s) (qay s.r 5)).2.2 = true
  ·
   rw [if_pos hfound, if_pos hfound]
   have hm := g1_mem _ _ hfound
   have hr := (ofV_yes l0 l2 D g s _ _ hm.2).1
   have hn := next_ok l0 l2 D s hs _ hm.1 hr
   rw [sameV_congr l0 l2 D f g _ (cntB s.r) hfg 5 _ _ hn.1 (by omega)]
  ·
   rw [if_neg hfound, if_neg hfound]
theorem searchV_stable : ∀ (n : Nat) (s : Sp), OkS s → cntB s.r ≤ n → ∀ k k', n ≤ k → n ≤ k' → searchV l0 l1 l2 D k s = searchV l0 l1 l2 D k' s := by
 intro n
 induction n with
 | zero =>
  intro s hs hc k k' _ _
  have hz : s.r = 0 := (cnt_zero s.r hs.1 hs.2).1 (by omega)
  have : ∀ k, searchV l0 l1 l2 D k s = ([], (l1.length : Int), true) := by
   intro k
   cases k with
   | zero => rfl
   | succ k => unfold searchV stepV; rw [if_pos hz]
  rw [this, this]
 | succ n ih =>
  intro s hs hc k k' hk hk'
  obtain ⟨a, rfl⟩ : ∃ a, k = a + 1 := ⟨k - 1, by omega⟩
  obtain ⟨b, rfl⟩ : ∃ b, k' = b + 1 := ⟨k' - 1, by omega⟩
  show stepV l0 l1 l2 D (searchV l0 l1 l2 D a) s = stepV l0 l1 l2 D (searchV l0 l1 l2 D b) s
  exact stepV_congr l0 l1 l2 D _ _ s hs (fun s' hs' hc' => ih s' hs' (by omega) a b (by omega) (by omega))
def bestV (s : Sp) : Way := searchV l0 l1 l2 D 5 s
theorem bestV_eq (s : Sp) (hs : OkS s) : bestV l0 l1 l2 D s = stepV l0 l1 l2 D (bestV l0 l1 l2 D) s := by
 have : bestV l0 l1 l2 D s = searchV l0 l1 l2 D 6 s := searchV_stable l0 l1 l2 D 5 s hs (cnt_le _) 5 6 (by omega) (by omega)
 rw [this]
 rfl
theorem good_some (s : Sp) (hs : OkS s) (h0 : s.r ≠ 0) (slack : Int) (hr : (bestV l0 l1 l2 D s).2.2 = true) (hsl : slack ≤ (bestV l0 l1 l2 D s).2.1) :
  ∃ i, (qay s.r 5).find? (goodV l0 l2 D (bestV l0 l1 l2 D) slack s) = some i := by
 rw [bestV_eq l0 l1 l2 D s hs] at hr hsl
 unfold stepV at hr hsl
 rw [if_neg h0] at hr hsl
 dsimp only at hr hsl
 have hm := g1_mem _ _ hr
 have h2 := ofV_yes l0 l2 D _ s _ _ hm.2
 have hg : ((qay s.r 5).find? (goodV l0 l2 D (bestV l0 l1 l2 D) slack s)).isSome = true := by
  rw [List.find?_isSome]
  refine ⟨_, hm.1, ?_⟩
  unfold goodV
  simp only [Bool.and_eq_true, decide_eq_true_eq]
  refine ⟨⟨⟨h2.1, ?_⟩, h2.2.2⟩, ?_⟩ <;> omega
 exact Option.isSome_iff_exists.1 hg
end
end Go.Proofs.Ytipphcjgdebecaa.PA
namespace Go.Proofs.Ytipphcjgdebecaa.PA
open Go.RowKit Go.Proofs.YtipphcjgdebecaaW.PrintWords Go.Proofs.YtipphcjgdebecaaW.PrintLast Go.Proofs.YtipphcjgdebecaaW.PrintMore
attribute [local go_sem] max2_int min2_int max_two min_two max_three min_three max_four min_four
theorem eqA123 (d : Nat) (w : World) (a b : Sp) : (Op.equalIn (d + 2) 123 (spV a) (spV b)).run Try.prog w = .ok (a.p == b.p && (a.h == b.h && (a.r == b.r))) w := by
 refine eqA_of Try.underlying123 (by kernel_rfl) ?_
 refine eqf_cons (by rfl) (by go_simp; rfl) (by go_simp; rfl) (by go_simp) ?_
 refine eqf_cons (by rfl) (by go_simp; rfl) (by go_simp; rfl) (by go_simp) ?_
 exact eqf_last (by rfl) (by go_simp; rfl) (by go_simp; rfl) (by go_simp)
theorem eq123 (w : World) (a b : Sp) : (Op.equal 123 (spV a) (spV b)).run Try.prog w = .ok (decide (a = b)) w := by
 have h := eqA123 9998 w a b
 have e : (a.p == b.p && (a.h == b.h && (a.r == b.r))) = decide (a = b) := by
  rw [Bool.eq_iff_iff]
  simp only [Bool.and_eq_true, beq_iff_eq, decide_eq_true_eq]
  constructor
  ·
   rintro ⟨h1, h2, h3⟩
   cases a; cases b; simp_all
  ·
   rintro rfl
   exact ⟨rfl, rfl, rfl⟩
 rw [e] at h
 exact h
structure KeyKind (κ : Type) [DecidableEq κ] where
 t : TypeId
 enc : κ → Value
 inj : ∀ a b, enc a = enc b → a = b
 check : ∀ (w : World) (em : Bool) (a : κ), (Instr.checkKey em 10000 t (enc a)).run Try.prog w = .ok () w
 find : ∀ (w : World) (a : κ) (es : List MapEntry) (ks : List κ), es.map (·.key) = ks.map enc → (Instr.findKey t (enc a) es).run Try.prog w = .ok ((ks.findIdx? (· == a)).bind fun i => (es[i]?).map fun e => (i, e.val)) w
 stays : ∀ (w : World) (a : κ), (Instr.keyThatStays (enc a) (enc a)).run Try.prog w = .ok (enc a) w
theorem findAsking_run {κ : Type} [DecidableEq κ] (t : TypeId) (enc : κ → Value) (hEq : ∀ (w : World) (a b : κ), (Op.equal t (enc a) (enc b)).run Try.prog w = .ok (decide (a = b)) w) (w : World) (a : κ) :
  ∀ (es : List MapEntry) (ks : List κ) (j : Nat), es.map (·.key) = ks.map enc → (Instr.findAsking t (enc a) es j).run Try.prog w = .ok ((ks.findIdx? (· == a)).bind fun i => (es[i]?).map fun e => (i + j, e.val)) w := by
 intro es
 induction es with
 | nil =>
  intro ks j h
  cases ks with
  | nil => rfl
  | cons k t => cases h
 | cons e es ih =>
  intro ks j h
  cases ks with
  | nil => cases h
  | cons k ks =>
   simp only [List.map_cons, List.cons.injEq] at h
   unfold Instr.findAsking
   have hrun := hEq w a k
   rw [← h.1] at hrun
   simp only [Sem.run_bind, hrun, Result.andThen_ok]
   by_cases hk : a = k
   ·
    subst hk
    simp [List.findIdx?_cons]
   ·
    have hk' : (k == a) = false := by simp [Ne.symm hk]
    simp only [hk, decide_false, Bool.false_eq_true, if_false, ih ks (j + 1) h.2, List.findIdx?_cons, hk', cond_false]
    cases List.findIdx? (· == a) ks with
    | none => rfl
    | some i => simp [Nat.add_assoc, Nat.add_comm 1 j]
theorem check123 (w : World) (em : Bool) (p h r : Int) : (Instr.checkKey em 10000 123 (.agg #[.int .i64 p, .int .i64 h, .int .i64 r])).run Try.prog w = .ok () w := by kernel_rfl
def spotKey : KeyKind Sp where
 t := 123
 enc := spV
 inj a b h := by
  cases a; cases b
  simp only [spV, Value.agg.injEq, Array.mk.injEq, List.cons.injEq, Value.int.injEq, true_and, and_true] at h
  simp [h]
 check w em a := by
  obtain ⟨p, h, r⟩ := a
  exact check123 w em p h r
 find w a es ks h := by
  unfold Instr.findKey
  have hu := Try.underlying123
  have hF := findAsking_run 123 spV eq123 w a es ks 0 h
  cases es with
  | nil =>
   cases ks with
   | nil => simp [go_sem, hu, Instr.findNow]
   | cons k t => cases h
  | cons e es =>
   have : Instr.findNow (.struct #[{ name := "place", type := 3, offset := 0, embedded := false, tag := "", pkgPath := "talik/pipe", byteOffset := 0 }, { name := "hours", type := 3, offset := 1, embedded := false, tag := "", pkgPath := "talik/pipe", byteOffset := 8 }, { name := "rest", type := 3, offset := 2, embedded := false, tag := "", pkgPath := "talik/pipe", byteOffset := 16 }]) (spV a) (e :: es) 0 = none := rfl
   simp only [Sem.run_bind, run_underlying hu, Result.andThen_ok, this]
   exact hF
 stays w a := by
  have : Instr.sameBits 10000 (spV a) (spV a) = true := by simp [Instr.sameBits, spV]
  simp [Instr.keyThatStays, this]
def intKey : KeyKind Int where
 t := 3
 enc := .int .i64
 inj a b h := by injection h
 check w em a := by
  have h3 := Try.underlying3
  unfold Instr.checkKey
  simp [go_sem, h3]
 find w a es ks h := by
  unfold Instr.findKey
  have hu := Try.underlying3
  have key : ∀ (es : List MapEntry) (ks : List Int) (j : Nat), es.map (·.key) = ks.map (Value.int .i64) → Instr.findNow (.int .i64) (.int .i64 a) es j = some ((ks.findIdx? (· == a)).bind fun i => (es[i]?).map fun e => (i + j, e.val)) := by
   intro es
   induction es with
   | nil =>
    intro ks j h
    cases ks with
    | nil => rfl
    | cons k t => cases h
   | cons e es ih =>
    intro ks j h
    cases ks with
    | nil => cases h
    | cons k ks =>
     simp only [List.map_cons, List.cons.injEq] at h
     unfold Instr.findNow
     rw [h.1]
     by_cases hk : a = k
     ·
      subst hk
      simp [Instr.sameNow, List.findIdx?_cons]
     ·
      have hk' : (k == a) = false := by simp [Ne.symm hk]
      have hk2 : (a == k) = false := by simp [hk]
      simp only [Instr.sameNow, if_true, hk2, ih ks (j + 1) h.2, List.findIdx?_cons, hk', cond_false, Bool.false_eq_true, if_false]
      cases List.findIdx? (· == a) ks with
      | none => rfl
      | some i => simp [Nat.add_assoc, Nat.add_comm 1 j]
  simp only [Sem.run_bind, run_underlying hu, Result.andThen_ok, key es ks 0 h]
  rfl
 stays w a := by
  have : Instr.sameBits 10000 (.int .i64 a) (.int .i64 a) = true := by simp [Instr.sameBits]
  simp [Instr.keyThatStays, this]
def MapIs {κ : Type} [DecidableEq κ] (K : KeyKind κ) (W : World) (b : Nat) (I : κ → Value → Prop) (has : κ → Prop) : Prop :=
 ∃ (es : Array MapEntry) (clock : Nat) (ks : List κ), W.heap[b]? = some (.map es clock) ∧ es.toList.map (·.key) = ks.map K.enc ∧ ks.Nodup ∧ (∀ (i : Nat) (k : κ) (e : MapEntry), ks[i]? = some k → es.toList[i]? = some e → I k e.val) ∧ (∀ k, has k → k ∈ ks)
section
variable {κ : Type} [DecidableEq κ] {K : KeyKind κ} {W W' : World} {b : Nat} {I I' : κ → Value → Prop} {has has' : κ → Prop}
theorem MapIs.imp (h : MapIs K W b I has) (hI : ∀ k v, I k v → I' k v) (hh : ∀ k, has' k → has k) : MapIs K W b I' has' := by
 obtain ⟨es, clock, ks, h1, h2, h3, h4, h5⟩ := h
 exact ⟨es, clock, ks, h1, h2, h3, fun i k e a c => hI _ _ (h4 i k e a c), fun k hk => h5 k (hh k hk)⟩
theorem MapIs.at (h : MapIs K W b I has) (hb : W'.heap[b]? = W.heap[b]?) : MapIs K W' b I has := by
 obtain ⟨es, clock, ks, h1, h2⟩ := h
 exact ⟨es, clock, ks, hb.trans h1, h2⟩
theorem MapIs.lt (h : MapIs K W b I has) : b < W.heap.size := by
 obtain ⟨es, clock, ks, h1, h2⟩ := h
 exact blk_lt h1
theorem MapIs.noCells (h : MapIs K W b I has) {cs : Array Value} {t : TypeId} {g : Nat} (hg : W.heap[g]? = some (.cells cs t (0, 0))) : g ≠ b := by
 obtain ⟨es, clock, ks, h1, h2⟩ := h
 rintro rfl
 rw [hg] at h1
 cases h1
set_option maxRecDepth 100000 in
theorem MapIs.look (h : MapIs K W b I has) {t el : TypeId} (ht : Try.prog.underlying t = some (.map K.t el)) {z : Value} (hz : (zeroValue el).run Try.prog W = .ok z W) (a : κ) :
  (∃ v, I a v ∧ (Instr.lookup t (.map (some b)) (K.enc a) true).run Try.prog W = .ok (.tuple #[v, .bool true]) W ∧ (Instr.lookup t (.map (some b)) (K.enc a) false).run Try.prog W = .ok v W) ∨
  (¬ has a ∧ (Instr.lookup t (.map (some b)) (K.enc a) true).run Try.prog W = .ok (.tuple #[z, .bool false]) W ∧ (Instr.lookup t (.map (some b)) (K.enc a) false).run Try.prog W = .ok z W) := by
 obtain ⟨es, clock, ks, h1, h2, h3, h4, h5⟩ := h
 have hf := K.find W a es.toList ks h2
 have hlen : es.size = ks.length := by have := congrArg List.length h2; simpa using this
 have hg := MapKept.run_getObj_map (P := Try.prog) h1
 cases hx : ks.findIdx? (· == a) with
 | none =>
  rw [hx, Option.bind_none] at hf
  right
  refine ⟨fun hh => ?_, ?_, ?_⟩
  ·
   rw [List.findIdx?_eq_none_iff] at hx
   have := hx a (h5 a hh)
   simp at this
  ·
   simp [Instr.lookup, run_underlying ht, hg, K.check, hf, hz]
  ·
   simp [Instr.lookup, run_underlying ht, hg, K.check, hf, hz]
 | some i =>
  rw [List.findIdx?_eq_some_iff_getElem] at hx
  obtain ⟨hi, hk, _⟩ := hx
  have hk' : ks[i] = a := by simpa using hk
  have hi' : i < es.toList.length := by simpa [hlen] using hi
  left
  refine ⟨es.toList[i].val, ?_, ?_, ?_⟩
  ·
   exact h4 i a _ (by rw [List.getElem?_eq_getElem hi, hk']) (List.getElem?_eq_getElem hi')
  ·
   have hx2 : ks.findIdx? (· == a) = some i := by
    rw [List.findIdx?_eq_some_iff_getElem]
    refine ⟨hi, hk, fun j hj => ?_⟩
    have := (List.nodup_iff_pairwise_ne.1 h3)
    rw [List.pairwise_iff_getElem] at this
    have hne := this j i (by omega) hi hj
    rw [hk'] at hne
    simpa using hne
   rw [hx2, Option.bind_some, List.getElem?_eq_getElem hi', Option.map_some] at hf
   simp [Instr.lookup, run_underlying ht, hg, K.check, hf]
  ·
   have hx2 : ks.findIdx? (· == a) = some i := by
    rw [List.findIdx?_eq_some_iff_getElem]
    refine ⟨hi, hk, fun j hj => ?_⟩
    have := (List.nodup_iff_pairwise_ne.1 h3)
    rw [List.pairwise_iff_getElem] at this
    have hne := this j i (by omega) hi hj
    rw [hk'] at hne
    simpa using hne
   rw [hx2, Option.bind_some, List.getElem?_eq_getElem hi', Option.map_some] at hf
   simp [Instr.lookup, run_underlying ht, hg, K.check, hf]
set_option maxRecDepth 100000 in
theorem MapIs.looks (h : MapIs K W b I has) {t el : TypeId} (ht : Try.prog.underlying t = some (.map K.t el)) {z : Value} (hz : ∀ W', (zeroValue el).run Try.prog W' = .ok z W') (a : κ) :
  (∃ v, I a v ∧ ∀ W' : World, W'.heap[b]? = W.heap[b]? → (Instr.lookup t (.map (some b)) (K.enc a) true).run Try.prog W' = .ok (.tuple #[v, .bool true]) W') ∨
  (∀ W' : World, W'.heap[b]? = W.heap[b]? → (Instr.lookup t (.map (some b)) (K.enc a) true).run Try.prog W' = .ok (.tuple #[z, .bool false]) W') := by
 obtain ⟨es, clock, ks, h1, h2, h3, h4, h5⟩ := h
 have hf := fun W' => K.find W' a es.toList ks h2
 have hlen : es.size = ks.length := by have := congrArg List.length h2; simpa using this
 have hg := fun (W' : World) (e : W'.heap[b]? = W.heap[b]?) => MapKept.run_getObj_map (P := Try.prog) (e.trans h1)
 cases hx : ks.findIdx? (· == a) with
 | none =>
  rw [hx] at hf
  right
  intro W' e
  have hf' := hf W'
  rw [Option.bind_none] at hf'
  simp [Instr.lookup, run_underlying ht, hg W' e, K.check, hf', hz]
 | some i =>
  have hx2 := hx
  rw [List.findIdx?_eq_some_iff_getElem] at hx
  obtain ⟨hi, hk, _⟩ := hx
  have hk' : ks[i] = a := by simpa using hk
  have hi' : i < es.toList.length := by simpa [hlen] using hi
  left
  refine ⟨es.toList[i].val, h4 i a _ (by rw [List.getElem?_eq_getElem hi, hk']) (List.getElem?_eq_getElem hi'), fun W' e => ?_⟩
  have hf' := hf W'
  rw [hx2, Option.bind_some, List.getElem?_eq_getElem hi', Option.map_some] at hf'
  simp [Instr.lookup, run_underlying ht, hg W' e, K.check, hf']
set_option maxRecDepth 100000 in
theorem MapIs.update (h : MapIs K W b I has) {t el : TypeId} (ht : Try.prog.underlying t = some (.map K.t el)) (a : κ) (v : Value) :
  ∃ W', (Instr.mapUpdate t (.map (some b)) (K.enc a) v).run Try.prog W = .ok () W' ∧ W.grownBy W' (some b) ∧ MapIs K W' b (fun k u => (k = a ∧ u = v) ∨ (k ≠ a ∧ I k u)) (fun k => k = a ∨ has k) := by
 obtain ⟨es, clock, ks, h1, h2, h3, h4, h5⟩ := h
 have hf := K.find W a es.toList ks h2
 have hlen : es.size = ks.length := by have := congrArg List.length h2; simpa using this
 have hg := MapKept.run_getObj_map (P := Try.prog) h1
 have hgrow : ∀ o, W.grownBy (ChangeMaps.setBlock W b o) (some b) := fun o => ⟨rfl, rfl, rfl, by simp [ChangeMaps.setBlock], fun i _ hi => ChangeMaps.heap_setBlock_other h1 _ (fun e => hi (by rw [e]))⟩
 cases hx : ks.findIdx? (· == a) with
 | none =>
  rw [hx, Option.bind_none] at hf
  have hna : a ∉ ks := by
   intro ha
   rw [List.findIdx?_eq_none_iff] at hx
   have := hx a ha
   simp at this
  refine ⟨ChangeMaps.setBlock W b (.map (es.push { key := K.enc a, val := v, born := clock }) (clock + 1)), ?_, hgrow _, es.push { key := K.enc a, val := v, born := clock }, clock + 1, ks ++ [a], ChangeMaps.heap_setBlock_same h1 _, by simp [h2], ?_, ?_, ?_⟩
  ·
   simp [Instr.mapUpdate, run_underlying ht, hg, K.check, hf, MapKept.run_setObj_map _ h1, ChangeMaps.setBlock]
  ·
   rw [List.nodup_append]
   exact ⟨h3, by simp, fun x hxm y hy => by simp at hy; subst hy; intro e; exact hna (e ▸ hxm)⟩
  ·
   intro i k e hk he
   rcases Nat.lt_or_ge i ks.length with hi | hi
   ·
    rw [List.getElem?_append_left hi] at hk
    rw [Array.toList_push, List.getElem?_append_left (by simpa [hlen] using hi)] at he
    exact .inr ⟨fun e => hna (e ▸ List.mem_of_getElem? hk), h4 i k e hk he⟩
   ·
    rw [List.getElem?_append_right hi] at hk
    rw [Array.toList_push, List.getElem?_append_right (by simpa [hlen] using hi)] at he
    simp only [Array.length_toList, hlen] at he
    cases hd : i - ks.length with
    | zero =>
     rw [hd] at hk he
     simp at hk he
     exact .inl ⟨hk.symm, by rw [← he]⟩
    | succ n =>
     rw [hd] at hk
     simp at hk
  ·
   rintro k (rfl | hk)
   ·
    simp
   ·
    exact List.mem_append_left _ (h5 k hk)
 | some i =>
  have hx2 := hx
  rw [List.findIdx?_eq_some_iff_getElem] at hx
  obtain ⟨hi, hk, _⟩ := hx
  have hk' : ks[i] = a := by simpa using hk
  have hi' : i < es.toList.length := by simpa [hlen] using hi
  have hi2 : i < es.size := by simpa using hi'
  rw [hx2, Option.bind_some, List.getElem?_eq_getElem hi', Option.map_some] at hf
  have hkey : (es[i]?.map (·.key)).getD (K.enc a) = K.enc a := by
   have e1 : (es.toList.map (·.key))[i]? = (ks.map K.enc)[i]? := by rw [h2]
   rw [List.getElem?_map, List.getElem?_map, List.getElem?_eq_getElem hi, hk'] at e1
   rw [← Array.getElem?_toList, e1]
   rfl
  refine ⟨ChangeMaps.setBlock W b (.map (es.modify i fun e => { e with key := K.enc a, val := v }) clock), ?_, hgrow _, es.modify i fun e => { e with key := K.enc a, val := v }, clock, ks, ChangeMaps.heap_setBlock_same h1 _, ?_, h3, ?_, ?_⟩
  ·
   simp [Instr.mapUpdate, run_underlying ht, hg, K.check, hf, MapKept.run_setObj_map _ h1, ChangeMaps.setBlock, hkey, K.stays]
  ·
   rw [Array.toList_modify, ← h2]
   apply List.ext_getElem?
   intro j
   rw [List.getElem?_map, List.getElem?_map, List.getElem?_modify]
   split
   ·
    rename_i hj
    subst hj
    rw [List.getElem?_eq_getElem hi']
    have e1 : (es.toList.map (·.key))[i]? = (ks.map K.enc)[i]? := by rw [h2]
    rw [List.getElem?_map, List.getElem?_map, List.getElem?_eq_getElem hi, hk', List.getElem?_eq_getElem hi'] at e1
    simp only [Option.map_some, Option.some.injEq] at e1
    simpa using e1.symm
   ·
    simp
  ·
   intro j k e hkj he
   rw [Array.toList_modify, List.getElem?_modify] at he
   split at he
   ·
    rename_i hj
    subst hj
    rw [List.getElem?_eq_getElem hi] at hkj
    rw [List.getElem?_eq_getElem hi'] at he
    simp only [Option.map_eq_map, Option.map_some, Option.some.injEq] at he hkj
    exact .inl ⟨by rw [← hkj, hk'], by rw [← he]⟩
   ·
    rename_i hj
    have he2 : es.toList[j]? = some e := by simpa using he
    refine .inr ⟨fun e1 => hj ?_, h4 j k e hkj he2⟩
    subst e1
    have hjl : j < ks.length := (List.getElem?_eq_some_iff.1 hkj).1
    have e2 : ks[j] = ks[i] := by rw [hk']; rw [List.getElem?_eq_getElem hjl] at hkj; injection hkj
    have hp := List.nodup_iff_pairwise_ne.1 h3
    rw [List.pairwise_iff_getElem] at hp
    rcases Nat.lt_trichotomy i j with h | h | h
    ·
     exact absurd e2.symm (hp i j hi hjl h)
    ·
     exact h
    ·
     exact absurd e2 (hp j i hjl hi h)
  ·
   rintro k (rfl | hk)
   ·
    rw [← hk']; exact List.getElem_mem _
   ·
    exact h5 k hk
end
end Go.Proofs.Ytipphcjgdebecaa.PA
namespace Go.Proofs.Ytipphcjgdebecaa.PA
open Go.RowKit Go.Proofs.YtipphcjgdebecaaW.PrintWords Go.Proofs.YtipphcjgdebecaaW.PrintLast Go.Proofs.YtipphcjgdebecaaW.PrintMore
attribute [local go_sem] max2_int min2_int max_two min_two max_three min_three max_four min_four
structure OE where
 w0 : World
 A0 : Option Addr
 c0 : Nat
 l0 : List S39
 A1 : Option Addr
 c1 : Nat
 l1 : List S37
 A2 : Option Addr
 c2 : Nat
 l2 : List (List Int)
 wp : Int
 Bn : Nat
 Bk : Nat
 Bd : Nat
 Bs : Nat
 m : Nat
 Ad : Option Addr
 cd : Nat
 D : List Int
def OE.S (E : OE) (s : Sp) : Way := bestV E.l0 E.l1 E.l2 E.D s
structure OE.Fit (E : OE) : Prop where
 r0 : Kd.C k39 E.w0 E.A0 E.l0.length E.l0
 r1 : Kd.C k37 E.w0 E.A1 E.l1.length E.l1
 r2 : Kd.C (Kd.slice 3 (Kd.int .i64)) E.w0 E.A2 E.l2.length E.l2
 h5 : E.l0.length ≤ 5
 hD : E.D.length = E.l0.length
 h2 : E.l2.length = E.l0.length + 1
 hrow : ∀ p : Int, 0 ≤ p → p ≤ E.l0.length → (rd_L1 E.l2 p).length = E.l0.length + 1
 bn : E.w0.heap.size ≤ E.Bn
 bk : E.w0.heap.size ≤ E.Bk
 bd : E.w0.heap.size ≤ E.Bd
 bs : E.w0.heap.size ≤ E.Bs
 bm : E.w0.heap.size ≤ E.m
abbrev NETC (E : OE) : Array Value := #[.slice E.A0 E.l0.length E.c0, .slice E.A1 E.l1.length E.c1, .slice E.A2 E.l2.length E.c2, .int .i64 E.wp]
abbrev SEARCHF (E : OE) : Value := .func (.func 90) #[] #[.pointer (some ⟨E.Bn, 0, none⟩), .pointer (some ⟨E.Bk, 0, none⟩), .pointer (some ⟨E.Bd, 0, none⟩), .pointer (some ⟨E.Bs, 0, none⟩)]
abbrev OE.Row (E : OE) (A : Nat → Prop) (W : World) (v : Value) (l : List Int) : Prop := Kd.R (Kd.int .i64) 3 W E.w0.heap.size (fun k => k ≠ E.m ∧ ¬ A k) v l
structure EnvInv (E : OE) (A : Nat → Prop) (W : World) : Prop where
 an : ¬ A E.Bn
 ak : ¬ A E.Bk
 ad : ¬ A E.Bd
 as_ : ¬ A E.Bs
 am : ¬ A E.m
 lo : ∀ k, A k → E.w0.heap.size ≤ k
 xn : W.heap[E.Bn]? = some (.cells (NETC E) 99 (0, 0))
 xk : W.heap[E.Bk]? = some (.cells #[.map (some E.m)] 120 (0, 0))
 xd : W.heap[E.Bd]? = some (.cells #[.slice E.Ad E.D.length E.cd] 47 (0, 0))
 xs : W.heap[E.Bs]? = some (.cells #[SEARCHF E] 121 (0, 0))
 hb : Below E.w0.heap.size E.w0 W
 due : E.Row A W (.slice E.Ad E.D.length E.cd) E.D
 map : MapIs spotKey W E.m (fun s u => OkS s ∧ ∃ v, u = .agg #[v, .int .i64 (E.S s).2.1, .bool (E.S s).2.2] ∧ E.Row A W v (E.S s).1) (fun _ => False)
section
variable {E : OE} {A A' : Nat → Prop} {W W' : World}
theorem EnvInv.imp (h : EnvInv E A W) (hA : ∀ k, A' k → E.w0.heap.size ≤ k ∧ (A k ∨ W.heap.size ≤ k)) : EnvInv E A' W := by
 have hn : ∀ {g o}, W.heap[g]? = some o → ¬ A g → ¬ A' g := fun hg hn hk => by
  rcases (hA _ hk).2 with h1 | h1
  ·
   exact hn h1
  ·
   have := blk_lt hg
   omega
 have hR : ∀ v l, E.Row A W v l → E.Row A' W v l := fun v l hr => Kd.R_mono (Kd.R_bound hr) (fun k hk => ⟨hk.1.1, fun ha => by
  rcases (hA _ ha).2 with h1 | h1
  ·
   exact hk.1.2 h1
  ·
   have := hk.2.2.1
   omega⟩)
 refine ⟨hn h.xn h.an, hn h.xk h.ak, hn h.xd h.ad, hn h.xs h.as_, ?_, fun k hk => (hA k hk).1, h.xn, h.xk, h.xd, h.xs, h.hb, hR _ _ h.due, h.map.imp (fun s u hu => ⟨hu.1, hu.2.imp fun v hv => ⟨hv.1, hR _ _ hv.2⟩⟩) (fun _ hk => hk)⟩
 intro hk
 rcases (hA _ hk).2 with h1 | h1
 ·
  exact h.am h1
 ·
  have := h.map.lt
  omega
theorem EnvInv.step (h : EnvInv E A W) (hk : KB A W W') : EnvInv E A W' := by
 have hR : ∀ v l, E.Row A W v l → E.Row A W' v l := fun v l hr => hk.R hr (fun k hk => hk.2)
 exact ⟨h.an, h.ak, h.ad, h.as_, h.am, h.lo, hk.blk h.xn h.an, hk.blk h.xk h.ak, hk.blk h.xd h.ad, hk.blk h.xs h.as_,
  ⟨hk.os.trans h.hb.os, hk.tape.trans h.hb.tape, hk.output.trans h.hb.output, Nat.le_trans h.hb.size hk.size, fun k hlt => (hk.block k (Nat.lt_of_lt_of_le hlt h.hb.size) (fun ha => by have := h.lo k ha; omega)).trans (h.hb.block k hlt)⟩,
  hR _ _ h.due, (h.map.at (hk.block _ h.map.lt h.am)).imp (fun s u hu => ⟨hu.1, hu.2.imp fun v hv => ⟨hv.1, hR _ _ hv.2⟩⟩) (fun _ hk => hk)⟩
theorem EnvInv.own' {row : Option Nat} (h : EnvInv E A W) (hg : W.grownBy W' row) (hr : ∀ r, row = some r → E.w0.heap.size ≤ r ∧ r ≠ E.m ∧ ∃ o : Obj, W.heap[r]? = some o ∧ o.isCells = false) : EnvInv E A W' := by
 have hR : ∀ v l, E.Row A W v l → E.Row A W' v l := fun v l hv => by
  refine Kd.R_mono (Kd.R_step (Kd.R_bound hv) (fun k hk hlt => hg.block k hlt (fun e => ?_))) (fun k hk => hk.1)
  obtain ⟨q, _, cells, hc⟩ := hk.2.2.2
  obtain ⟨_, _, o, ho, hn⟩ := hr k e.symm
  rw [hc] at ho
  injection ho with ho
  subst ho
  cases hn
 have hr' : ∀ r, row = some r → E.w0.heap.size ≤ r ∧ ∃ o : Obj, W.heap[r]? = some o ∧ o.isCells = false := fun r e => ⟨(hr r e).1, (hr r e).2.2⟩
 refine ⟨h.an, h.ak, h.ad, h.as_, h.am, h.lo, blk_own h.xn hg hr', blk_own h.xk hg hr', blk_own h.xd hg hr', blk_own h.xs hg hr',
  ⟨hg.os.trans h.hb.os, hg.tape.trans h.hb.tape, hg.output.trans h.hb.output, Nat.le_trans h.hb.size hg.size, fun k hlt => (hg.block k (Nat.lt_of_lt_of_le hlt h.hb.size) (fun e => by have := (hr k e.symm).1; omega)).trans (h.hb.block k hlt)⟩,
  hR _ _ h.due, (h.map.at (hg.block _ h.map.lt (fun e => (hr _ e.symm).2.1 rfl))).imp (fun s u hu => ⟨hu.1, hu.2.imp fun v hv => ⟨hv.1, hR _ _ hv.2⟩⟩) (fun _ hk => hk)⟩
theorem EnvInv.own {B : Nat} (hB : E.w0.heap.size ≤ B) (hm : E.m < B) {row : Option Nat} (h : EnvInv E A W) (hg : W.grownBy W' row) (hr : ∀ r, row = some r → B ≤ r ∧ ∃ o : Obj, W.heap[r]? = some o ∧ o.isCells = false) : EnvInv E A W' :=
 h.own' hg (fun r e => ⟨by have := (hr r e).1; omega, by have := (hr r e).1; omega, (hr r e).2⟩)
theorem EnvInv.put (h : EnvInv E A W) (hg : W.grownBy W' (some E.m)) {s : Sp} {u v : Value} (hs : OkS s) (hu : u = .agg #[v, .int .i64 (E.S s).2.1, .bool (E.S s).2.2]) (hv : E.Row A W v (E.S s).1) (bm : E.w0.heap.size ≤ E.m)
  (hm : MapIs spotKey W' E.m (fun k x => (k = s ∧ x = u) ∨ (k ≠ s ∧ OkS k ∧ ∃ v, x = .agg #[v, .int .i64 (E.S k).2.1, .bool (E.S k).2.2] ∧ E.Row A W v (E.S k).1)) (fun k => k = s ∨ False)) : EnvInv E A W' := by
 have hR : ∀ v l, E.Row A W v l → E.Row A W' v l := fun v l hr => Kd.R_grown hr hg (fun k hk e => hk.1 (by injection e))
 refine ⟨h.an, h.ak, h.ad, h.as_, h.am, h.lo, blk_grown h.xn hg (fun e => h.map.noCells h.xn (by injection e)), blk_grown h.xk hg (fun e => h.map.noCells h.xk (by injection e)), blk_grown h.xd hg (fun e => h.map.noCells h.xd (by injection e)), blk_grown h.xs hg (fun e => h.map.noCells h.xs (by injection e)),
  ⟨hg.os.trans h.hb.os, hg.tape.trans h.hb.tape, hg.output.trans h.hb.output, Nat.le_trans h.hb.size hg.size, fun k hlt => (hg.block k (Nat.lt_of_lt_of_le hlt h.hb.size) (fun e => by injection e with e; omega)).trans (h.hb.block k hlt)⟩,
  hR _ _ h.due, hm.imp (fun k x hx => ?_) (fun _ hk => hk.elim)⟩
 rcases hx with ⟨rfl, rfl⟩ | ⟨_, hk, w, hw, hr⟩
 ·
  exact ⟨hs, v, hu, hR _ _ hv⟩
 ·
  exact ⟨hk, w, hw, hR _ _ hr⟩
end
def OE.At (E : OE) (s : Sp) : Prop := OkS s ∧ 0 ≤ s.p ∧ s.p ≤ E.l0.length ∧ ∀ i ∈ qay s.r 5, i < E.l0.length
theorem OE.At.next {E : OE} {s : Sp} (h : E.At s) {i : Int} (hi : i ∈ qay s.r 5) (hr : (repV E.l0 E.l2 E.D s i).2.2 = true) : E.At (repV E.l0 E.l2 E.D s i).1 ∧ cntB (repV E.l0 E.l2 E.D s i).1.r + 1 = cntB s.r := by
 have h1 := next_ok E.l0 E.l2 E.D s h.1 i hi hr
 refine ⟨⟨h1.1, ?_⟩, h1.2⟩
 rw [rep_next E.l0 E.l2 E.D s i hr]
 obtain ⟨k, rfl, hk, _⟩ := (mem_loopsOf s.r 5 i).1 hi
 have h2 := h.2.2.2 _ hi
 refine ⟨by show (0 : Int) ≤ k + 1; omega, by show (k : Int) + 1 ≤ _; omega, ?_⟩
 intro j hj
 have h3 := (rest_of s.r h.1.1 h.1.2 k hi).2.2
 have hj' : j ∈ qay s.r 5 := by
  have : j ∈ qay (bits .andNot .i64 s.r (wrap64 (2 ^ (k : Int).toNat))) 5 := hj
  rw [h3] at this
  exact (List.mem_filter.1 this).1
 exact h.2.2.2 j hj'
def SearchC (E : OE) (s : Sp) : Prop := ∀ A W, EnvInv E A W → (∀ k, A k → k < W.heap.size) →
 Calls Try.prog 90 #[spV s, .pointer (some ⟨E.Bn, 0, none⟩), .pointer (some ⟨E.Bk, 0, none⟩), .pointer (some ⟨E.Bd, 0, none⟩), .pointer (some ⟨E.Bs, 0, none⟩)] W fun e W' =>
  ∃ v, e = .returned (.agg #[v, .int .i64 (E.S s).2.1, .bool (E.S s).2.2]) ∧ E.Row A W' v (E.S s).1 ∧ EnvInv E A W' ∧ KB (fun k => k = E.m) W W'
theorem loops_calls (f : Int) (w : World) : Calls Try.prog 76 #[.int .i64 f] w fun e w' => ∃ B, e = .returned (.func (.func 97) #[] #[.pointer (some ⟨B, 0, none⟩)]) ∧ w'.heap[B]? = some (.cells #[.int .i64 f] 3 (0, 0)) ∧ w.heap.size ≤ B ∧ Below w.heap.size w w' := by
 have hmf : ∀ (fn : Fn) (first cap : Array Value) (w : World), (Instr.makeFunc fn first cap).run Try.prog w = .ok (.func fn first cap) w := fun _ _ _ _ => rfl
 have HB := qac.mk (Below.refl w.heap.size w)
 go_enter Try.func76, Try.ntmps76
 go_wp2_with ((with_reducible refine qax (N := 1) rfl ?_); refine qaw ?hg (N := 1) ?hd (cs := #[.int .i64 f]) (t := 3) ?hr ?_; (case hd => rfl); (case hg => rfl); (case hr => first | (go_simp; done) | (go_simp; rfl)); intro gb hg_gb w2 hbox hb; have BKgb := qac.mk hbox; have n_HB := qac.mk (qai HB.out hb); have GEgb : w.heap.size ≤ gb := (by rw [hg_gb]; exact HB.out.size); clear HB; have HB := n_HB; clear n_HB; have hfgb := qab BKgb.out; have hcgb_0 : w2.cell? ⟨gb, 0, none⟩ = some (.int .i64 f) := (qaa BKgb.out 0).trans rfl; clear hbox hb hg_gb)
 go_ret
 exact ⟨gb, rfl, BKgb.out, GEgb, HB.out⟩
end Go.Proofs.Ytipphcjgdebecaa.PA
