/- What functions of the program answer. No condition. -/
import Derived.Test.YtafkanmioinbiaaSC
import Derived.Test.YtafkanmioinbiaaSD
import Derived.Test.YtafkanmioinbiaaSE
import Derived.Test.YtafkanmioinbiaaSF
set_option linter.all false
set_option maxRecDepth 100000
set_option maxHeartbeats 8000000
namespace Go.Proofs.Ytafkanmioinbiaa.SA
open Go.RowKit Go.Proofs.YtafkanmioinbiaaW.PrintWords Go.Proofs.YtafkanmioinbiaaW.PrintLast Go.Proofs.YtafkanmioinbiaaW.PrintMore
attribute [local go_sem] max2_int min2_int max_two min_two qbe qbf max_four min_four
theorem most_calls (g : Nat) (v0 v1 v2 v3 v5 : Value) (A4 : Option Addr) (c4 : Nat) (l4 : List S41) (d : Int) (w : World) (hr : Kd.C k41 w A4 l4.length l4) (h15 : l4.length ≤ 100000) (hb : w.heap[g]? = some (.cells #[v0, v1, v2, v3, .slice A4 l4.length c4, v5, .int .i64 d] 123 (0, 0))) :
  Calls Try.prog 58 #[.pointer (some ⟨g, 0, none⟩)] w fun e w' => ∃ v, e = .returned v ∧ Kd.R (Kd.int .i64) 3 w' w.heap.size (fun _ => True) v (l4.map (·.f1)) ∧ Below w.heap.size w w' := by
 have hu123 := Try.underlying123
 have hu27 := Try.underlying27
 have hu41 := Try.underlying41
 have HR := qab.mk hr
 have HB := qab.mk (Below.refl w.heap.size w)
 have q4 : w.cell? ⟨g, 4, none⟩ = some (.slice A4 l4.length c4) := (qaa hb 4).trans rfl
 have HO : qab (Kd.R (Kd.int .i64) 3 w w.heap.size (fun _ => True) (.slice none 0 0) ((l4.take 0).map (·.f1))) := ⟨Kd.R_nil _ _ _ _ _⟩
 clear hr hb
 go_enter Try.func58, Try.ntmps58
 go_wp2
 go_loopw [3, 12] (fun s3 s12 wr => ∃ (k : Nat) (v : Value), k ≤ l4.length ∧ s12 = .int .i64 k ∧ v = s3 ∧ qab (Kd.R (Kd.int .i64) 3 wr w.heap.size (fun _ => True) v ((l4.take k).map (·.f1))) ∧ qab (Below w.heap.size w wr)) (fun _ s _ => l4.length - (intOf s).toNat)
 case atStart => exact ⟨0, _, by omega, rfl, rfl, HO, HB⟩
 case round =>
  clear HB HO q4
  obtain ⟨k, v, hk, rfl, rfl, HO, HB⟩ := hrel
  by_cases hlt : k < l4.length
  ·
   obtain ⟨ad, e, q0, q1⟩ := at_T41 HR.out k (by omega) (by omega)
   cases e
   replace q0 := (HB.out.cell (World.block_lt_of_cell? w _ q0)).trans q0; replace q1 := (HB.out.cell (World.block_lt_of_cell? w _ q1)).trans q1
   simp only [Int.toNat_natCast] at q0 q1
   obtain ⟨x, hx⟩ : ∃ x, x = qbg l4 k := ⟨_, rfl⟩
   rw [← hx] at q0 q1
   have HX : qab ((l4.take (k + 1)).map (·.f1) = (l4.take k).map (·.f1) ++ [x.f1]) := ⟨by rw [hx, List.map_take, List.map_take, List.take_succ, List.getElem?_eq_getElem (by simpa using hlt)]; simp [qbg, hlt]⟩
   clear hx
   have hlen : ((l4.take k).map (·.f1)).length ≤ 100000 := by simp; omega
   have HL := qab.mk hlen
   clear hlen
   go_upto_region 5 with ((with_reducible refine qaq (N := 5) rfl ?_); refine qan ?hg (N := 5) ?hd (cs := #[.int .i64 0, .int .i64 0]) (t := 41) ?hr ?_; (case hd => rfl); (case hg => rfl); (case hr => first | (go_simp; done) | (go_simp; rfl)); intro ge hg_ge w4 hbox hb; have BKge := qab.mk hbox; have n_HB := qab.mk (qae HB.out hb); have GEge : w.heap.size ≤ ge := (by rw [hg_ge]; exact HB.out.size); clear HB; have HB := n_HB; clear n_HB; obtain ⟨hfge, hcge_0, hcge_1⟩ := qz2 BKge.out; replace HO := qab.mk (Kd.qam HO.out hb); clear hbox hb hg_ge)
   clear q0 q1 hfge hcge_0 hcge_1
   have he_ : setAll w4 ge [.int .i64 x.f0, .int .i64 x.f1] 0 = ((w4.setCell ⟨ge, 0, none⟩ (.int .i64 x.f0)).setCell ⟨ge, 1, none⟩ (.int .i64 x.f1)) := rfl; have hbl := setAll_below GEge [.int .i64 x.f0, .int .i64 x.f1] 0 _ HB.out; have hbx : (setAll w4 ge [.int .i64 x.f0, .int .i64 x.f1] 0).heap[ge]? = some (.cells #[.int .i64 x.f0, .int .i64 x.f1] 41 (0, 0)) := setAll_new [.int .i64 x.f0, .int .i64 x.f1] [.int .i64 0, .int .i64 0] BKge.out rfl; have hy_HO := setAll_R (g := ge) (by decide) [.int .i64 x.f0, .int .i64 x.f1] 0 w4 _ BKge.out HO.out; rw [he_] at hy_HO hbl hbx ; clear he_; generalize ((w4.setCell ⟨ge, 0, none⟩ (.int .i64 x.f0)).setCell ⟨ge, 1, none⟩ (.int .i64 x.f1)) = w5 at hy_HO hbl hbx  ⊢; clear HB BKge; have HB := qab.mk hbl; have BKge := qab.mk hbx; clear hbl hbx; clear HO; have HO := qab.mk hy_HO; clear hy_HO
   obtain ⟨hfge, hcge_0, hcge_1⟩ := qz2 BKge.out
   go_wp2_with ((with_reducible refine gate_builtin (b := .append) (xs := #[.tmp 16, .tmp 19]) rfl ?_); at_builtin; refine Kd.R_append (Kd.int .i64) (w0 := w) w.heap.size rfl (.tmp 16) (.tmp 19) 23 3 (.int .i64 0) 8 rfl Try.underlying23 info3 rfl (by decide) (by omega) v ((l4.take k).map (·.f1)) x.f1 [.int .i64 x.f1] (fun _ => True) (fun _ => False) rfl rfl ?aP (fun _ hk => hk.elim) ?aF ?aO ?aB ?aS ?aL ?_; (case aP => exact rfl); (case aF => exact fun _ _ => trivial); (case aO => exact HO.out); (case aB => exact HB.out); (case aS => exact HB.out.size); (case aL => have := HL.out; omega); intro v1 w1 ho hB hg hat; have HO1 := qab.mk ho; have HB1 := qab.mk hB; clear ho hB hg hat)
   go_roundw
   case rel => exact ⟨k + 1, v1, by omega, by go_num, rfl, ⟨by rw [HX.out]; exact HO1.out⟩, HB1⟩
   case measure => simp [intOf]; omega
  ·
   have hk' : k = l4.length := by omega
   have HO1 : qab (Kd.R (Kd.int .i64) 3 wr w.heap.size (fun _ => True) v (l4.map (·.f1))) := ⟨by have h := HO.out; rwa [hk', List.take_length] at h⟩
   clear hk' HO
   go_wp2
   go_ret
   exact ⟨v, rfl, HO1.out, HB.out⟩
theorem least_calls (g : Nat) (v0 v1 v2 v3 v5 : Value) (A4 : Option Addr) (c4 : Nat) (l4 : List S41) (d : Int) (w : World) (hr : Kd.C k41 w A4 l4.length l4) (h15 : l4.length ≤ 100000) (hb : w.heap[g]? = some (.cells #[v0, v1, v2, v3, .slice A4 l4.length c4, v5, .int .i64 d] 123 (0, 0))) :
  Calls Try.prog 59 #[.pointer (some ⟨g, 0, none⟩)] w fun e w' => ∃ v, e = .returned v ∧ Kd.R (Kd.int .i64) 3 w' w.heap.size (fun _ => True) v (l4.map (·.f0)) ∧ Below w.heap.size w w' := by
 have hu123 := Try.underlying123
 have hu27 := Try.underlying27
 have hu41 := Try.underlying41
 have HR := qab.mk hr
 have HB := qab.mk (Below.refl w.heap.size w)
 have q4 : w.cell? ⟨g, 4, none⟩ = some (.slice A4 l4.length c4) := (qaa hb 4).trans rfl
 have HO : qab (Kd.R (Kd.int .i64) 3 w w.heap.size (fun _ => True) (.slice none 0 0) ((l4.take 0).map (·.f0))) := ⟨Kd.R_nil _ _ _ _ _⟩
 clear hr hb
 go_enter Try.func59, Try.ntmps59
 go_wp2
 go_loopw [3, 12] (fun s3 s12 wr => ∃ (k : Nat) (v : Value), k ≤ l4.length ∧ s12 = .int .i64 k ∧ v = s3 ∧ qab (Kd.R (Kd.int .i64) 3 wr w.heap.size (fun _ => True) v ((l4.take k).map (·.f0))) ∧ qab (Below w.heap.size w wr)) (fun _ s _ => l4.length - (intOf s).toNat)
 case atStart => exact ⟨0, _, by omega, rfl, rfl, HO, HB⟩
 case round =>
  clear HB HO q4
  obtain ⟨k, v, hk, rfl, rfl, HO, HB⟩ := hrel
  by_cases hlt : k < l4.length
  ·
   obtain ⟨ad, e, q0, q1⟩ := at_T41 HR.out k (by omega) (by omega)
   cases e
   replace q0 := (HB.out.cell (World.block_lt_of_cell? w _ q0)).trans q0; replace q1 := (HB.out.cell (World.block_lt_of_cell? w _ q1)).trans q1
   simp only [Int.toNat_natCast] at q0 q1
   obtain ⟨x, hx⟩ : ∃ x, x = qbg l4 k := ⟨_, rfl⟩
   rw [← hx] at q0 q1
   have HX : qab ((l4.take (k + 1)).map (·.f0) = (l4.take k).map (·.f0) ++ [x.f0]) := ⟨by rw [hx, List.map_take, List.map_take, List.take_succ, List.getElem?_eq_getElem (by simpa using hlt)]; simp [qbg, hlt]⟩
   clear hx
   have hlen : ((l4.take k).map (·.f0)).length ≤ 100000 := by simp; omega
   have HL := qab.mk hlen
   clear hlen
   go_upto_region 5 with ((with_reducible refine qaq (N := 5) rfl ?_); refine qan ?hg (N := 5) ?hd (cs := #[.int .i64 0, .int .i64 0]) (t := 41) ?hr ?_; (case hd => rfl); (case hg => rfl); (case hr => first | (go_simp; done) | (go_simp; rfl)); intro ge hg_ge w4 hbox hb; have BKge := qab.mk hbox; have n_HB := qab.mk (qae HB.out hb); have GEge : w.heap.size ≤ ge := (by rw [hg_ge]; exact HB.out.size); clear HB; have HB := n_HB; clear n_HB; obtain ⟨hfge, hcge_0, hcge_1⟩ := qz2 BKge.out; replace HO := qab.mk (Kd.qam HO.out hb); clear hbox hb hg_ge)
   clear q0 q1 hfge hcge_0 hcge_1
   have he_ : setAll w4 ge [.int .i64 x.f0, .int .i64 x.f1] 0 = ((w4.setCell ⟨ge, 0, none⟩ (.int .i64 x.f0)).setCell ⟨ge, 1, none⟩ (.int .i64 x.f1)) := rfl; have hbl := setAll_below GEge [.int .i64 x.f0, .int .i64 x.f1] 0 _ HB.out; have hbx : (setAll w4 ge [.int .i64 x.f0, .int .i64 x.f1] 0).heap[ge]? = some (.cells #[.int .i64 x.f0, .int .i64 x.f1] 41 (0, 0)) := setAll_new [.int .i64 x.f0, .int .i64 x.f1] [.int .i64 0, .int .i64 0] BKge.out rfl; have hy_HO := setAll_R (g := ge) (by decide) [.int .i64 x.f0, .int .i64 x.f1] 0 w4 _ BKge.out HO.out; rw [he_] at hy_HO hbl hbx ; clear he_; generalize ((w4.setCell ⟨ge, 0, none⟩ (.int .i64 x.f0)).setCell ⟨ge, 1, none⟩ (.int .i64 x.f1)) = w5 at hy_HO hbl hbx  ⊢; clear HB BKge; have HB := qab.mk hbl; have BKge := qab.mk hbx; clear hbl hbx; clear HO; have HO := qab.mk hy_HO; clear hy_HO
   obtain ⟨hfge, hcge_0, hcge_1⟩ := qz2 BKge.out
   go_wp2_with ((with_reducible refine gate_builtin (b := .append) (xs := #[.tmp 16, .tmp 19]) rfl ?_); at_builtin; refine Kd.R_append (Kd.int .i64) (w0 := w) w.heap.size rfl (.tmp 16) (.tmp 19) 23 3 (.int .i64 0) 8 rfl Try.underlying23 info3 rfl (by decide) (by omega) v ((l4.take k).map (·.f0)) x.f0 [.int .i64 x.f0] (fun _ => True) (fun _ => False) rfl rfl ?aP (fun _ hk => hk.elim) ?aF ?aO ?aB ?aS ?aL ?_; (case aP => exact rfl); (case aF => exact fun _ _ => trivial); (case aO => exact HO.out); (case aB => exact HB.out); (case aS => exact HB.out.size); (case aL => have := HL.out; omega); intro v1 w1 ho hB hg hat; have HO1 := qab.mk ho; have HB1 := qab.mk hB; clear ho hB hg hat)
   go_roundw
   case rel => exact ⟨k + 1, v1, by omega, by go_num, rfl, ⟨by rw [HX.out]; exact HO1.out⟩, HB1⟩
   case measure => simp [intOf]; omega
  ·
   have hk' : k = l4.length := by omega
   have HO1 : qab (Kd.R (Kd.int .i64) 3 wr w.heap.size (fun _ => True) v (l4.map (·.f0))) := ⟨by have h := HO.out; rwa [hk', List.take_length] at h⟩
   clear hk' HO
   go_wp2
   go_ret
   exact ⟨v, rfl, HO1.out, HB.out⟩
end Go.Proofs.Ytafkanmioinbiaa.SA
namespace Go.Proofs.Ytafkanmioinbiaa.SA
open Go.RowKit Go.Proofs.YtafkanmioinbiaaW.PrintWords Go.Proofs.YtafkanmioinbiaaW.PrintLast Go.Proofs.YtafkanmioinbiaaW.PrintMore
attribute [local go_sem] max2_int min2_int max_two min_two qbe qbf max_four min_four
attribute [local go_sem] Oper.semAt_some
def spanAt (A B : List Int) (j : Nat) : S41 := ⟨rd A j, rd B j⟩
def mostY (p : Int) (l1 : List S44) (l2 : List Int) (l4 : List S41) (d : Int) : List Int := foulV p.toNat l1 l2 d (l4.map (·.f1))
def leastY (p : Int) (l1 : List S44) (l2 : List Int) (l4 : List S41) (d : Int) : List Int := foulV p.toNat l1 l2 d (l4.map (·.f0))
def yearsV (p : Int) (l1 : List S44) (l2 l3 : List Int) (l4 : List S41) (l5 : List S95) (l : List Int) : List S41 × Int :=
 if givenB p l1 l2 l3 l4 l5 l = true then ((List.range p.toNat).map (spanAt (mostY p l1 l2 l4 (maskV l)) (leastY p l1 l2 l4 (maskV l))), 0) else ([], 2)
structure YE (w : World) (gb gd g8 : Nat) (mc dc : Array Value) (A B : List Int) (k : Nat) (W : World) : Prop where
 b : W.heap[gb]? = some (.cells mc 27 (0, 0))
 d : W.heap[gd]? = some (.cells dc 123 (0, 0))
 hb : Below w.heap.size w W
 e : ∃ v0 v1, W.heap[g8]? = some (.cells #[v0, v1] 89 (0, 0)) ∧ (1 ≤ k → Kd.R (Kd.int .i64) 3 W w.heap.size (fun _ => True) v0 A) ∧ (2 ≤ k → Kd.R (Kd.int .i64) 3 W w.heap.size (fun _ => True) v1 B)
theorem YE.below {w W W' : World} {gb gd g8 : Nat} {mc dc : Array Value} {A B : List Int} {k : Nat} (h : YE w gb gd g8 mc dc A B k W) (hb : Below W.heap.size W W') : YE w gb gd g8 mc dc A B k W' := by
 obtain ⟨v0, v1, e1, e2, e3⟩ := h.e
 exact ⟨qad h.b hb, qad h.d hb, qae h.hb hb, v0, v1, qad e1 hb, fun h => Kd.qam (e2 h) hb, fun h => Kd.qam (e3 h) hb⟩
theorem YE.next {w W : World} {gb gd g8 : Nat} {mc dc : Array Value} {A B : List Int} {k : Nat} {v : Value} (h : YE w gb gd g8 mc dc A B k W) (hg : w.heap.size ≤ g8) (n1 : gb ≠ g8) (n2 : gd ≠ g8) (hk : k < 2) (hr : Kd.R (Kd.int .i64) 3 W w.heap.size (fun _ => True) v (if k = 0 then A else B)) : YE w gb gd g8 mc dc A B (k + 1) (W.setCell ⟨g8, k, none⟩ v) := by
 obtain ⟨v0, v1, e1, e2, e3⟩ := h.e
 refine ⟨blk_far (p := ⟨g8, k, none⟩) h.b n1 _, blk_far (p := ⟨g8, k, none⟩) h.d n2 _, qaj h.hb hg, ?_⟩
 have h2 := blk_set e1 k v
 have r := Kd.R_set hr e1 (by decide) k v
 rcases (by omega : k = 0 ∨ k = 1) with rfl | rfl
 ·
  exact ⟨v, v1, h2, fun _ => r, fun h => by omega⟩
 ·
  exact ⟨v0, v, h2, fun _ => Kd.R_set (e2 (by omega)) e1 (by decide) 1 v, fun _ => r⟩
def seep_Years.f (a0_0 : Int) (l0_1 : List (S44)) (l0_2 : List Int) (l0_3 : List Int) (l0_4 : List (S41)) (l0_5 : List (S95)) (l1 : List Int) : Option ((List (S41)) × Int) := some (yearsV a0_0 l0_1 l0_2 l0_3 l0_4 l0_5 l1)
theorem seep_Years.calls (a0_0 : Int) (A0_1 : Option Addr) (c0_1 : Nat) (l0_1 : List (S44)) (A0_2 : Option Addr) (c0_2 : Nat) (l0_2 : List Int) (A0_3 : Option Addr) (c0_3 : Nat) (l0_3 : List Int) (A0_4 : Option Addr) (c0_4 : Nat) (l0_4 : List (S41)) (A0_5 : Option Addr) (c0_5 : Nat) (l0_5 : List (S95)) (A1 : Option Addr) (c1 : Nat) (l1 : List Int) (r1 : List (S41)) (r2 : Int) (w : World) (hr0_1 : Kd.C k44 w A0_1 l0_1.length l0_1) (hc0_1 : l0_1.length ≤ c0_1) (hr0_2 : Kd.C (Kd.int .i64) w A0_2 l0_2.length l0_2) (hc0_2 : l0_2.length ≤ c0_2) (hr0_3 : Kd.C (Kd.int .i64) w A0_3 l0_3.length l0_3) (hc0_3 : l0_3.length ≤ c0_3) (hr0_4 : Kd.C k41 w A0_4 l0_4.length l0_4) (hc0_4 : l0_4.length ≤ c0_4) (hr0_5 : Kd.C k95 w A0_5 l0_5.length l0_5) (hc0_5 : l0_5.length ≤ c0_5) (hr1 : Kd.C (Kd.int .i64) w A1 l1.length l1) (hc1 : l1.length ≤ c1) (h : seep_Years.f a0_0 l0_1 l0_2 l0_3 l0_4 l0_5 l1 = some (r1, r2)) :
  Calls Try.prog 23 #[.agg #[.int .i64 a0_0, .slice A0_1 l0_1.length c0_1, .slice A0_2 l0_2.length c0_2, .slice A0_3 l0_3.length c0_3, .slice A0_4 l0_4.length c0_4, .slice A0_5 l0_5.length c0_5], .slice A1 l1.length c1] w fun e w' => ∃ v0_ : Value, e = .returned (.tuple #[v0_, .int .i64 r2]) ∧ Kd.R k41 41 w' w.heap.size (fun _ => True) v0_ r1 ∧ Below w.heap.size w w' := by
 have hp : yearsV a0_0 l0_1 l0_2 l0_3 l0_4 l0_5 l1 = (r1, r2) := Option.some.inj h
 clear h
 have hu27 := Try.underlying27
 have hu41 := Try.underlying41
 have hu89 := Try.underlying89
 have hu91 := Try.underlying91
 have hi0 : ∀ (f g : Value) (w : World), (Instr.index 91 (.agg #[f, g]) (.int .i64 0)).run Try.prog w = .ok f w := fun f g w => by rfl
 have hi1 : ∀ (f g : Value) (w : World), (Instr.index 91 (.agg #[f, g]) (.int .i64 1)).run Try.prog w = .ok g w := fun f g w => by rfl
 have HB := qab.mk (Below.refl w.heap.size w)
 cases hg : givenB a0_0 l0_1 l0_2 l0_3 l0_4 l0_5 l1 with
 | false =>
  obtain ⟨rfl, rfl⟩ : r1 = [] ∧ r2 = 2 := by
   unfold yearsV at hp
   rw [hg] at hp
   injection hp with h1 h2
   exact ⟨h1.symm, h2.symm⟩
  have HGIV : qab (∀ W, Below w.heap.size w W → Calls Try.prog 54 #[.agg #[.int .i64 a0_0, .slice A0_1 l0_1.length c0_1, .slice A0_2 l0_2.length c0_2, .slice A0_3 l0_3.length c0_3, .slice A0_4 l0_4.length c0_4, .slice A0_5 l0_5.length c0_5], .slice A1 l1.length c1] W fun e w' => e = .returned (.tuple #[.pointer none, .bool false]) ∧ Below W.heap.size W w') := ⟨fun W hW => given_false a0_0 A0_1 c0_1 l0_1 A0_2 c0_2 l0_2 A0_3 c0_3 l0_3 A0_4 c0_4 l0_4 A0_5 c0_5 l0_5 A1 c1 l1 W (Kd.qai hr0_1 hW) hc0_1 (Kd.qai hr0_2 hW) hc0_2 (Kd.qai hr0_3 hW) hc0_3 (Kd.qai hr0_4 hW) hc0_4 (Kd.qai hr0_5 hW) hc0_5 (Kd.qai hr1 hW) hc1 hg⟩
  clear hp hg hr0_1 hr0_2 hr0_3 hr0_4 hr0_5 hr1
  go_enter Try.func23, Try.ntmps23
  go_wp2_with (first | ((with_reducible refine qaq (N := 2) rfl ?_); refine qan ?hg (N := 2) ?hd (cs := #[.int .i64 a0_0, .slice A0_1 l0_1.length c0_1, .slice A0_2 l0_2.length c0_2, .slice A0_3 l0_3.length c0_3, .slice A0_4 l0_4.length c0_4, .slice A0_5 l0_5.length c0_5]) (t := 27) ?hr ?_; (case hd => rfl); (case hg => rfl); (case hr => first | (go_simp; done) | (go_simp; rfl)); intro gb hg_gb w2 hbox hb; have BKgb := qab.mk hbox; have n_HB := qab.mk (qae HB.out hb); have GEgb : w.heap.size ≤ gb := (by rw [hg_gb]; exact HB.out.size); clear HB; have HB := n_HB; clear n_HB; obtain ⟨hfgb, hcgb_0, hcgb_1, hcgb_2, hcgb_3, hcgb_4, hcgb_5⟩ := qz6 BKgb.out; clear hbox hb hg_gb) | (go_at_call 54; (with_reducible refine (HGIV.out _ HB.out).mono ?_); rintro e wn ⟨rfl, hb⟩; replace BKgb := qab.mk (qad BKgb.out hb); replace HB := qab.mk (qae HB.out hb); clear hb; obtain ⟨hfgb, hcgb_0, hcgb_1, hcgb_2, hcgb_3, hcgb_4, hcgb_5⟩ := qz6 BKgb.out))
  go_ret2
  exact ⟨_, rfl, Kd.R_nil _ _ _ _ _, HB.out⟩
 | true =>
  have HV := qab.mk (valid_facts (given_valid hg))
  have hn4 := HV.out.n4
  have hpp := HV.out.pp
  obtain ⟨A, hA⟩ : ∃ A, A = mostY a0_0 l0_1 l0_2 l0_4 (maskV l1) := ⟨_, rfl⟩
  obtain ⟨B, hBE⟩ : ∃ B, B = leastY a0_0 l0_1 l0_2 l0_4 (maskV l1) := ⟨_, rfl⟩
  obtain ⟨rfl, rfl⟩ : r1 = (List.range a0_0.toNat).map (spanAt A B) ∧ r2 = 0 := by
   unfold yearsV at hp
   rw [hg, if_pos rfl, ← hA, ← hBE] at hp
   injection hp with h1 h2
   exact ⟨h1.symm, h2.symm⟩
  have HGIV : qab (∀ W, Below w.heap.size w W → Calls Try.prog 54 #[.agg #[.int .i64 a0_0, .slice A0_1 l0_1.length c0_1, .slice A0_2 l0_2.length c0_2, .slice A0_3 l0_3.length c0_3, .slice A0_4 l0_4.length c0_4, .slice A0_5 l0_5.length c0_5], .slice A1 l1.length c1] W fun e w' => ∃ g, e = .returned (.tuple #[.pointer (some ⟨g, 0, none⟩), .bool true]) ∧ W.heap.size ≤ g ∧ w'.heap[g]? = some (.cells #[.int .i64 a0_0, .slice A0_1 l0_1.length c0_1, .slice A0_2 l0_2.length c0_2, .slice A0_3 l0_3.length c0_3, .slice A0_4 l0_4.length c0_4, .slice A0_5 l0_5.length c0_5, .int .i64 (maskV l1 : Int)] 123 (0, 0)) ∧ Below W.heap.size W w') := ⟨fun W hW => given_true a0_0 A0_1 c0_1 l0_1 A0_2 c0_2 l0_2 A0_3 c0_3 l0_3 A0_4 c0_4 l0_4 A0_5 c0_5 l0_5 A1 c1 l1 W (Kd.qai hr0_1 hW) hc0_1 (Kd.qai hr0_2 hW) hc0_2 (Kd.qai hr0_3 hW) hc0_3 (Kd.qai hr0_4 hW) hc0_4 (Kd.qai hr0_5 hW) hc0_5 (Kd.qai hr1 hW) hc1 hg⟩
  have HMO : qab (∀ gd W, Below w.heap.size w W → W.heap[gd]? = some (.cells #[.int .i64 a0_0, .slice A0_1 l0_1.length c0_1, .slice A0_2 l0_2.length c0_2, .slice A0_3 l0_3.length c0_3, .slice A0_4 l0_4.length c0_4, .slice A0_5 l0_5.length c0_5, .int .i64 (maskV l1 : Int)] 123 (0, 0)) → Calls Try.prog 58 #[.pointer (some ⟨gd, 0, none⟩)] W fun e w' => ∃ v, e = .returned v ∧ Kd.R (Kd.int .i64) 3 w' W.heap.size (fun _ => True) v (l0_4.map (·.f1)) ∧ Below W.heap.size W w') := ⟨fun gd W hW hd => most_calls gd _ _ _ _ _ _ _ l0_4 _ W (Kd.qai hr0_4 hW) (by omega) hd⟩
  have HLE : qab (∀ gd W, Below w.heap.size w W → W.heap[gd]? = some (.cells #[.int .i64 a0_0, .slice A0_1 l0_1.length c0_1, .slice A0_2 l0_2.length c0_2, .slice A0_3 l0_3.length c0_3, .slice A0_4 l0_4.length c0_4, .slice A0_5 l0_5.length c0_5, .int .i64 (maskV l1 : Int)] 123 (0, 0)) → Calls Try.prog 59 #[.pointer (some ⟨gd, 0, none⟩)] W fun e w' => ∃ v, e = .returned v ∧ Kd.R (Kd.int .i64) 3 w' W.heap.size (fun _ => True) v (l0_4.map (·.f0)) ∧ Below W.heap.size W w') := ⟨fun gd W hW hd => least_calls gd _ _ _ _ _ _ _ l0_4 _ W (Kd.qai hr0_4 hW) (by omega) hd⟩
  have HFO : qab (∀ gd W (ad : Addr) (n c : Nat) (ths : List Int), n = ths.length → ths.length ≤ 100000 → Below w.heap.size w W → W.heap[gd]? = some (.cells #[.int .i64 a0_0, .slice A0_1 l0_1.length c0_1, .slice A0_2 l0_2.length c0_2, .slice A0_3 l0_3.length c0_3, .slice A0_4 l0_4.length c0_4, .slice A0_5 l0_5.length c0_5, .int .i64 (maskV l1 : Int)] 123 (0, 0)) → Kd.C (Kd.int .i64) W (some ad) ths.length ths → Calls Try.prog 56 #[.pointer (some ⟨gd, 0, none⟩), .slice (some ad) n c] W fun e w' => ∃ v, e = .returned v ∧ Kd.R (Kd.int .i64) 3 w' W.heap.size (fun _ => True) v (foulV a0_0.toNat l0_1 l0_2 (maskV l1) ths) ∧ Below W.heap.size W w') := ⟨fun gd W ad n c ths hn hl hW hd ht => by subst hn; exact foulG a0_0 A0_1 c0_1 l0_1 A0_2 c0_2 l0_2 A0_3 c0_3 l0_3 A0_4 c0_4 l0_4 A0_5 c0_5 l0_5 (maskV l1 : Int) gd _ c ths W (Kd.qai hr0_1 hW) hc0_1 (Kd.qai hr0_2 hW) hc0_2 (Kd.qai hr0_3 hW) hc0_3 (Kd.qai hr0_4 hW) hc0_4 (Kd.qai hr0_5 hW) hc0_5 ht hl HV.out hd⟩
  have HA := qab.mk hA
  have HBE := qab.mk hBE
  clear hp hg hr0_1 hr0_2 hr0_3 hr0_4 hr0_5 hr1 hA hBE
  go_enter Try.func23, Try.ntmps23
  go_upto_region 5 with (first | ((with_reducible refine qaq (N := 2) rfl ?_); refine qan ?hg (N := 2) ?hd (cs := #[.int .i64 a0_0, .slice A0_1 l0_1.length c0_1, .slice A0_2 l0_2.length c0_2, .slice A0_3 l0_3.length c0_3, .slice A0_4 l0_4.length c0_4, .slice A0_5 l0_5.length c0_5]) (t := 27) ?hr ?_; (case hd => rfl); (case hg => rfl); (case hr => first | (go_simp; done) | (go_simp; rfl)); intro gb hg_gb w2 hbox hb; have BKgb := qab.mk hbox; have n_HB := qab.mk (qae HB.out hb); have GEgb : w.heap.size ≤ gb := (by rw [hg_gb]; exact HB.out.size); clear HB; have HB := n_HB; clear n_HB; obtain ⟨hfgb, hcgb_0, hcgb_1, hcgb_2, hcgb_3, hcgb_4, hcgb_5⟩ := qz6 BKgb.out; clear hbox hb hg_gb) | (go_at_call 54; (with_reducible refine (HGIV.out _ HB.out).mono ?_); rintro e wn ⟨gd, rfl, GEgd, hbk, hb⟩; have BKgd := qab.mk hbk; clear hbk; have HBo := HB; replace BKgb := qab.mk (qad BKgb.out hb); replace HB := qab.mk (qae HB.out hb); clear hb; have GEd : w.heap.size ≤ gd := Nat.le_trans (by first | exact HBo.out.size | omega) GEgd; obtain ⟨hfgb, hcgb_0, hcgb_1, hcgb_2, hcgb_3, hcgb_4, hcgb_5⟩ := qz6 BKgb.out) | ((with_reducible refine qaq (N := 8) rfl ?_); refine qan ?hg (N := 8) ?hd (cs := #[.slice none 0 0, .slice none 0 0]) (t := 89) ?hr ?_; (case hd => rfl); (case hg => rfl); (case hr => first | (go_simp; done) | (go_simp; rfl)); intro g8 hg_g8 w5 hbox hb; have BKg8 := qab.mk hbox; have ne_gb_g8 : gb ≠ g8 := (by rw [hg_g8]; exact Nat.ne_of_lt (blk_lt BKgb.out)); have ne_gd_g8 : gd ≠ g8 := (by rw [hg_g8]; exact Nat.ne_of_lt (blk_lt BKgd.out)); replace BKgb := qab.mk (qad BKgb.out hb); replace BKgd := qab.mk (qad BKgd.out hb); have n_HB := qab.mk (qae HB.out hb); have GEg8 : w.heap.size ≤ g8 := (by rw [hg_g8]; exact HB.out.size); clear HB; have HB := n_HB; clear n_HB; obtain ⟨hfg8, hcg8_0, hcg8_1⟩ := qz2 BKg8.out; clear hbox hb hg_g8))
  have YE0 : qab (YE w gb gd g8 #[.int .i64 a0_0, .slice A0_1 l0_1.length c0_1, .slice A0_2 l0_2.length c0_2, .slice A0_3 l0_3.length c0_3, .slice A0_4 l0_4.length c0_4, .slice A0_5 l0_5.length c0_5] #[.int .i64 a0_0, .slice A0_1 l0_1.length c0_1, .slice A0_2 l0_2.length c0_2, .slice A0_3 l0_3.length c0_3, .slice A0_4 l0_4.length c0_4, .slice A0_5 l0_5.length c0_5, .int .i64 (maskV l1 : Int)] A B 0 w5) := ⟨⟨BKgb.out, BKgd.out, HB.out, _, _, BKg8.out, fun h => by omega, fun h => by omega⟩⟩
  go_wp2
  go_loopw [26] (fun s26 wr => ∃ k : Nat, k ≤ 2 ∧ s26 = .int .i64 k ∧ qab (YE w gb gd g8 #[.int .i64 a0_0, .slice A0_1 l0_1.length c0_1, .slice A0_2 l0_2.length c0_2, .slice A0_3 l0_3.length c0_3, .slice A0_4 l0_4.length c0_4, .slice A0_5 l0_5.length c0_5] #[.int .i64 a0_0, .slice A0_1 l0_1.length c0_1, .slice A0_2 l0_2.length c0_2, .slice A0_3 l0_3.length c0_3, .slice A0_4 l0_4.length c0_4, .slice A0_5 l0_5.length c0_5, .int .i64 (maskV l1 : Int)] A B k wr)) (fun s _ => 2 - (intOf s).toNat)
  case atStart => exact ⟨0, by omega, rfl, YE0⟩
  case round =>
   clear YE0 HB BKgb BKgd BKg8 HBo GEgd hfg8 hcg8_0 hcg8_1
   obtain ⟨k, hk, rfl, HY⟩ := hrel
   rcases (by omega : k = 0 ∨ k = 1 ∨ k = 2) with rfl | rfl | rfl
   ·
    go_wp2_with (first | (go_at_call 58; (with_reducible refine (HMO.out gd _ HY.out.hb HY.out.d).mono ?_); rintro e wn ⟨v, rfl, hR, hb⟩; obtain ⟨ad, ca, e⟩ := Kd.R_slice1 hR (by simp; omega); subst e; have HTH := qab.mk (Kd.qbc hR).2.2; replace HY := qab.mk (HY.out.below hb); clear hR hb) | (go_at_call 56; (with_reducible refine (HFO.out gd _ ad _ ca (l0_4.map (·.f1)) (by simp) (by simp; omega) HY.out.hb HY.out.d HTH.out).mono ?_); rintro e wo ⟨v, rfl, hR, hb⟩; obtain ⟨aF, cF, eF⟩ := Kd.R_slice1 hR (by rw [foulV_length]; omega); subst eF; have HRV := qab.mk (Kd.R_lower hR HY.out.hb.size); replace HY := qab.mk (HY.out.below hb); clear hR hb; obtain ⟨_, _, hbg, _⟩ := HY.out.e; have frg := qac hbg; obtain ⟨_, hcg⟩ : ∃ x, wo.cell? ⟨g8, 0, none⟩ = some x := ⟨_, (qaa hbg 0).trans rfl⟩; clear hbg))
    go_roundw
    case rel => exact ⟨1, by omega, by go_num, ⟨HY.out.next GEg8 ne_gb_g8 ne_gd_g8 (by omega) (by have h := HRV.out; rw [if_pos (by decide), HA.out]; exact h)⟩⟩
    case measure => simp [intOf]
   ·
    go_wp2_with (first | (go_at_call 59; (with_reducible refine (HLE.out gd _ HY.out.hb HY.out.d).mono ?_); rintro e wn ⟨v, rfl, hR, hb⟩; obtain ⟨ad, ca, e⟩ := Kd.R_slice1 hR (by simp; omega); subst e; have HTH := qab.mk (Kd.qbc hR).2.2; replace HY := qab.mk (HY.out.below hb); clear hR hb) | (go_at_call 56; (with_reducible refine (HFO.out gd _ ad _ ca (l0_4.map (·.f0)) (by simp) (by simp; omega) HY.out.hb HY.out.d HTH.out).mono ?_); rintro e wo ⟨v, rfl, hR, hb⟩; obtain ⟨aF, cF, eF⟩ := Kd.R_slice1 hR (by rw [foulV_length]; omega); subst eF; have HRV := qab.mk (Kd.R_lower hR HY.out.hb.size); replace HY := qab.mk (HY.out.below hb); clear hR hb; obtain ⟨_, _, hbg, _⟩ := HY.out.e; have frg := qac hbg; obtain ⟨_, hcg⟩ : ∃ x, wo.cell? ⟨g8, 1, none⟩ = some x := ⟨_, (qaa hbg 1).trans rfl⟩; clear hbg))
    go_roundw
    case rel => exact ⟨2, by omega, by go_num, ⟨HY.out.next GEg8 ne_gb_g8 ne_gd_g8 (by omega) (by have h := HRV.out; rw [if_neg (by decide), HBE.out]; exact h)⟩⟩
    case measure => simp [intOf]
   ·
    obtain ⟨v0, v1, hb8, hr0, hr1⟩ := HY.out.e
    have BKg8 := qab.mk hb8
    have HA1 := qab.mk (hr0 (by omega))
    have HB1 := qab.mk (hr1 (by omega))
    have hla : A.length = a0_0.toNat := by rw [HA.out]; exact foulTo_length _ _ _ _ _ _
    have hlb : B.length = a0_0.toNat := by rw [HBE.out]; exact foulTo_length _ _ _ _ _ _
    clear hb8 hr0 hr1 hk
    obtain ⟨a, ca, e⟩ := Kd.R_slice1 HA1.out (by omega)
    subst e
    obtain ⟨b, cb, e⟩ := Kd.R_slice1 HB1.out (by omega)
    subst e
    have HLA := qab.mk (And.intro hla hlb)
    clear hla hlb
    have f0 : wr.cell? ⟨gb, 0, none⟩ = some (.int .i64 a0_0) := (qaa HY.out.b 0).trans rfl
    have HO : qab (Kd.R k41 41 wr w.heap.size (fun _ => True) (.slice none 0 0) ((List.range 0).map (spanAt A B))) := ⟨Kd.R_nil _ _ _ _ _⟩
    go_wp2
    have BKgb := qab.mk HY.out.b
    have HB := qab.mk HY.out.hb
    clear HY f0
    go_loopw [11, 39] (fun s11 s39 wr => ∃ (j : Nat) (v : Value), (j : Int) ≤ a0_0 ∧ s39 = .int .i64 j ∧ v = s11 ∧ qab (Kd.R k41 41 wr w.heap.size (fun _ => True) v ((List.range j).map (spanAt A B))) ∧ qab (Kd.R (Kd.int .i64) 3 wr w.heap.size (fun _ => True) (.slice (some a) A.length ca) A) ∧ qab (Kd.R (Kd.int .i64) 3 wr w.heap.size (fun _ => True) (.slice (some b) B.length cb) B) ∧ qab (wr.heap[g8]? = some (.cells #[.slice (some a) A.length ca, .slice (some b) B.length cb] 89 (0, 0))) ∧ qab (wr.heap[gb]? = some (.cells #[.int .i64 a0_0, .slice A0_1 l0_1.length c0_1, .slice A0_2 l0_2.length c0_2, .slice A0_3 l0_3.length c0_3, .slice A0_4 l0_4.length c0_4, .slice A0_5 l0_5.length c0_5] 27 (0, 0))) ∧ qab (Below w.heap.size w wr)) (fun _ s _ => a0_0.toNat - (intOf s).toNat)
    case atStart => exact ⟨0, _, by omega, rfl, rfl, HO, HA1, HB1, BKg8, BKgb, HB⟩
    case round =>
     clear HO HA1 HB1 BKg8 BKgb HB
     obtain ⟨j, v, hj, rfl, rfl, HO, HA, HBB, BKg8, BKgb, HB⟩ := hrel
     by_cases hlt : (j : Int) < a0_0
     ·
      have hja : j < A.length := by have := HLA.out; omega
      have hjb : j < B.length := by have := HLA.out; omega
      obtain ⟨_, e, q2⟩ := Kd.at_int (Kd.qbc HA.out).2.2 j (by omega) (by omega)
      cases e
      obtain ⟨_, e, q3⟩ := Kd.at_int (Kd.qbc HBB.out).2.2 j (by omega) (by omega)
      cases e
      simp only [Int.toNat_natCast] at q2 q3
      have q0 : wr.cell? ⟨g8, 0, none⟩ = some (.slice (some a) A.length ca) := (qaa BKg8.out 0).trans rfl
      have q1 : wr.cell? ⟨g8, 1, none⟩ = some (.slice (some b) B.length cb) := (qaa BKg8.out 1).trans rfl
      go_upto_region 14 with fail
      refine start_ (n := 15) (S := (fun w' => (w'.cell? ⟨g8, 0, none⟩ = some (.slice (some a) A.length ca) ∧ w'.cell? ⟨g8, 1, none⟩ = some (.slice (some b) B.length cb) ∧ w'.cell? (a.add j) = some (.int .i64 (rd A j)) ∧ w'.cell? (b.add j) = some (.int .i64 (rd B j))))) (ds := [12, 13]) (msk 15 0) (by kernel_rfl) rfl rfl ⟨q0, q1, q2, q3⟩ (fun hHeld => ?_)
      have HO2 := qab.mk (Kd.qaw HO.out); have HB2 := qab.mk (qbd HB.out); have HA2 := qab.mk (Kd.qaw HA.out); have HBB2 := qab.mk (Kd.qaw HBB.out); have BK2 := qab.mk (qav BKg8.out); have BKb2 := qab.mk (qav BKgb.out)
      generalize wr.drew = wq at hHeld HO2 HB2 HA2 HBB2 BK2 BKb2 ⊢
      refine zq 0 1 42 ?_
      refine zq 1 2 43 ?_
      refine zt4 2 3 44 hHeld ?_
      refine zq 3 4 45 ?_
      refine zq 4 5 46 ?_
      refine zt4 5 6 47 hHeld ?_
      refine zq 6 7 48 ?_
      refine zt4 7 8 49 hHeld ?_
      refine zq 8 9 50 ?_
      refine zq 9 10 51 ?_
      refine zt4 10 11 52 hHeld ?_
      refine zq 11 12 53 ?_
      refine last_ (i := 12) (N := some 54) (msk 15 13) rfl rfl (by kernel_rfl) (by decide) (fun K hK => ?_); refine value_ (w1 := ?_) (v := ?_) (by rfl) rfl ?_ ?_; rotate_left 2; (focus (go_simp; constructor; rfl; rfl)); refine hK.out _ _ ?_; clear hK K; refine zn 54 ?_
      refine last_ (i := 13) (N := some 55) (msk 15 14) rfl rfl (by kernel_rfl) (by decide) (fun K hK => ?_)
      refine Kd.R_append_step k41 (w0 := w) w.heap.size (by rfl) (.tmp 42) (.tmp 54) 24 41 (.agg #[.int .i64 0, .int .i64 0]) 16 rfl Try.underlying24 info41 rfl (by decide) (by omega) v ((List.range j).map (spanAt A B)) (spanAt A B j) [.int .i64 (rd A j), .int .i64 (rd B j)] (fun _ => True) (fun _ => False) rfl rfl ?aP (fun _ hk => hk.elim) ?aF ?aO ?aB ?aS ?aL ?_; (case aP => exact k41_mkM _ _ _ (spanAt A B j)); (case aF => exact fun _ _ => trivial); (case aO => exact HO2.out); (case aB => exact HB2.out); (case aS => exact HB2.out.size); (case aL => simp; omega); intro v1 w1 ho hB hg hat
      have HO3 := qab.mk ho; have HB3 := qab.mk hB; have HA3 := qab.mk (Kd.R_over' HA2.out (Kd.R_typed HO2.out) (by decide) hg); have HBB3 := qab.mk (Kd.R_over' HBB2.out (Kd.R_typed HO2.out) (by decide) hg); have BK3 := qab.mk (blk_grown BK2.out hg (Kd.R_ne HO2.out BK2.out (by decide))); have BKb3 := qab.mk (blk_grown BKb2.out hg (Kd.R_ne HO2.out BKb2.out (by decide))); clear ho hB hg hat
      refine hK.out _ _ ?_; clear hK K; refine zn 55 ?_
      refine zq 14 15 11 ?_
      refine done_ (by kernel_rfl) ?_
      go_wp2
      go_roundw
      case rel => exact ⟨j + 1, v1, by omega, by go_num, rfl, ⟨by rw [List.range_succ, List.map_append]; exact HO3.out⟩, HA3, HBB3, BK3, BKb3, HB3⟩
      case measure => simp [intOf]; omega
     ·
      have hjE : j = a0_0.toNat := by omega
      have HO4 : qab (Kd.R k41 41 wr w.heap.size (fun _ => True) v ((List.range a0_0.toNat).map (spanAt A B))) := ⟨by rw [← hjE]; exact HO.out⟩
      clear hjE HO
      go_wp2
      go_ret2
      exact ⟨v, rfl, HO4.out, HB.out⟩
end Go.Proofs.Ytafkanmioinbiaa.SA
namespace Go.Proofs.Ytafkanmioinbiaa.SA
open Go.RowKit Go.Proofs.YtafkanmioinbiaaW.PrintWords Go.Proofs.YtafkanmioinbiaaW.PrintLast Go.Proofs.YtafkanmioinbiaaW.PrintMore
attribute [local go_sem] max2_int min2_int max_two min_two qbe qbf max_four min_four
def goB (d : Int) (l1 : List S44) (l4 : List S41) (n y : Nat) : Bool := !dykeV d n && decide ((qbg l4 y).f1 ≥ (qax l1 n).f2)
def goesN (d : Int) (l1 : List S44) (l4 : List S41) (n year : Nat) : Option Nat := ((List.range l4.length).drop year).find? (goB d l1 l4 n)
def goesV (d : Int) (l1 : List S44) (l4 : List S41) (n year : Nat) : Int × Bool := match goesN d l1 l4 n year with | some y => ((y : Int), true) | none => (0, false)
theorem goesN_step (d : Int) (l1 : List S44) (l4 : List S41) (n y : Nat) (hy : y < l4.length) : goesN d l1 l4 n y = if goB d l1 l4 n y = true then some y else goesN d l1 l4 n (y + 1) := by
 unfold goesN
 have hl : y < (List.range l4.length).length := by simpa using hy
 rw [List.drop_eq_getElem_cons hl, List.find?_cons]
 simp only [List.getElem_range]
 cases goB d l1 l4 n y <;> simp
theorem goesN_end (d : Int) (l1 : List S44) (l4 : List S41) (n y : Nat) (hy : l4.length ≤ y) : goesN d l1 l4 n y = none := by
 unfold goesN
 rw [List.drop_eq_nil_of_le (by simpa using hy)]
 rfl
theorem goes_calls (g : Nat) (v0 v2 v3 v5 : Value) (A1 : Option Addr) (c1 : Nat) (l1 : List S44) (A4 : Option Addr) (c4 : Nat) (l4 : List S41) (d : Int) (n year : Nat) (w : World) (hr1 : Kd.C k44 w A1 l1.length l1) (hr4 : Kd.C k41 w A4 l4.length l4) (h15 : l4.length ≤ 100000) (hn : n < l1.length) (hn2 : n < 64) (hy : year ≤ 100000)
  (hb : w.heap[g]? = some (.cells #[v0, .slice A1 l1.length c1, v2, v3, .slice A4 l4.length c4, v5, .int .i64 d] 123 (0, 0))) :
  Calls Try.prog 63 #[.pointer (some ⟨g, 0, none⟩), .int .i64 (n : Int), .int .i64 (year : Int)] w fun e w' => e = .returned (.tuple #[.int .i64 (goesV d l1 l4 n year).1, .bool (goesV d l1 l4 n year).2]) ∧ Below w.heap.size w w' := by
 have hu123 := Try.underlying123
 have hu27 := Try.underlying27
 have hu41 := Try.underlying41
 have hu44 := Try.underlying44
 have HR1 := qab.mk hr1
 have HR4 := qab.mk hr4
 have HB := qab.mk (Below.refl w.heap.size w)
 have BK := qab.mk hb
 clear hr1 hr4 hb
 go_enter Try.func63, Try.ntmps63
 go_wp2
 go_loopw [8] (fun s8 wr => ∃ (y : Nat), y ≤ 100000 ∧ s8 = .int .i64 y ∧ qab (goesN d l1 l4 n year = goesN d l1 l4 n y) ∧ qab (Below w.heap.size w wr)) (fun s _ => 100001 - (intOf s).toNat)
 case atStart => exact ⟨year, hy, rfl, ⟨rfl⟩, HB⟩
 case round =>
  clear HB hy
  obtain ⟨y, hy, rfl, HN, HB⟩ := hrel
  have q4 : wr.cell? ⟨g, 4, none⟩ = some (.slice A4 l4.length c4) := (qaa (qad BK.out HB.out) 4).trans rfl
  by_cases hlt : y < l4.length
  ·
   obtain ⟨a4, e, _, t1⟩ := at_T41 HR4.out y (by omega) (by omega)
   cases e
   obtain ⟨a1, e, _, _, t2, _⟩ := at_T44 HR1.out n (by omega) (by omega)
   cases e
   simp only [Int.toNat_natCast] at t1 t2
   obtain ⟨th, hth⟩ : ∃ x, x = (qbg l4 y).f1 := ⟨_, rfl⟩
   obtain ⟨dp, hdp⟩ : ∃ x, x = (qax l1 n).f2 := ⟨_, rfl⟩
   rw [← hth] at t1
   rw [← hdp] at t2
   have T1 := qab.mk t1
   have T2 := qab.mk t2
   have HT : qab (∀ W, Below w.heap.size w W → (W.cell? ⟨g, 4, none⟩ = some (.slice (some a4) l4.length c4) ∧ W.cell? ⟨g, 1, none⟩ = some (.slice (some a1) l1.length c1) ∧ W.cell? ⟨(a4.add (y * 2)).block, (a4.add (y * 2)).off + 1, none⟩ = some (.int .i64 th) ∧ W.cell? ⟨(a1.add (n * 4)).block, (a1.add (n * 4)).off + 2, none⟩ = some (.int .i64 dp) ∧ qab (Below w.heap.size w W))) := ⟨fun W h => ⟨(qaa (qad BK.out h) 4).trans rfl, (qaa (qad BK.out h) 1).trans rfl, (h.cell (World.block_lt_of_cell? w _ T1.out)).trans T1.out, (h.cell (World.block_lt_of_cell? w _ T2.out)).trans T2.out, ⟨h⟩⟩⟩
   obtain ⟨dy, hdy⟩ : ∃ b, b = dykeV d n := ⟨_, rfl⟩
   have HDY : qab (∀ W, Below w.heap.size w W → Calls Try.prog 92 #[.pointer (some ⟨g, 0, none⟩), .int .i64 (n : Int)] W fun e w' => e = .returned (.bool dy) ∧ Below W.heap.size W w') := ⟨fun W h => by rw [hdy]; exact dyke_calls g _ _ _ _ _ _ d n W (qad BK.out h) (by omega) (by omega)⟩
   have HG : qab (goB d l1 l4 n y = (!dy && decide (th ≥ dp))) := ⟨by rw [hdy, hth, hdp]; rfl⟩
   clear t1 t2 hth hdp hdy
   go_upto_region 4 with fail
   clear q4
   cases dy with
   | true =>
    have HS : qab (goesN d l1 l4 n year = goesN d l1 l4 n (y + 1)) := ⟨by rw [HN.out, goesN_step d l1 l4 n y hlt, HG.out]; rfl⟩
    refine start_ (n := 25) (S := (fun w' => (w'.cell? ⟨g, 4, none⟩ = some (.slice (some a4) l4.length c4) ∧ w'.cell? ⟨g, 1, none⟩ = some (.slice (some a1) l1.length c1) ∧ w'.cell? ⟨(a4.add (y * 2)).block, (a4.add (y * 2)).off + 1, none⟩ = some (.int .i64 th) ∧ w'.cell? ⟨(a1.add (n * 4)).block, (a1.add (n * 4)).off + 2, none⟩ = some (.int .i64 dp) ∧ qab (Below w.heap.size w w')))) (ds := []) (msk 25 0) (by kernel_rfl) rfl rfl (HT.out _ (qbd HB.out)) (fun hHeld => ?_)
    refine zq 0 1 20 ?_
    refine zq 1 2 21 ?_
    refine one_ (i := 2) (N := some 22) (msk 25 3) rfl rfl (by kernel_rfl) (by decide) (fun K hK => ?_)
    refine zg Try.func92 #[.pointer (some ⟨g, 0, none⟩), .int .i64 (n : Int)] ?_
    refine (HDY.out _ hHeld.2.2.2.2.out).mono ?_; rintro e w5 ⟨rfl, hb⟩; have HP5 := qab.mk (HT.out w5 (qae hHeld.2.2.2.2.out hb)); clear hb; refine ⟨_, rfl, ?_⟩; refine hK.out _ _ HP5.out (fun hHeld => ?_); clear hK K; refine zn 22 ?_
    refine zq 3 4 23 ?_
    refine zq 4 5 24 ?_
    refine zo 5 6 25 ?_
    refine zo 6 7 26 ?_
    refine zo 7 8 27 ?_
    refine zo 8 9 28 ?_
    refine zo 9 10 29 ?_
    refine zo 10 11 30 ?_
    refine zo 11 12 31 ?_
    refine zo 12 13 32 ?_
    refine zo 13 14 33 ?_
    refine zo 14 15 34 ?_
    refine zo 15 16 35 ?_
    refine zo 16 17 36 ?_
    refine zo 17 18 37 ?_
    refine zo 18 19 38 ?_
    refine zo 19 20 39 ?_
    refine zo 20 21 40 ?_
    refine zo 21 22 41 ?_
    refine zo 22 23 42 ?_
    refine zo 23 24 43 ?_
    refine zq 24 25 44 ?_
    refine done_ (by kernel_rfl) ?_
    clear hHeld
    go_wp2
    go_roundw
    case rel => exact ⟨y + 1, by omega, by go_num, HS, HP5.out.2.2.2.2⟩
    case measure => simp [intOf]; omega
   | false =>
    by_cases hc : th ≥ dp
    ·
     have hcd : decide (dp ≤ th) = true := decide_eq_true hc
     have HS : qab (goesV d l1 l4 n year = ((y : Int), true)) := ⟨by unfold goesV; rw [HN.out, goesN_step d l1 l4 n y hlt, HG.out, decide_eq_true hc]; rfl⟩
     clear hc
     refine start_ (n := 25) (S := (fun w' => (w'.cell? ⟨g, 4, none⟩ = some (.slice (some a4) l4.length c4) ∧ w'.cell? ⟨g, 1, none⟩ = some (.slice (some a1) l1.length c1) ∧ w'.cell? ⟨(a4.add (y * 2)).block, (a4.add (y * 2)).off + 1, none⟩ = some (.int .i64 th) ∧ w'.cell? ⟨(a1.add (n * 4)).block, (a1.add (n * 4)).off + 2, none⟩ = some (.int .i64 dp) ∧ qab (Below w.heap.size w w')))) (ds := []) (msk 25 0) (by kernel_rfl) rfl rfl (HT.out _ (qbd HB.out)) (fun hHeld => ?_)
     refine zq 0 1 20 ?_
     refine zq 1 2 21 ?_
     refine one_ (i := 2) (N := some 22) (msk 25 3) rfl rfl (by kernel_rfl) (by decide) (fun K hK => ?_)
     refine zg Try.func92 #[.pointer (some ⟨g, 0, none⟩), .int .i64 (n : Int)] ?_
     refine (HDY.out _ hHeld.2.2.2.2.out).mono ?_; rintro e w5 ⟨rfl, hb⟩; have HP5 := qab.mk (HT.out w5 (qae hHeld.2.2.2.2.out hb)); clear hb; refine ⟨_, rfl, ?_⟩; refine hK.out _ _ HP5.out (fun hHeld => ?_); clear hK K; refine zn 22 ?_
     refine zq 3 4 23 ?_
     refine zq 4 5 24 ?_
     refine zq 5 6 25 ?_
     refine zq 6 7 26 ?_
     refine zq 7 8 27 ?_
     refine zq 8 9 28 ?_
     refine zt5 9 10 29 hHeld ?_
     refine zq 10 11 30 ?_
     refine zq 11 12 31 ?_
     refine zq 12 13 32 ?_
     refine zt5 13 14 33 hHeld ?_
     refine zq 14 15 34 ?_
     refine zq 15 16 35 ?_
     refine zq 16 17 36 ?_
     refine zq 17 18 37 ?_
     refine zt5 18 19 38 hHeld ?_
     refine zq 19 20 39 ?_
     refine zq 20 21 40 ?_
     refine zq 21 22 41 ?_
     refine zt5 22 23 42 hHeld ?_
     refine zq 23 24 43 ?_
     refine zq 24 25 44 ?_
     refine done_ (by kernel_rfl) ?_
     clear hHeld
     go_wp2
     go_ret2
     exact ⟨by rw [HS.out]; rfl, HP5.out.2.2.2.2.out⟩
    ·
     have hcd : decide (dp ≤ th) = false := decide_eq_false hc
     have HS : qab (goesN d l1 l4 n year = goesN d l1 l4 n (y + 1)) := ⟨by rw [HN.out, goesN_step d l1 l4 n y hlt, HG.out, decide_eq_false hc]; rfl⟩
     clear hc
     refine start_ (n := 25) (S := (fun w' => (w'.cell? ⟨g, 4, none⟩ = some (.slice (some a4) l4.length c4) ∧ w'.cell? ⟨g, 1, none⟩ = some (.slice (some a1) l1.length c1) ∧ w'.cell? ⟨(a4.add (y * 2)).block, (a4.add (y * 2)).off + 1, none⟩ = some (.int .i64 th) ∧ w'.cell? ⟨(a1.add (n * 4)).block, (a1.add (n * 4)).off + 2, none⟩ = some (.int .i64 dp) ∧ qab (Below w.heap.size w w')))) (ds := []) (msk 25 0) (by kernel_rfl) rfl rfl (HT.out _ (qbd HB.out)) (fun hHeld => ?_)
     refine zq 0 1 20 ?_
     refine zq 1 2 21 ?_
     refine one_ (i := 2) (N := some 22) (msk 25 3) rfl rfl (by kernel_rfl) (by decide) (fun K hK => ?_)
     refine zg Try.func92 #[.pointer (some ⟨g, 0, none⟩), .int .i64 (n : Int)] ?_
     refine (HDY.out _ hHeld.2.2.2.2.out).mono ?_; rintro e w5 ⟨rfl, hb⟩; have HP5 := qab.mk (HT.out w5 (qae hHeld.2.2.2.2.out hb)); clear hb; refine ⟨_, rfl, ?_⟩; refine hK.out _ _ HP5.out (fun hHeld => ?_); clear hK K; refine zn 22 ?_
     refine zq 3 4 23 ?_
     refine zq 4 5 24 ?_
     refine zq 5 6 25 ?_
     refine zq 6 7 26 ?_
     refine zq 7 8 27 ?_
     refine zq 8 9 28 ?_
     refine zt5 9 10 29 hHeld ?_
     refine zq 10 11 30 ?_
     refine zq 11 12 31 ?_
     refine zq 12 13 32 ?_
     refine zt5 13 14 33 hHeld ?_
     refine zq 14 15 34 ?_
     refine zq 15 16 35 ?_
     refine zq 16 17 36 ?_
     refine zq 17 18 37 ?_
     refine zt5 18 19 38 hHeld ?_
     refine zq 19 20 39 ?_
     refine zq 20 21 40 ?_
     refine zq 21 22 41 ?_
     refine zt5 22 23 42 hHeld ?_
     refine zq 23 24 43 ?_
     refine zq 24 25 44 ?_
     refine done_ (by kernel_rfl) ?_
     clear hHeld
     go_wp2
     go_roundw
     case rel => exact ⟨y + 1, by omega, by go_num, HS, HP5.out.2.2.2.2⟩
     case measure => simp [intOf]; omega
  ·
   have HS : qab (goesV d l1 l4 n year = (0, false)) := ⟨by unfold goesV; rw [HN.out, goesN_end d l1 l4 n y (by omega)]⟩
   go_wp2
   go_ret2
   exact ⟨by rw [HS.out]; rfl, HB.out⟩
structure Sp where
 p : Int
 h : Int
 r : Int
 deriving DecidableEq
def spV (s : Sp) : Value := .agg #[.int .i64 s.p, .int .i64 s.h, .int .i64 s.r]
theorem eqA99 (d : Nat) (w : World) (a b : Sp) : (Op.equalIn (d + 2) 99 (spV a) (spV b)).run Try.prog w = .ok (a.p == b.p && (a.h == b.h && (a.r == b.r))) w := by
 refine eqA_of Try.underlying99 (by kernel_rfl) ?_
 refine eqf_cons (by rfl) (by go_simp; rfl) (by go_simp; rfl) (by go_simp) ?_
 refine eqf_cons (by rfl) (by go_simp; rfl) (by go_simp; rfl) (by go_simp) ?_
 exact eqf_last (by rfl) (by go_simp; rfl) (by go_simp; rfl) (by go_simp)
theorem eq99 (w : World) (a b : Sp) : (Op.equal 99 (spV a) (spV b)).run Try.prog w = .ok (decide (a = b)) w := by
 have h := eqA99 9998 w a b
 have e : (a.p == b.p && (a.h == b.h && (a.r == b.r))) = decide (a = b) := by
  rw [Bool.eq_iff_iff]
  simp only [Bool.and_eq_true, beq_iff_eq, decide_eq_true_eq]
  constructor
  ·
   rintro ⟨h1, h2, h3⟩
   cases a; cases b; simp_all
  ·
   rintro rfl
   exact ⟨rfl, rfl, rfl⟩
 rw [e] at h
 exact h
structure KeyKind (κ : Type) [DecidableEq κ] where
 t : TypeId
 enc : κ → Value
 inj : ∀ a b, enc a = enc b → a = b
 check : ∀ (w : World) (em : Bool) (a : κ), (Instr.checkKey em 10000 t (enc a)).run Try.prog w = .ok () w
 find : ∀ (w : World) (a : κ) (es : List MapEntry) (ks : List κ), es.map (·.key) = ks.map enc → (Instr.findKey t (enc a) es).run Try.prog w = .ok ((ks.findIdx? (· == a)).bind fun i => (es[i]?).map fun e => (i, e.val)) w
 stays : ∀ (w : World) (a : κ), (Instr.keyThatStays (enc a) (enc a)).run Try.prog w = .ok (enc a) w
theorem findAsking_run {κ : Type} [DecidableEq κ] (t : TypeId) (enc : κ → Value) (hEq : ∀ (w : World) (a b : κ), (Op.equal t (enc a) (enc b)).run Try.prog w = .ok (decide (a = b)) w) (w : World) (a : κ) :
  ∀ (es : List MapEntry) (ks : List κ) (j : Nat), es.map (·.key) = ks.map enc → (Instr.findAsking t (enc a) es j).run Try.prog w = .ok ((ks.findIdx? (· == a)).bind fun i => (es[i]?).map fun e => (i + j, e.val)) w := by
 intro es
 induction es with
 | nil =>
  intro ks j h
  cases ks with
  | nil => rfl
  | cons k t => cases h
 | cons e es ih =>
  intro ks j h
  cases ks with
  | nil => cases h
  | cons k ks =>
   simp only [List.map_cons, List.cons.injEq] at h
   unfold Instr.findAsking
   have hrun := hEq w a k
   rw [← h.1] at hrun
   simp only [Sem.run_bind, hrun, Result.andThen_ok]
   by_cases hk : a = k
   ·
    subst hk
    simp [List.findIdx?_cons]
   ·
    have hk' : (k == a) = false := by simp [Ne.symm hk]
    simp only [hk, decide_false, Bool.false_eq_true, if_false, ih ks (j + 1) h.2, List.findIdx?_cons, hk', cond_false]
    cases List.findIdx? (· == a) ks with
    | none => rfl
    | some i => simp [Nat.add_assoc, Nat.add_comm 1 j]
theorem check99 (w : World) (em : Bool) (p h r : Int) : (Instr.checkKey em 10000 99 (.agg #[.int .i64 p, .int .i64 h, .int .i64 r])).run Try.prog w = .ok () w := by kernel_rfl
def spotKey : KeyKind Sp where
 t := 99
 enc := spV
 inj a b h := by
  cases a; cases b
  simp only [spV, Value.agg.injEq, Array.mk.injEq, List.cons.injEq, Value.int.injEq, true_and, and_true] at h
  simp [h]
 check w em a := by
  obtain ⟨p, h, r⟩ := a
  exact check99 w em p h r
 find w a es ks h := by
  unfold Instr.findKey
  have hu := Try.underlying99
  have hF := findAsking_run 99 spV eq99 w a es ks 0 h
  cases es with
  | nil =>
   cases ks with
   | nil => simp [go_sem, hu, Instr.findNow]
   | cons k t => cases h
  | cons e es =>
   have : Instr.findNow (.struct #[{ name := "point", type := 3, offset := 0, embedded := false, tag := "", pkgPath := "talik/seep", byteOffset := 0 }, { name := "year", type := 3, offset := 1, embedded := false, tag := "", pkgPath := "talik/seep", byteOffset := 8 }, { name := "left", type := 3, offset := 2, embedded := false, tag := "", pkgPath := "talik/seep", byteOffset := 16 }]) (spV a) (e :: es) 0 = none := rfl
   simp only [Sem.run_bind, run_underlying hu, Result.andThen_ok, this]
   exact hF
 stays w a := by
  have : Instr.sameBits 10000 (spV a) (spV a) = true := by simp [Instr.sameBits, spV]
  simp [Instr.keyThatStays, this]
def MapIs {κ : Type} [DecidableEq κ] (K : KeyKind κ) (W : World) (b : Nat) (I : κ → Value → Prop) (has : κ → Prop) : Prop :=
 ∃ (es : Array MapEntry) (clock : Nat) (ks : List κ), W.heap[b]? = some (.map es clock) ∧ es.toList.map (·.key) = ks.map K.enc ∧ ks.Nodup ∧ (∀ (i : Nat) (k : κ) (e : MapEntry), ks[i]? = some k → es.toList[i]? = some e → I k e.val) ∧ (∀ k, has k → k ∈ ks)
section
variable {κ : Type} [DecidableEq κ] {K : KeyKind κ} {W W' : World} {b : Nat} {I I' : κ → Value → Prop} {has has' : κ → Prop}
theorem MapIs.imp (h : MapIs K W b I has) (hI : ∀ k v, I k v → I' k v) (hh : ∀ k, has' k → has k) : MapIs K W b I' has' := by
 obtain ⟨es, clock, ks, h1, h2, h3, h4, h5⟩ := h
 exact ⟨es, clock, ks, h1, h2, h3, fun i k e a c => hI _ _ (h4 i k e a c), fun k hk => h5 k (hh k hk)⟩
theorem MapIs.at (h : MapIs K W b I has) (hb : W'.heap[b]? = W.heap[b]?) : MapIs K W' b I has := by
 obtain ⟨es, clock, ks, h1, h2⟩ := h
 exact ⟨es, clock, ks, hb.trans h1, h2⟩
theorem MapIs.lt (h : MapIs K W b I has) : b < W.heap.size := by
 obtain ⟨es, clock, ks, h1, h2⟩ := h
 exact blk_lt h1
theorem MapIs.noCells (h : MapIs K W b I has) {cs : Array Value} {t : TypeId} {g : Nat} (hg : W.heap[g]? = some (.cells cs t (0, 0))) : g ≠ b := by
 obtain ⟨es, clock, ks, h1, h2⟩ := h
 rintro rfl
 rw [hg] at h1
 cases h1
theorem MapIs.looks1 (h : MapIs K W b I has) {t el : TypeId} (ht : Try.prog.underlying t = some (.map K.t el)) {z : Value} (hz : ∀ W', (zeroValue el).run Try.prog W' = .ok z W') (a : κ) :
  (∃ v, I a v ∧ ∀ W' : World, W'.heap[b]? = W.heap[b]? → (Instr.lookup t (.map (some b)) (K.enc a) false).run Try.prog W' = .ok v W') ∨
  (∀ W' : World, W'.heap[b]? = W.heap[b]? → (Instr.lookup t (.map (some b)) (K.enc a) false).run Try.prog W' = .ok z W') := by
 obtain ⟨es, clock, ks, h1, h2, h3, h4, h5⟩ := h
 have hf := fun W' => K.find W' a es.toList ks h2
 have hlen : es.size = ks.length := by have := congrArg List.length h2; simpa using this
 have hg := fun (W' : World) (e : W'.heap[b]? = W.heap[b]?) => MapKept.run_getObj_map (P := Try.prog) (e.trans h1)
 cases hx : ks.findIdx? (· == a) with
 | none =>
  rw [hx] at hf
  right
  intro W' e
  have hf' := hf W'
  rw [Option.bind_none] at hf'
  simp [Instr.lookup, run_underlying ht, hg W' e, K.check, hf', hz]
 | some i =>
  have hx2 := hx
  rw [List.findIdx?_eq_some_iff_getElem] at hx
  obtain ⟨hi, hk, _⟩ := hx
  have hk' : ks[i] = a := by simpa using hk
  have hi' : i < es.toList.length := by simpa [hlen] using hi
  left
  refine ⟨es.toList[i].val, h4 i a _ (by rw [List.getElem?_eq_getElem hi, hk']) (List.getElem?_eq_getElem hi'), fun W' e => ?_⟩
  have hf' := hf W'
  rw [hx2, Option.bind_some, List.getElem?_eq_getElem hi', Option.map_some] at hf'
  simp [Instr.lookup, run_underlying ht, hg W' e, K.check, hf']
theorem MapIs.update (h : MapIs K W b I has) {t el : TypeId} (ht : Try.prog.underlying t = some (.map K.t el)) (a : κ) (v : Value) :
  ∃ W', (Instr.mapUpdate t (.map (some b)) (K.enc a) v).run Try.prog W = .ok () W' ∧ W.grownBy W' (some b) ∧ MapIs K W' b (fun k u => (k = a ∧ u = v) ∨ (k ≠ a ∧ I k u)) (fun k => k = a ∨ has k) := by
 obtain ⟨es, clock, ks, h1, h2, h3, h4, h5⟩ := h
 have hf := K.find W a es.toList ks h2
 have hlen : es.size = ks.length := by have := congrArg List.length h2; simpa using this
 have hg := MapKept.run_getObj_map (P := Try.prog) h1
 have hgrow : ∀ o, W.grownBy (ChangeMaps.setBlock W b o) (some b) := fun o => ⟨rfl, rfl, rfl, by simp [ChangeMaps.setBlock], fun i _ hi => ChangeMaps.heap_setBlock_other h1 _ (fun e => hi (by rw [e]))⟩
 cases hx : ks.findIdx? (· == a) with
 | none =>
  rw [hx, Option.bind_none] at hf
  have hna : a ∉ ks := by
   intro ha
   rw [List.findIdx?_eq_none_iff] at hx
   have := hx a ha
   simp at this
  refine ⟨ChangeMaps.setBlock W b (.map (es.push { key := K.enc a, val := v, born := clock }) (clock + 1)), ?_, hgrow _, es.push { key := K.enc a, val := v, born := clock }, clock + 1, ks ++ [a], ChangeMaps.heap_setBlock_same h1 _, by simp [h2], ?_, ?_, ?_⟩
  ·
   simp [Instr.mapUpdate, run_underlying ht, hg, K.check, hf, MapKept.run_setObj_map _ h1, ChangeMaps.setBlock]
  ·
   rw [List.nodup_append]
   exact ⟨h3, by simp, fun x hxm y hy => by simp at hy; subst hy; intro e; exact hna (e ▸ hxm)⟩
  ·
   intro i k e hk he
   rcases Nat.lt_or_ge i ks.length with hi | hi
   ·
    rw [List.getElem?_append_left hi] at hk
    rw [Array.toList_push, List.getElem?_append_left (by simpa [hlen] using hi)] at he
    exact .inr ⟨fun e => hna (e ▸ List.mem_of_getElem? hk), h4 i k e hk he⟩
   ·
    rw [List.getElem?_append_right hi] at hk
    rw [Array.toList_push, List.getElem?_append_right (by simpa [hlen] using hi)] at he
    simp only [Array.length_toList, hlen] at he
    cases hd : i - ks.length with
    | zero =>
     rw [hd] at hk he
     simp at hk he
     exact .inl ⟨hk.symm, by rw [← he]⟩
    | succ n =>
     rw [hd] at hk
     simp at hk
  ·
   rintro k (rfl | hk)
   ·
    simp
   ·
    exact List.mem_append_left _ (h5 k hk)
 | some i =>
  have hx2 := hx
  rw [List.findIdx?_eq_some_iff_getElem] at hx
  obtain ⟨hi, hk, _⟩ := hx
  have hk' : ks[i] = a := by simpa using hk
  have hi' : i < es.toList.length := by simpa [hlen] using hi
  have hi2 : i < es.size := by simpa using hi'
  rw [hx2, Option.bind_some, List.getElem?_eq_getElem hi', Option.map_some] at hf
  have hkey : (es[i]?.map (·.key)).getD (K.enc a) = K.enc a := by
   have e1 : (es.toList.map (·.key))[i]? = (ks.map K.enc)[i]? := by rw [h2]
   rw [List.getElem?_map, List.getElem?_map, List.getElem?_eq_getElem hi, hk'] at e1
   rw [← Array.getElem?_toList, e1]
   rfl
  refine ⟨ChangeMaps.setBlock W b (.map (es.modify i fun e => { e with key := K.enc a, val := v }) clock), ?_, hgrow _, es.modify i fun e => { e with key := K.enc a, val := v }, clock, ks, ChangeMaps.heap_setBlock_same h1 _, ?_, h3, ?_, ?_⟩
  ·
   simp [Instr.mapUpdate, run_underlying ht, hg, K.check, hf, MapKept.run_setObj_map _ h1, ChangeMaps.setBlock, hkey, K.stays]
  ·
   rw [Array.toList_modify, ← h2]
   apply List.ext_getElem?
   intro j
   rw [List.getElem?_map, List.getElem?_map, List.getElem?_modify]
   split
   ·
    rename_i hj
    subst hj
    rw [List.getElem?_eq_getElem hi']
    have e1 : (es.toList.map (·.key))[i]? = (ks.map K.enc)[i]? := by rw [h2]
    rw [List.getElem?_map, List.getElem?_map, List.getElem?_eq_getElem hi, hk', List.getElem?_eq_getElem hi'] at e1
    simp only [Option.map_some, Option.some.injEq] at e1
    simpa using e1.symm
   ·
    simp
  ·
   intro j k e hkj he
   rw [Array.toList_modify, List.getElem?_modify] at he
   split at he
   ·
    rename_i hj
    subst hj
    rw [List.getElem?_eq_getElem hi] at hkj
    rw [List.getElem?_eq_getElem hi'] at he
    simp only [Option.map_eq_map, Option.map_some, Option.some.injEq] at he hkj
    exact .inl ⟨by rw [← hkj, hk'], by rw [← he]⟩
   ·
    rename_i hj
    have he2 : es.toList[j]? = some e := by simpa using he
    refine .inr ⟨fun e1 => hj ?_, h4 j k e hkj he2⟩
    subst e1
    have hjl : j < ks.length := (List.getElem?_eq_some_iff.1 hkj).1
    have e2 : ks[j] = ks[i] := by rw [hk']; rw [List.getElem?_eq_getElem hjl] at hkj; injection hkj
    have hp := List.nodup_iff_pairwise_ne.1 h3
    rw [List.pairwise_iff_getElem] at hp
    rcases Nat.lt_trichotomy i j with h | h | h
    ·
     exact absurd e2.symm (hp i j hi hjl h)
    ·
     exact h
    ·
     exact absurd e2 (hp j i hjl hi h)
  ·
   rintro k (rfl | hk)
   ·
    rw [← hk']; exact List.getElem_mem _
   ·
    exact h5 k hk
end
theorem goesN_lt (d : Int) (l1 : List S44) (l4 : List S41) (n y : Nat) (y' : Nat) (h : goesN d l1 l4 n y = some y') : y' < l4.length ∧ y ≤ y' := by
 unfold goesN at h
 have h1 := List.mem_of_find?_eq_some h
 rw [List.mem_drop_iff_getElem] at h1
 obtain ⟨i, hi, e⟩ := h1
 simp only [List.length_range] at hi
 rw [List.getElem_range] at e
 omega
structure RE where
 w0 : World
 gd : Nat
 Bp : Nat
 Bk : Nat
 Bm : Nat
 Bd : Nat
 Bl : Nat
 Br : Nat
 Bs : Nat
 mm : Nat
 v0 : Value
 v2 : Value
 v3 : Value
 v5 : Value
 A1 : Option Addr
 c1 : Nat
 l1 : List S44
 A4 : Option Addr
 c4 : Nat
 l4 : List S41
 d : Int
 pt : Int
 last : Int
structure RE.Fit (E : RE) : Prop where
 r1 : Kd.C k44 E.w0 E.A1 E.l1.length E.l1
 r4 : Kd.C k41 E.w0 E.A4 E.l4.length E.l4
 n1 : E.l1.length ≤ 12
 n4 : E.l4.length ≤ 10
 br : E.w0.heap.size ≤ E.Br
 bm : E.w0.heap.size ≤ E.mm
def pathS (d : Int) (l1 : List S44) (l4 : List S41) (last : Int) (f : Int → Nat → Option (List Int)) (p : Int) (y i : Nat) : Option (List Int) :=
 if (qax l1 (i : Nat)).f0 = p then
  match goesN d l1 l4 i y with
  | some y' => if (y' : Int) ≤ last then (f (qax l1 (i : Nat)).f1 y').map ((i : Int) :: ·) else none
  | none => none
 else none
def pathV (d : Int) (l1 : List S44) (l4 : List S41) (last pt : Int) : Nat → Int → Nat → Option (List Int)
 | 0, p, _ => if p = pt then some [] else none
 | k + 1, p, y => (List.range l1.length).findSome? (pathS d l1 l4 last (pathV d l1 l4 last pt k) p y)
def RE.path (E : RE) : Nat → Int → Nat → Option (List Int) := pathV E.d E.l1 E.l4 E.last E.pt
def RE.from_ (E : RE) (k : Nat) (p : Int) (y i : Nat) : Option (List Int) := ((List.range E.l1.length).drop i).findSome? (pathS E.d E.l1 E.l4 E.last (E.path k) p y)
theorem RE.path_from (E : RE) (k : Nat) (p : Int) (y : Nat) : E.path (k + 1) p y = E.from_ k p y 0 := rfl
theorem RE.from_step (E : RE) (k : Nat) (p : Int) (y i : Nat) (hi : i < E.l1.length) : E.from_ k p y i = (pathS E.d E.l1 E.l4 E.last (E.path k) p y i).or (E.from_ k p y (i + 1)) := by
 unfold RE.from_
 have hl : i < (List.range E.l1.length).length := by simpa using hi
 rw [List.drop_eq_getElem_cons hl, List.findSome?_cons]
 simp only [List.getElem_range]
 cases pathS E.d E.l1 E.l4 E.last (E.path k) p y i <;> simp
theorem RE.from_end (E : RE) (k : Nat) (p : Int) (y i : Nat) (hi : E.l1.length ≤ i) : E.from_ k p y i = none := by
 unfold RE.from_
 rw [List.drop_eq_nil_of_le (by simpa using hi)]
 rfl
abbrev RMC (E : RE) : Array Value := #[E.v0, .slice E.A1 E.l1.length E.c1, E.v2, E.v3, .slice E.A4 E.l4.length E.c4, E.v5]
abbrev RDC (E : RE) : Array Value := #[E.v0, .slice E.A1 E.l1.length E.c1, E.v2, E.v3, .slice E.A4 E.l4.length E.c4, E.v5, .int .i64 E.d]
abbrev RCAP (E : RE) : Array Value := #[.pointer (some ⟨E.Bp, 0, none⟩), .pointer (some ⟨E.Bk, 0, none⟩), .pointer (some ⟨E.Bm, 0, none⟩), .pointer (some ⟨E.Bd, 0, none⟩), .pointer (some ⟨E.Bl, 0, none⟩), .pointer (some ⟨E.Br, 0, none⟩), .pointer (some ⟨E.Bs, 0, none⟩)]
abbrev RSF (E : RE) : Value := .func (.func 62) #[] (RCAP E)
def RE.Dead (E : RE) (s : Sp) (u : Value) : Prop := u = .bool true ∧ ∃ k y : Nat, s.r = k ∧ s.h = y ∧ E.path k s.p y = none
abbrev RE.Row (E : RE) (W : World) (v : Value) (r : List Int) : Prop := Kd.R (Kd.int .i64) 3 W E.w0.heap.size (fun k => k ≠ E.Bp ∧ k ≠ E.Bl) v r
structure RInv (E : RE) (W : World) (v : Value) (r : List Int) : Prop where
 hb : Below E.w0.heap.size E.w0 W
 xd : W.heap[E.gd]? = some (.cells (RDC E) 123 (0, 0))
 xp : W.heap[E.Bp]? = some (.cells #[.int .i64 E.pt] 3 (0, 0))
 xk : W.heap[E.Bk]? = some (.cells #[.map (some E.mm)] 96 (0, 0))
 xm : W.heap[E.Bm]? = some (.cells (RMC E) 27 (0, 0))
 xb : W.heap[E.Bd]? = some (.cells #[.pointer (some ⟨E.gd, 0, none⟩)] 84 (0, 0))
 xl : W.heap[E.Bl]? = some (.cells #[.int .i64 E.last] 3 (0, 0))
 xr : W.heap[E.Br]? = some (.cells #[v] 23 (0, 0))
 xs : W.heap[E.Bs]? = some (.cells #[RSF E] 97 (0, 0))
 row : E.Row W v r
 map : MapIs spotKey W E.mm E.Dead (fun _ => False)
structure KC (E : RE) (W W' : World) : Prop where
 size : W.heap.size ≤ W'.heap.size
 own : ∀ (k : Nat) (cs : Array Value) (t : TypeId), W.heap[k]? = some (.cells cs t (0, 0)) → t ≠ 3 → k ≠ E.Br → W'.heap[k]? = some (.cells cs t (0, 0))
section
variable {E : RE} {W W' W2 : World} {v v' : Value} {r r' : List Int}
theorem KC.refl (E : RE) (W : World) : KC E W W := ⟨Nat.le_refl _, fun _ _ _ h _ _ => h⟩
theorem KC.trans (h : KC E W W') (k : KC E W' W2) : KC E W W2 := ⟨Nat.le_trans h.size k.size, fun i cs t hi h3 hr => k.own i cs t (h.own i cs t hi h3 hr) h3 hr⟩
theorem KC.of_below (h : Below W.heap.size W W') : KC E W W' := ⟨h.size, fun _ _ _ hi _ _ => qad hi h⟩
theorem KC.of_grown (hr : E.Row W v r) (hg : W.grownBy W' v.ownBlock) : KC E W W' := ⟨hg.size, fun _ _ _ hi h3 _ => blk_grown hi hg (Kd.R_ne hr hi (fun e => h3 e.symm))⟩
theorem KC.of_map {b : Nat} {K : KeyKind Sp} {I : Sp → Value → Prop} {has : Sp → Prop} (hm : MapIs K W b I has) (hg : W.grownBy W' (some b)) : KC E W W' := ⟨hg.size, fun _ _ _ hi _ _ => blk_grown hi hg (fun e => hm.noCells hi (by injection e))⟩
theorem KC.of_set (E : RE) (W : World) (u : Value) : KC E W (W.setCell ⟨E.Br, 0, none⟩ u) := ⟨by simp, fun k _ _ hi _ hr => (Below.heap_setCell W ⟨E.Br, 0, none⟩ u k hr).trans hi⟩
theorem RInv.below (h : RInv E W v r) (hb : Below W.heap.size W W') : RInv E W' v r :=
 ⟨qae h.hb hb, qad h.xd hb, qad h.xp hb, qad h.xk hb, qad h.xm hb, qad h.xb hb, qad h.xl hb, qad h.xr hb, qad h.xs hb, Kd.qam h.row hb, h.map.at (hb.block _ h.map.lt)⟩
theorem RInv.setR (h : RInv E W v r) (hE : E.w0.heap.size ≤ E.Br) (hr : E.Row W v' r') : RInv E (W.setCell ⟨E.Br, 0, none⟩ v') v' r' := by
 have f : ∀ {g : Nat} {cs : Array Value} {t : TypeId}, W.heap[g]? = some (.cells cs t (0, 0)) → t ≠ 23 → (W.setCell ⟨E.Br, 0, none⟩ v').heap[g]? = some (.cells cs t (0, 0)) := fun hg ht => blk_far hg (blk_ne hg h.xr ht) v'
 exact ⟨qaj h.hb hE, f h.xd (by decide), f h.xp (by decide), f h.xk (by decide), f h.xm (by decide), f h.xb (by decide), f h.xl (by decide), blk_set h.xr 0 v', f h.xs (by decide),
  Kd.R_set hr h.xr (by decide) 0 v', h.map.at (Below.heap_setCell W ⟨E.Br, 0, none⟩ v' E.mm (fun e => h.map.noCells h.xr e.symm))⟩
theorem RInv.app (h : RInv E W v r) (hE : E.w0.heap.size ≤ E.Br) (hg : W.grownBy W' v.ownBlock) (hb : Below E.w0.heap.size E.w0 W') (hr : E.Row W' v' r') : RInv E (W'.setCell ⟨E.Br, 0, none⟩ v') v' r' := by
 have f : ∀ {g : Nat} {cs : Array Value} {t : TypeId}, W.heap[g]? = some (.cells cs t (0, 0)) → t ≠ 3 → W'.heap[g]? = some (.cells cs t (0, 0)) := fun hi ht => blk_grown hi hg (Kd.R_ne h.row hi (fun e => ht e.symm))
 have xr := f h.xr (by decide)
 have f2 : ∀ {g : Nat} {cs : Array Value} {t : TypeId}, W'.heap[g]? = some (.cells cs t (0, 0)) → t ≠ 23 → (W'.setCell ⟨E.Br, 0, none⟩ v').heap[g]? = some (.cells cs t (0, 0)) := fun hg ht => blk_far hg (blk_ne hg xr ht) v'
 have hp := blk_grown h.xp hg (Kd.R_away h.row (fun _ hk => hk.1))
 have hl := blk_grown h.xl hg (Kd.R_away h.row (fun _ hk => hk.2))
 have hm : W'.heap[E.mm]? = W.heap[E.mm]? := hg.block _ h.map.lt (fun e => by
  obtain ⟨cells, hc⟩ := Kd.R_typed h.row E.mm (by rw [e])
  exact h.map.noCells hc rfl)
 exact ⟨qaj hb hE, f2 (f h.xd (by decide)) (by decide), f2 hp (by decide), f2 (f h.xk (by decide)) (by decide), f2 (f h.xm (by decide)) (by decide), f2 (f h.xb (by decide)) (by decide), f2 hl (by decide), blk_set xr 0 v', f2 (f h.xs (by decide)) (by decide),
  Kd.R_set hr xr (by decide) 0 v', (h.map.at hm).at (Below.heap_setCell W' ⟨E.Br, 0, none⟩ v' E.mm (fun e => (h.map.at hm).noCells xr e.symm))⟩
theorem KC.of_app (h : RInv E W v r) (hg : W.grownBy W' v.ownBlock) (u : Value) : KC E W (W'.setCell ⟨E.Br, 0, none⟩ u) := (KC.of_grown h.row hg).trans (KC.of_set E W' u)
theorem RInv.dead (h : RInv E W v r) (hE : E.w0.heap.size ≤ E.mm) (k y : Nat) (p : Int) (hn : E.path k p y = none) : ∃ W', (Instr.mapUpdate 96 (.map (some E.mm)) (.agg #[.int .i64 p, .int .i64 y, .int .i64 k]) (.bool true)).run Try.prog W = .ok () W' ∧ RInv E W' v r ∧ KC E W W' := by
 obtain ⟨W', hrun, hg, hm⟩ := h.map.update (t := 96) (el := 4) Try.underlying96 ⟨p, y, k⟩ (.bool true)
 have f : ∀ {g : Nat} {cs : Array Value} {t : TypeId}, W.heap[g]? = some (.cells cs t (0, 0)) → W'.heap[g]? = some (.cells cs t (0, 0)) := fun hi => blk_grown hi hg (fun e => h.map.noCells hi (by injection e))
 refine ⟨W', hrun, ⟨h.hb.grown hg h.hb.size (fun k e => by injection e with e; subst e; exact hE), f h.xd, f h.xp, f h.xk, f h.xm, f h.xb, f h.xl, f h.xr, f h.xs, ?_, ?_⟩, KC.of_map h.map hg⟩
 ·
  refine Kd.R_mono (Kd.R_step (Kd.R_bound h.row) (fun k hk hlt => hg.block k hlt (fun e => ?_))) (fun k hk => hk.1)
  injection e with e
  subst e
  obtain ⟨q, hq, cells, hc⟩ := hk.2.2.2
  exact h.map.noCells hc rfl
 ·
  refine hm.imp (fun s u hs => ?_) (fun _ hk => hk.elim)
  rcases hs with ⟨rfl, rfl⟩ | ⟨_, hs⟩
  ·
   exact ⟨rfl, k, y, rfl, rfl, hn⟩
  ·
   exact hs
end
def SearchC (E : RE) (k : Nat) : Prop := ∀ (p : Int) (y : Nat) (W : World) (v : Value) (r : List Int), RInv E W v r → y ≤ 10 → r.length + k ≤ 1000 →
 Calls Try.prog 62 #[.agg #[.int .i64 p, .int .i64 (y : Int), .int .i64 (k : Int)], .pointer (some ⟨E.Bp, 0, none⟩), .pointer (some ⟨E.Bk, 0, none⟩), .pointer (some ⟨E.Bm, 0, none⟩), .pointer (some ⟨E.Bd, 0, none⟩), .pointer (some ⟨E.Bl, 0, none⟩), .pointer (some ⟨E.Br, 0, none⟩), .pointer (some ⟨E.Bs, 0, none⟩)] W fun e W' =>
  e = .returned (.bool (E.path k p y).isSome) ∧ (∃ v', RInv E W' v' (r ++ (E.path k p y).getD [])) ∧ KC E W W'
end Go.Proofs.Ytafkanmioinbiaa.SA
namespace Go.Proofs.Ytafkanmioinbiaa.SA
open Go.RowKit Go.Proofs.YtafkanmioinbiaaW.PrintWords Go.Proofs.YtafkanmioinbiaaW.PrintLast Go.Proofs.YtafkanmioinbiaaW.PrintMore
attribute [local go_sem] max2_int min2_int max_two min_two qbe qbf max_four min_four
attribute [local go_sem] Oper.semAt_some
theorem search_zero (E : RE) : SearchC E 0 := by
 intro p y w v r hI hy hl
 have hu99 := Try.underlying99
 have HI := qab.mk hI
 have HB := qab.mk (Below.refl w.heap.size w)
 rw [show ((0 : Nat) : Int) = 0 from rfl]
 obtain ⟨yy, hyy⟩ : ∃ yy : Int, yy = y := ⟨_, rfl⟩
 rw [← hyy]
 obtain ⟨pt, hpt⟩ : ∃ pt : Int, pt = E.pt := ⟨_, rfl⟩
 have HPT := qab.mk hpt
 clear hI hyy hy hl hpt
 go_enter Try.func62, Try.ntmps62
 go_wp2_with ((with_reducible refine qaq (N := 8) rfl ?_); refine qan ?hg (N := 8) ?hd (cs := #[.int .i64 p, .int .i64 yy, .int .i64 0]) (t := 99) ?hr ?_; (case hd => rfl); (case hg => rfl); (case hr => first | (go_simp; done) | (go_simp; rfl)); intro gs hg_gs w2 hbox hb; have BKgs := qab.mk hbox; have n_HB := qab.mk (qae HB.out hb); have GEgs : w.heap.size ≤ gs := (by rw [hg_gs]; exact HB.out.size); clear HB; have HB := n_HB; clear n_HB; obtain ⟨hfgs, hcgs_0, hcgs_1, hcgs_2⟩ := qz3 BKgs.out; clear hbox hb hg_gs; have HI2 := qab.mk (HI.out.below HB.out); have fp : w2.cell? ⟨E.Bp, 0, none⟩ = some (.int .i64 pt) := (qaa HI2.out.xp 0).trans (by rw [HPT.out]; rfl))
 go_ret
 refine ⟨?_, ⟨v, ?_⟩, KC.of_below HB.out⟩
 ·
  unfold RE.path pathV
  rw [HPT.out]
  by_cases h : p = E.pt <;> simp [h]
 ·
  have h : (E.path 0 p y).getD [] = [] := by unfold RE.path pathV; split <;> rfl
  rw [h, List.append_nil]
  exact HI2.out
end Go.Proofs.Ytafkanmioinbiaa.SA
