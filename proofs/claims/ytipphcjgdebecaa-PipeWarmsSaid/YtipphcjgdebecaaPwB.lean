/- Parts of a proof about the pipe seat's laws: what the functions of the program answer. No condition of its own. -/
import Derived.Test.YtipphcjgdebecaaSC
import Derived.Test.YtipphcjgdebecaaSF
import Derived.Test.YtipphcjgdebecaaPwA
import Derived.Test.YtipphcjgdebecaaSD
set_option linter.all false
namespace Go.Proofs.Ytipphcjgdebecaa.PA
open Go.RowKit Go.Proofs.YtipphcjgdebecaaW.PrintWords Go.Proofs.YtipphcjgdebecaaW.PrintLast Go.Proofs.YtipphcjgdebecaaW.PrintMore
attribute [local go_sem] qbd qbf max_two min_two qay qaz qbe qbg
structure BIN (w : World) (gb : Nat) (nb : Array Value) (W : World) : Prop where
 b : W.heap[gb]? = some (.cells nb 26 (0, 0))
 hb : Below w.heap.size w W
theorem BIN.below {w W W' : World} {gb : Nat} {nb : Array Value} (h : BIN w gb nb W) (hb : Below W.heap.size W W') : BIN w gb nb W' := ⟨qaj h.b hb, qag h.hb hb⟩
theorem all_step {α : Type} (f : α → Bool) (l : List α) (d : α) (j : Nat) (hj : j < l.length) : (l.drop j).all f = (f (l.getD j d) && (l.drop (j + 1)).all f) := by
 rw [List.drop_eq_getElem_cons hj, List.all_cons]
 simp [hj]
theorem chkR_step (i : Nat) (row : List Int) (j : Nat) (hj : j < row.length) : chkR i (row.drop j) j = (inB (rd row j) 0 72 && ((i != j || rd row j == 0) && chkR i (row.drop (j + 1)) (j + 1))) := by
 rw [List.drop_eq_getElem_cons hj]
 have : rd row (j : Int) = row[j] := by simp [rd, hj]
 rw [this]
 rfl
theorem rowsR_step (n : Nat) (l : List (List Int)) (i : Nat) (hi : i < l.length) : rowsR n (l.drop i) i = (decide ((rd_L1 l i).length = n) && (chkR i (rd_L1 l i) 0 && rowsR n (l.drop (i + 1)) (i + 1))) := by
 rw [List.drop_eq_getElem_cons hi, rd_L1_at l i hi]
 rfl
theorem in60 (a lo hi : Int) (W : World) : Calls Try.prog 60 #[.int .i64 a, .int .i64 lo, .int .i64 hi] W fun e w' => e = .returned (.bool (inB a lo hi)) ∧ Below W.heap.size W w' :=
 talikref04_in_to (talikref04_in.calls _ _ _ _ W (rin_eq a lo hi))
def talikref04_Net.f (l0_0 : List (S39)) (l0_1 : List (S37)) (l0_2 : List (List Int)) : Option (Bool) := if shortB l0_0 l0_1 l0_2 = true then some (l0_0.all loopB && (l0_1.all (fun s => spanB s 0 1000) && (rowsR (l0_0.length + 1) l0_2 0 && finR l0_0 l0_1 l0_2))) else none
set_option maxHeartbeats 4000000 in
set_option maxRecDepth 100000 in
theorem talikref04_Net.calls (A0_0 : Option Addr) (c0_0 : Nat) (l0_0 : List (S39)) (A0_1 : Option Addr) (c0_1 : Nat) (l0_1 : List (S37)) (A0_2 : Option Addr) (c0_2 : Nat) (l0_2 : List (List Int)) (r : Bool) (w : World) (hr0_0 : Kd.C k39 w A0_0 l0_0.length l0_0) (hc0_0 : l0_0.length ≤ c0_0) (hr0_1 : Kd.C k37 w A0_1 l0_1.length l0_1) (hc0_1 : l0_1.length ≤ c0_1) (hr0_2 : Kd.C (Kd.slice 3 (Kd.int .i64)) w A0_2 l0_2.length l0_2) (hc0_2 : l0_2.length ≤ c0_2) (h : talikref04_Net.f l0_0 l0_1 l0_2 = some r) :
  Calls Try.prog 19 #[.agg #[.slice A0_0 l0_0.length c0_0, .slice A0_1 l0_1.length c0_1, .slice A0_2 l0_2.length c0_2]] w fun e w' => e = .returned (.bool r) ∧ Below w.heap.size w w' := by
 unfold talikref04_Net.f at h
 split at h
 case isFalse => cases h
 rename_i hsb
 have hs := short_of hsb
 have H0 := hs.h0
 have H1 := hs.h1
 have H2 := hs.h2
 have HRW := qab.mk hs.hr
 have h' := Option.some.inj h
 clear h hs hsb
 have hu26 := Try.underlying26
 have hu39 := Try.underlying39
 have hu37 := Try.underlying37
 have HB := qab.mk (Below.refl w.heap.size w)
 have HR0 := qab.mk hr0_0
 have HR1 := qab.mk hr0_1
 have HR2 := qab.mk hr0_2
 clear hr0_0 hr0_1 hr0_2
 obtain ⟨R3, hR3⟩ : ∃ x, x = finR l0_0 l0_1 l0_2 := ⟨_, rfl⟩
 obtain ⟨R2, hR2⟩ : ∃ x, x = (rowsR (l0_0.length + 1) l0_2 0 && R3) := ⟨_, rfl⟩
 obtain ⟨R1, hR1⟩ : ∃ x, x = (l0_1.all (fun s => spanB s 0 1000) && R2) := ⟨_, rfl⟩
 have HF0 : qab (((l0_0.drop 0).all loopB && R1) = r) := ⟨by rw [List.drop_zero, hR1, hR2, hR3]; exact h'⟩
 have HE1 := qab.mk hR1
 have HE2 := qab.mk hR2
 have HE3 := qab.mk hR3
 clear h' hR1 hR2 hR3
 go_enter Try.func19, Try.ntmps19
 go_wp2_with (first | (with_reducible refine qav (N := 1) rfl ?_); refine qau ?hg (N := 1) ?hd (cs := #[.slice A0_0 l0_0.length c0_0, .slice A0_1 l0_1.length c0_1, .slice A0_2 l0_2.length c0_2]) (t := 26) ?hr ?_; (case hd => rfl); (case hg => rfl); (case hr => first | (go_simp; done) | (go_simp; rfl)); intro gb hg_gb w2 hbox hb; have BKgb := qab.mk hbox; have n_HB := qab.mk (qag HB.out hb); have GEgb : w.heap.size ≤ gb := (by rw [hg_gb]; exact HB.out.size); clear HB; have HB := n_HB; clear n_HB; have hfgb := qad BKgb.out; have hcgb_0 : w2.cell? ⟨gb, 0, none⟩ = some (.slice A0_0 l0_0.length c0_0) := (qaa BKgb.out 0).trans rfl; have hcgb_1 : w2.cell? ⟨gb, 1, none⟩ = some (.slice A0_1 l0_1.length c0_1) := (qaa BKgb.out 1).trans rfl; have hcgb_2 : w2.cell? ⟨gb, 2, none⟩ = some (.slice A0_2 l0_2.length c0_2) := (qaa BKgb.out 2).trans rfl; clear hbox hb hg_gb)
 clear hfgb hcgb_0 hcgb_1 hcgb_2
 have HI : qab (BIN w gb #[.slice A0_0 l0_0.length c0_0, .slice A0_1 l0_1.length c0_1, .slice A0_2 l0_2.length c0_2] w2) := ⟨⟨BKgb.out, HB.out⟩⟩
 clear BKgb HB GEgb
 go_loopw [3] (fun s3 wr => ∃ j : Nat, j ≤ l0_0.length ∧ s3 = .int .i64 j ∧ qab (((l0_0.drop j).all loopB && R1) = r) ∧ qab (BIN w gb #[.slice A0_0 l0_0.length c0_0, .slice A0_1 l0_1.length c0_1, .slice A0_2 l0_2.length c0_2] wr)) (fun s _ => l0_0.length - (intOf s).toNat)
 case atStart => exact ⟨0, by omega, rfl, HF0, HI⟩
 case round =>
  clear HI HF0
  obtain ⟨j, hj, rfl, HF, HI⟩ := hrel
  by_cases hlt : j < l0_0.length
  ·
   have hlt1 : (j : Int) < l0_0.length := by omega
   have hj0 : (0 : Int) ≤ j := by omega
   have hw1 : IntKind.i64.wrap ((j : Int) + 1) = (j : Int) + 1 := by rw [i64_w]; unfold wrap64; omega
   obtain ⟨ad, e, hl0, hl1, hl2, hl3, hl4, hl5, hl6, hl7, hl8, hl9, hl10, hl11⟩ := at_T39 (Kd.qai HR0.out HI.out.hb) j hj0 hlt1
   cases e
   simp only [Int.toNat_natCast] at hl0 hl1 hl2 hl3 hl4 hl5 hl6 hl7 hl8 hl9 hl10 hl11
   have hf := HF.out
   rw [all_step loopB l0_0 z39 j hlt, show l0_0.getD j z39 = qaw l0_0 (j : Int) from by simp [qaw]] at hf
   generalize qaw l0_0 (j : Int) = L at *
   have HC := qab.mk (talikref04_Loop.calls _ _ _ _ _ _ _ _ _ _ _ _ _ wr (rloop_eq L))
   obtain ⟨b, hb⟩ : ∃ b, b = loopB L := ⟨_, rfl⟩
   rw [← hb] at HC hf
   clear hb HF
   have hq0 : wr.cell? ⟨gb, 0, none⟩ = some (.slice (some ad) l0_0.length c0_0) := (qaa HI.out.b 0).trans rfl; have hq1 : wr.cell? ⟨gb, 1, none⟩ = some (.slice A0_1 l0_1.length c0_1) := (qaa HI.out.b 1).trans rfl; have hq2 : wr.cell? ⟨gb, 2, none⟩ = some (.slice A0_2 l0_2.length c0_2) := (qaa HI.out.b 2).trans rfl
   cases b with
   | false =>
    rw [Bool.false_and, Bool.false_and] at hf
    subst hf
    go_wp2_with (first | (go_at_call 58; with_reducible refine (HC.out).mono ?_; rintro e w3 ⟨rfl, hb⟩; have n_HI := qab.mk (HI.out.below hb); clear HI; have HI := n_HI; clear n_HI hb hq0 hq1 hq2; have hq0 : w3.cell? ⟨gb, 0, none⟩ = some (.slice (some ad) l0_0.length c0_0) := (qaa HI.out.b 0).trans rfl; have hq1 : w3.cell? ⟨gb, 1, none⟩ = some (.slice A0_1 l0_1.length c0_1) := (qaa HI.out.b 1).trans rfl; have hq2 : w3.cell? ⟨gb, 2, none⟩ = some (.slice A0_2 l0_2.length c0_2) := (qaa HI.out.b 2).trans rfl))
    go_ret
    exact ⟨rfl, HI.out.hb⟩
   | true =>
    rw [Bool.true_and] at hf
    have HF := qab.mk hf
    clear hf
    go_wp2_with (first | (go_at_call 58; with_reducible refine (HC.out).mono ?_; rintro e w3 ⟨rfl, hb⟩; have n_HI := qab.mk (HI.out.below hb); clear HI; have HI := n_HI; clear n_HI hb hq0 hq1 hq2; have hq0 : w3.cell? ⟨gb, 0, none⟩ = some (.slice (some ad) l0_0.length c0_0) := (qaa HI.out.b 0).trans rfl; have hq1 : w3.cell? ⟨gb, 1, none⟩ = some (.slice A0_1 l0_1.length c0_1) := (qaa HI.out.b 1).trans rfl; have hq2 : w3.cell? ⟨gb, 2, none⟩ = some (.slice A0_2 l0_2.length c0_2) := (qaa HI.out.b 2).trans rfl))
    go_roundw
    case rel => exact ⟨j + 1, by omega, by go_num, HF, HI⟩
    case measure => simp [intOf]; omega
  ·
   have he := HF.out
   rw [List.drop_eq_nil_of_le (by omega), List.all_nil, Bool.true_and] at he
   have HF0 : qab (((l0_1.drop 0).all (fun s => spanB s 0 1000) && R2) = r) := ⟨by rw [List.drop_zero, ← HE1.out]; exact he⟩
   clear HF he
   obtain ⟨wA, rfl⟩ : ∃ wa : World, wa = wr := ⟨_, rfl⟩
   have hq0 : wA.cell? ⟨gb, 0, none⟩ = some (.slice A0_0 l0_0.length c0_0) := (qaa HI.out.b 0).trans rfl; have hq1 : wA.cell? ⟨gb, 1, none⟩ = some (.slice A0_1 l0_1.length c0_1) := (qaa HI.out.b 1).trans rfl; have hq2 : wA.cell? ⟨gb, 2, none⟩ = some (.slice A0_2 l0_2.length c0_2) := (qaa HI.out.b 2).trans rfl
   go_wp2_with fail
   clear hq0 hq1 hq2
   go_loopw [4] (fun s4 wr => ∃ j : Nat, j ≤ l0_1.length ∧ s4 = .int .i64 j ∧ qab (((l0_1.drop j).all (fun s => spanB s 0 1000) && R2) = r) ∧ qab (BIN w gb #[.slice A0_0 l0_0.length c0_0, .slice A0_1 l0_1.length c0_1, .slice A0_2 l0_2.length c0_2] wr)) (fun s _ => l0_1.length - (intOf s).toNat)
   case atStart => exact ⟨0, by omega, rfl, HF0, HI⟩
   case round =>
    clear HI HF0
    obtain ⟨j, hj, rfl, HF, HI⟩ := hrel
    by_cases hlt : j < l0_1.length
    ·
     have hlt1 : (j : Int) < l0_1.length := by omega
     have hj0 : (0 : Int) ≤ j := by omega
     have hw1 : IntKind.i64.wrap ((j : Int) + 1) = (j : Int) + 1 := by rw [i64_w]; unfold wrap64; omega
     obtain ⟨ad, e, hl0, hl1⟩ := at_T37 (Kd.qai HR1.out HI.out.hb) j hj0 hlt1
     cases e
     simp only [Int.toNat_natCast] at hl0 hl1
     have hf := HF.out
     rw [all_step (fun s => spanB s 0 1000) l0_1 z37 j hlt, show l0_1.getD j z37 = rd_T37 l0_1 (j : Int) from by simp [rd_T37]] at hf
     generalize rd_T37 l0_1 (j : Int) = F at *
     have HC := qab.mk (talikref04_Span_to (talikref04_Span.calls _ _ _ _ _ wr (rspan_eq F 0 1000)))
     obtain ⟨b, hb⟩ : ∃ b, b = spanB F 0 1000 := ⟨_, rfl⟩
     rw [← hb] at HC hf
     clear hb HF
     have hq0 : wr.cell? ⟨gb, 0, none⟩ = some (.slice A0_0 l0_0.length c0_0) := (qaa HI.out.b 0).trans rfl; have hq1 : wr.cell? ⟨gb, 1, none⟩ = some (.slice (some ad) l0_1.length c0_1) := (qaa HI.out.b 1).trans rfl; have hq2 : wr.cell? ⟨gb, 2, none⟩ = some (.slice A0_2 l0_2.length c0_2) := (qaa HI.out.b 2).trans rfl
     cases b with
     | false =>
      rw [Bool.false_and, Bool.false_and] at hf
      subst hf
      go_wp2_with (first | (go_at_call 59; with_reducible refine (HC.out).mono ?_; rintro e w3 ⟨rfl, hb⟩; have n_HI := qab.mk (HI.out.below hb); clear HI; have HI := n_HI; clear n_HI hb hq0 hq1 hq2; have hq0 : w3.cell? ⟨gb, 0, none⟩ = some (.slice A0_0 l0_0.length c0_0) := (qaa HI.out.b 0).trans rfl; have hq1 : w3.cell? ⟨gb, 1, none⟩ = some (.slice (some ad) l0_1.length c0_1) := (qaa HI.out.b 1).trans rfl; have hq2 : w3.cell? ⟨gb, 2, none⟩ = some (.slice A0_2 l0_2.length c0_2) := (qaa HI.out.b 2).trans rfl))
      go_ret
      exact ⟨rfl, HI.out.hb⟩
     | true =>
      rw [Bool.true_and] at hf
      have HF := qab.mk hf
      clear hf
      go_wp2_with (first | (go_at_call 59; with_reducible refine (HC.out).mono ?_; rintro e w3 ⟨rfl, hb⟩; have n_HI := qab.mk (HI.out.below hb); clear HI; have HI := n_HI; clear n_HI hb hq0 hq1 hq2; have hq0 : w3.cell? ⟨gb, 0, none⟩ = some (.slice A0_0 l0_0.length c0_0) := (qaa HI.out.b 0).trans rfl; have hq1 : w3.cell? ⟨gb, 1, none⟩ = some (.slice (some ad) l0_1.length c0_1) := (qaa HI.out.b 1).trans rfl; have hq2 : w3.cell? ⟨gb, 2, none⟩ = some (.slice A0_2 l0_2.length c0_2) := (qaa HI.out.b 2).trans rfl))
      go_roundw
      case rel => exact ⟨j + 1, by omega, by go_num, HF, HI⟩
      case measure => simp [intOf]; omega
    ·
     have he := HF.out
     rw [List.drop_eq_nil_of_le (by omega), List.all_nil, Bool.true_and] at he
     have HF0 : qab ((rowsR (l0_0.length + 1) (l0_2.drop 0) 0 && R3) = r) := ⟨by rw [List.drop_zero, ← HE2.out]; exact he⟩
     clear HF he
     obtain ⟨wB, rfl⟩ : ∃ wa : World, wa = wr := ⟨_, rfl⟩
     have hq0 : wB.cell? ⟨gb, 0, none⟩ = some (.slice A0_0 l0_0.length c0_0) := (qaa HI.out.b 0).trans rfl; have hq1 : wB.cell? ⟨gb, 1, none⟩ = some (.slice A0_1 l0_1.length c0_1) := (qaa HI.out.b 1).trans rfl; have hq2 : wB.cell? ⟨gb, 2, none⟩ = some (.slice A0_2 l0_2.length c0_2) := (qaa HI.out.b 2).trans rfl
     go_wp2_with fail
     clear hq0 hq1 hq2
     have hw2 : IntKind.i64.wrap ((l0_0.length : Int) + 1) = (l0_0.length : Int) + 1 := by rw [i64_w]; unfold wrap64; omega
     go_loopw [5] (fun s5 wr => ∃ i : Nat, i ≤ l0_2.length ∧ s5 = .int .i64 i ∧ qab ((rowsR (l0_0.length + 1) (l0_2.drop i) i && R3) = r) ∧ qab (BIN w gb #[.slice A0_0 l0_0.length c0_0, .slice A0_1 l0_1.length c0_1, .slice A0_2 l0_2.length c0_2] wr)) (fun s _ => l0_2.length - (intOf s).toNat)
     case atStart => exact ⟨0, by omega, rfl, HF0, HI⟩
     case round =>
      clear HI HF0
      obtain ⟨i, hi, rfl, HF, HI⟩ := hrel
      by_cases hlt : i < l0_2.length
      ·
       have hlt1 : (i : Int) < l0_2.length := by omega
       have hi0 : (0 : Int) ≤ i := by omega
       have hrl : (rd_L1 l0_2 (i : Int)).length ≤ 10 := by rw [rd_L1_at l0_2 i hlt]; exact HRW.out i hlt
       have hf := HF.out
       rw [rowsR_step _ l0_2 i hlt] at hf
       obtain ⟨wO, rfl⟩ : ∃ wo : World, wo = wr := ⟨_, rfl⟩
       obtain ⟨ad, rA, rc, e, hcell, hrc, hrC⟩ := at_L1 (Kd.qai HR2.out HI.out.hb) i hi0 hlt1
       cases e
       simp only [Int.toNat_natCast] at hcell
       have HT : qab (∀ W, BIN w gb #[.slice A0_0 l0_0.length c0_0, .slice A0_1 l0_1.length c0_1, .slice (some ad) l0_2.length c0_2] W → W.cell? (ad.add i) = some (.slice rA (rd_L1 l0_2 i).length rc) → (W.cell? ⟨gb, 0, none⟩ = some (.slice A0_0 l0_0.length c0_0) ∧ W.cell? ⟨gb, 2, none⟩ = some (.slice (some ad) l0_2.length c0_2) ∧ W.cell? (ad.add i) = some (.slice rA (rd_L1 l0_2 i).length rc))) := ⟨fun W h hc => ⟨qaa h.b 0, qaa h.b 2, hc⟩⟩
       have HCELL := qab.mk hcell
       have HRC := qab.mk hrC
       by_cases hlen : (rd_L1 l0_2 (i : Int)).length = l0_0.length + 1
       ·
        have d1 : (((rd_L1 l0_2 (i : Int)).length : Int) != (l0_0.length : Int) + 1) = false := by rw [bne_eq_false_iff_eq]; omega
        rw [decide_eq_true hlen, Bool.true_and, Bool.and_assoc] at hf
        have HF0 : qab ((chkR i ((rd_L1 l0_2 (i : Int)).drop 0) 0 && (rowsR (l0_0.length + 1) (l0_2.drop (i + 1)) (i + 1) && R3)) = r) := ⟨by rw [List.drop_zero]; exact hf⟩
        clear hf HF
        have hq0 : wO.cell? ⟨gb, 0, none⟩ = some (.slice A0_0 l0_0.length c0_0) := (qaa HI.out.b 0).trans rfl; have hq1 : wO.cell? ⟨gb, 1, none⟩ = some (.slice A0_1 l0_1.length c0_1) := (qaa HI.out.b 1).trans rfl; have hq2 : wO.cell? ⟨gb, 2, none⟩ = some (.slice (some ad) l0_2.length c0_2) := (qaa HI.out.b 2).trans rfl
        go_upto_region 14 with fail
        clear hq0 hq1 hq2
        refine start_ (n := 11) (S := (fun w' => (w'.cell? ⟨gb, 0, none⟩ = some (.slice A0_0 l0_0.length c0_0) ∧ w'.cell? ⟨gb, 2, none⟩ = some (.slice (some ad) l0_2.length c0_2) ∧ w'.cell? (ad.add i) = some (.slice rA (rd_L1 l0_2 i).length rc)))) (ds := []) (msk 11 0) (by kernel_rfl) rfl rfl (HT.out wO.drew (HI.out.below (below_drew (Below.refl _ _))) (hcell.trans rfl)) (fun hHeld => ?_)
        refine pure_ (i := 0) (N := some 42) (v := ?_) (a' := ?_) (msk 11 1) rfl rfl (by kernel_rfl) (fun _ _ _ h => h) (Or.inl ⟨by rfl, ?_⟩) ?_ ?_; rotate_left; (focus (intro w'; go_simp; with_reducible rfl)); rotate_left; (focus (simp only [Act.put, List.setIfInBounds_toArray, List.set_cons_zero, List.set_cons_succ, i64_w, i32_w]; rfl))
        refine take_ (i := 1) (N := some 43) (v := ?_) (a' := ?_) (msk 11 2) rfl rfl (by kernel_rfl) (fun _ _ _ h => h) (Or.inl ⟨by rfl, ?_⟩) hHeld ?_ ?_; rotate_left; (focus (rintro w' ⟨s0, s1, s2⟩; go_simp; with_reducible rfl)); rotate_left; (focus (simp only [Act.put, List.setIfInBounds_toArray, List.set_cons_zero, List.set_cons_succ, i64_w, i32_w]; rfl))
        refine pure_ (i := 2) (N := some 44) (v := ?_) (a' := ?_) (msk 11 3) rfl rfl (by kernel_rfl) (fun _ _ _ h => h) (Or.inl ⟨by rfl, ?_⟩) ?_ ?_; rotate_left; (focus (intro w'; go_simp; with_reducible rfl)); rotate_left; (focus (simp only [Act.put, List.setIfInBounds_toArray, List.set_cons_zero, List.set_cons_succ, i64_w, i32_w]; rfl))
        refine pure_ (i := 3) (N := some 45) (v := ?_) (a' := ?_) (msk 11 4) rfl rfl (by kernel_rfl) (fun _ _ _ h => h) (Or.inl ⟨by rfl, ?_⟩) ?_ ?_; rotate_left; (focus (intro w'; go_simp; with_reducible rfl)); rotate_left; (focus (simp only [Act.put, List.setIfInBounds_toArray, List.set_cons_zero, List.set_cons_succ, i64_w, i32_w]; rfl))
        refine take_ (i := 4) (N := some 46) (v := ?_) (a' := ?_) (msk 11 5) rfl rfl (by kernel_rfl) (fun _ _ _ h => h) (Or.inl ⟨by rfl, ?_⟩) hHeld ?_ ?_; rotate_left; (focus (rintro w' ⟨s0, s1, s2⟩; go_simp; with_reducible rfl)); rotate_left; (focus (simp only [Act.put, List.setIfInBounds_toArray, List.set_cons_zero, List.set_cons_succ, i64_w, i32_w]; rfl))
        refine pure_ (i := 5) (N := some 47) (v := ?_) (a' := ?_) (msk 11 6) rfl rfl (by kernel_rfl) (fun _ _ _ h => h) (Or.inl ⟨by rfl, ?_⟩) ?_ ?_; rotate_left; (focus (intro w'; go_simp; with_reducible rfl)); rotate_left; (focus (simp only [Act.put, List.setIfInBounds_toArray, List.set_cons_zero, List.set_cons_succ, i64_w, i32_w]; rfl))
        refine pure_ (i := 6) (N := some 48) (v := ?_) (a' := ?_) (msk 11 7) rfl rfl (by kernel_rfl) (fun _ _ _ h => h) (Or.inl ⟨by rfl, ?_⟩) ?_ ?_; rotate_left; (focus (intro w'; go_simp; with_reducible rfl)); rotate_left; (focus (simp only [Act.put, List.setIfInBounds_toArray, List.set_cons_zero, List.set_cons_succ, i64_w, i32_w]; rfl))
        refine take_ (i := 7) (N := some 49) (v := ?_) (a' := ?_) (msk 11 8) rfl rfl (by kernel_rfl) (fun _ _ _ h => h) (Or.inl ⟨by rfl, ?_⟩) hHeld ?_ ?_; rotate_left; (focus (rintro w' ⟨s0, s1, s2⟩; go_simp; with_reducible rfl)); rotate_left; (focus (simp only [Act.put, List.setIfInBounds_toArray, List.set_cons_zero, List.set_cons_succ, i64_w, i32_w]; rfl))
        refine pure_ (i := 8) (N := some 50) (v := ?_) (a' := ?_) (msk 11 9) rfl rfl (by kernel_rfl) (fun _ _ _ h => h) (Or.inl ⟨by rfl, ?_⟩) ?_ ?_; rotate_left; (focus (intro w'; go_simp; with_reducible rfl)); rotate_left; (focus (simp only [Act.put, List.setIfInBounds_toArray, List.set_cons_zero, List.set_cons_succ, i64_w, i32_w]; rfl))
        refine pure_ (i := 9) (N := some 51) (v := ?_) (a' := ?_) (msk 11 10) rfl rfl (by kernel_rfl) (fun _ _ _ h => h) (Or.inl ⟨by rfl, ?_⟩) ?_ ?_; rotate_left; (focus (intro w'; go_simp; with_reducible rfl)); rotate_left; (focus (simp only [Act.put, List.setIfInBounds_toArray, List.set_cons_zero, List.set_cons_succ, i64_w, i32_w]; rfl))
        refine pure_ (i := 10) (N := some 52) (v := ?_) (a' := ?_) (msk 11 11) rfl rfl (by kernel_rfl) (fun _ _ _ h => h) (Or.inl ⟨by rfl, ?_⟩) ?_ ?_; rotate_left; (focus (intro w'; go_simp; with_reducible rfl)); rotate_left; (focus (simp only [Act.put, List.setIfInBounds_toArray, List.set_cons_zero, List.set_cons_succ, i64_w, i32_w]; rfl))
        refine done_ (by kernel_rfl) ?_
        have n_HI := qab.mk (HI.out.below (below_drew (Below.refl wO.heap.size wO)))
        clear HI
        have HI := n_HI
        clear n_HI HT
        have n_HC := qab.mk ((below_drew (Below.refl wO.heap.size wO)).cell (World.block_lt_of_cell? _ _ HCELL.out) |>.trans HCELL.out)
        have n_HR := qab.mk (Kd.qai HRC.out (below_drew (Below.refl wO.heap.size wO)))
        clear HCELL HRC hcell hrC
        have HCELL := n_HC
        have HRC := n_HR
        clear n_HC n_HR
        generalize wO.drew = wP at HI HCELL HRC ⊢
        go_wp2_with fail
        go_loopw [6] (fun s6 wr => ∃ k : Nat, k ≤ (rd_L1 l0_2 (i : Int)).length ∧ s6 = .int .i64 k ∧ qab ((chkR i ((rd_L1 l0_2 (i : Int)).drop k) k && (rowsR (l0_0.length + 1) (l0_2.drop (i + 1)) (i + 1) && R3)) = r) ∧ qab (BIN w gb #[.slice A0_0 l0_0.length c0_0, .slice A0_1 l0_1.length c0_1, .slice (some ad) l0_2.length c0_2] wr) ∧ qab (Below wP.heap.size wP wr)) (fun s _ => (rd_L1 l0_2 (i : Int)).length - (intOf s).toNat)
        case atStart => exact ⟨0, by omega, rfl, HF0, HI, ⟨Below.refl _ _⟩⟩
        case round =>
         clear HI HF0
         obtain ⟨k, hk, rfl, HF, HI, HBP⟩ := hrel
         have hcell := ((HBP.out.cell (World.block_lt_of_cell? _ _ HCELL.out)).trans HCELL.out)
         by_cases hlt2 : k < (rd_L1 l0_2 (i : Int)).length
         ·
          have hlt3 : (k : Int) < (rd_L1 l0_2 (i : Int)).length := by omega
          have hk0 : (0 : Int) ≤ k := by omega
          have hw1 : IntKind.i64.wrap ((k : Int) + 1) = (k : Int) + 1 := by rw [i64_w]; unfold wrap64; omega
          have hf := HF.out
          rw [chkR_step i _ k hlt2] at hf
          obtain ⟨ad3, e, hx⟩ := Kd.at_int HRC.out k hk0 hlt3
          subst e
          have HXX := qab.mk hx
          have hx' := (HBP.out.cell (World.block_lt_of_cell? _ _ hx)).trans hx
          simp only [Int.toNat_natCast] at hx'
          clear hx
          generalize rd (rd_L1 l0_2 (i : Int)) (k : Int) = x at hf hx'
          have HC := qab.mk (in60 x 0 72 wr)
          obtain ⟨b, hb⟩ : ∃ b, b = inB x 0 72 := ⟨_, rfl⟩
          rw [← hb] at HC hf
          clear hb HF HXX
          have hq0 : wr.cell? ⟨gb, 0, none⟩ = some (.slice A0_0 l0_0.length c0_0) := (qaa HI.out.b 0).trans rfl; have hq1 : wr.cell? ⟨gb, 1, none⟩ = some (.slice A0_1 l0_1.length c0_1) := (qaa HI.out.b 1).trans rfl; have hq2 : wr.cell? ⟨gb, 2, none⟩ = some (.slice (some ad) l0_2.length c0_2) := (qaa HI.out.b 2).trans rfl
          cases b with
          | false =>
           rw [Bool.false_and, Bool.false_and] at hf
           subst hf
           go_wp2_with (first | (go_at_call 60; with_reducible refine HC.out.mono ?_; rintro e w4 ⟨rfl, hb⟩; have n_HI := qab.mk (HI.out.below hb); have n_HBP := qab.mk (qag HBP.out hb); have n_c := (hb.cell (World.block_lt_of_cell? _ _ hcell)).trans hcell; have n_x := (hb.cell (World.block_lt_of_cell? _ _ hx')).trans hx'; clear HI HBP hcell hx' hb hq0 hq1 hq2; have HI := n_HI; have HBP := n_HBP; have hcell := n_c; have hx' := n_x; clear n_HI n_HBP n_c n_x; have hq0 : w4.cell? ⟨gb, 0, none⟩ = some (.slice A0_0 l0_0.length c0_0) := (qaa HI.out.b 0).trans rfl; have hq1 : w4.cell? ⟨gb, 1, none⟩ = some (.slice A0_1 l0_1.length c0_1) := (qaa HI.out.b 1).trans rfl; have hq2 : w4.cell? ⟨gb, 2, none⟩ = some (.slice (some ad) l0_2.length c0_2) := (qaa HI.out.b 2).trans rfl))
           go_ret
           exact ⟨rfl, HI.out.hb⟩
          | true =>
           rw [Bool.true_and] at hf
           by_cases hik : i = k
           ·
            have e1 : ((i : Int) == (k : Int)) = true := by simp [hik]
            have e2 : (i != k) = false := by simp [hik]
            rw [e2, Bool.false_or] at hf
            clear hik e2
            by_cases hx0 : x = 0
            ·
             have e3 : (x != 0) = false := by simp [hx0]
             have e4 : (x == 0) = true := by simp [hx0]
             rw [e4, Bool.true_and] at hf
             clear hx0 e4
             have HF := qab.mk hf
             clear hf
             go_wp2_with (first | (go_at_call 60; with_reducible refine HC.out.mono ?_; rintro e w4 ⟨rfl, hb⟩; have n_HI := qab.mk (HI.out.below hb); have n_HBP := qab.mk (qag HBP.out hb); have n_c := (hb.cell (World.block_lt_of_cell? _ _ hcell)).trans hcell; have n_x := (hb.cell (World.block_lt_of_cell? _ _ hx')).trans hx'; clear HI HBP hcell hx' hb hq0 hq1 hq2; have HI := n_HI; have HBP := n_HBP; have hcell := n_c; have hx' := n_x; clear n_HI n_HBP n_c n_x; have hq0 : w4.cell? ⟨gb, 0, none⟩ = some (.slice A0_0 l0_0.length c0_0) := (qaa HI.out.b 0).trans rfl; have hq1 : w4.cell? ⟨gb, 1, none⟩ = some (.slice A0_1 l0_1.length c0_1) := (qaa HI.out.b 1).trans rfl; have hq2 : w4.cell? ⟨gb, 2, none⟩ = some (.slice (some ad) l0_2.length c0_2) := (qaa HI.out.b 2).trans rfl))
             go_roundw
             case rel => exact ⟨k + 1, by omega, by go_num, HF, HI, HBP⟩
             case measure => simp [intOf]; omega
            ·
             have e3 : (x != 0) = true := by simp [hx0]
             have e4 : (x == 0) = false := by simp [hx0]
             rw [e4, Bool.false_and, Bool.false_and] at hf
             clear hx0 e4
             subst hf
             go_wp2_with (first | (go_at_call 60; with_reducible refine HC.out.mono ?_; rintro e w4 ⟨rfl, hb⟩; have n_HI := qab.mk (HI.out.below hb); have n_HBP := qab.mk (qag HBP.out hb); have n_c := (hb.cell (World.block_lt_of_cell? _ _ hcell)).trans hcell; have n_x := (hb.cell (World.block_lt_of_cell? _ _ hx')).trans hx'; clear HI HBP hcell hx' hb hq0 hq1 hq2; have HI := n_HI; have HBP := n_HBP; have hcell := n_c; have hx' := n_x; clear n_HI n_HBP n_c n_x; have hq0 : w4.cell? ⟨gb, 0, none⟩ = some (.slice A0_0 l0_0.length c0_0) := (qaa HI.out.b 0).trans rfl; have hq1 : w4.cell? ⟨gb, 1, none⟩ = some (.slice A0_1 l0_1.length c0_1) := (qaa HI.out.b 1).trans rfl; have hq2 : w4.cell? ⟨gb, 2, none⟩ = some (.slice (some ad) l0_2.length c0_2) := (qaa HI.out.b 2).trans rfl))
             go_ret
             exact ⟨rfl, HI.out.hb⟩
           ·
            have e1 : ((i : Int) == (k : Int)) = false := by simp; omega
            have e2 : (i != k) = true := by simp [hik]
            rw [e2, Bool.true_or, Bool.true_and] at hf
            have HF := qab.mk hf
            clear hf
            go_wp2_with (first | (go_at_call 60; with_reducible refine HC.out.mono ?_; rintro e w4 ⟨rfl, hb⟩; have n_HI := qab.mk (HI.out.below hb); have n_HBP := qab.mk (qag HBP.out hb); have n_c := (hb.cell (World.block_lt_of_cell? _ _ hcell)).trans hcell; have n_x := (hb.cell (World.block_lt_of_cell? _ _ hx')).trans hx'; clear HI HBP hcell hx' hb hq0 hq1 hq2; have HI := n_HI; have HBP := n_HBP; have hcell := n_c; have hx' := n_x; clear n_HI n_HBP n_c n_x; have hq0 : w4.cell? ⟨gb, 0, none⟩ = some (.slice A0_0 l0_0.length c0_0) := (qaa HI.out.b 0).trans rfl; have hq1 : w4.cell? ⟨gb, 1, none⟩ = some (.slice A0_1 l0_1.length c0_1) := (qaa HI.out.b 1).trans rfl; have hq2 : w4.cell? ⟨gb, 2, none⟩ = some (.slice (some ad) l0_2.length c0_2) := (qaa HI.out.b 2).trans rfl))
            go_roundw
            case rel => exact ⟨k + 1, by omega, by go_num, HF, HI, HBP⟩
            case measure => simp [intOf]; omega
         ·
          have he := HF.out
          rw [List.drop_eq_nil_of_le (by omega)] at he
          have HF0 : qab ((rowsR (l0_0.length + 1) (l0_2.drop (i + 1)) (i + 1) && R3) = r) := ⟨by simpa [chkR] using he⟩
          clear HF he
          have hw1 : IntKind.i64.wrap ((i : Int) + 1) = (i : Int) + 1 := by rw [i64_w]; unfold wrap64; omega
          have hq0 : wr.cell? ⟨gb, 0, none⟩ = some (.slice A0_0 l0_0.length c0_0) := (qaa HI.out.b 0).trans rfl; have hq1 : wr.cell? ⟨gb, 1, none⟩ = some (.slice A0_1 l0_1.length c0_1) := (qaa HI.out.b 1).trans rfl; have hq2 : wr.cell? ⟨gb, 2, none⟩ = some (.slice (some ad) l0_2.length c0_2) := (qaa HI.out.b 2).trans rfl
          go_wp2_with fail
          go_roundw
          case rel => exact ⟨i + 1, by omega, by go_num, HF0, HI⟩
          case measure => simp [intOf]; omega
       ·
        have d1 : (((rd_L1 l0_2 (i : Int)).length : Int) != (l0_0.length : Int) + 1) = true := by rw [bne_iff_ne]; omega
        rw [decide_eq_false hlen, Bool.false_and, Bool.false_and] at hf
        subst hf
        have hq0 : wO.cell? ⟨gb, 0, none⟩ = some (.slice A0_0 l0_0.length c0_0) := (qaa HI.out.b 0).trans rfl; have hq1 : wO.cell? ⟨gb, 1, none⟩ = some (.slice A0_1 l0_1.length c0_1) := (qaa HI.out.b 1).trans rfl; have hq2 : wO.cell? ⟨gb, 2, none⟩ = some (.slice (some ad) l0_2.length c0_2) := (qaa HI.out.b 2).trans rfl
        go_upto_region 14 with fail
        clear hq0 hq1 hq2
        refine start_ (n := 11) (S := (fun w' => (w'.cell? ⟨gb, 0, none⟩ = some (.slice A0_0 l0_0.length c0_0) ∧ w'.cell? ⟨gb, 2, none⟩ = some (.slice (some ad) l0_2.length c0_2) ∧ w'.cell? (ad.add i) = some (.slice rA (rd_L1 l0_2 i).length rc)))) (ds := []) (msk 11 0) (by kernel_rfl) rfl rfl (HT.out wO.drew (HI.out.below (below_drew (Below.refl _ _))) (hcell.trans rfl)) (fun hHeld => ?_)
        refine pure_ (i := 0) (N := some 42) (v := ?_) (a' := ?_) (msk 11 1) rfl rfl (by kernel_rfl) (fun _ _ _ h => h) (Or.inl ⟨by rfl, ?_⟩) ?_ ?_; rotate_left; (focus (intro w'; go_simp; with_reducible rfl)); rotate_left; (focus (simp only [Act.put, List.setIfInBounds_toArray, List.set_cons_zero, List.set_cons_succ, i64_w, i32_w]; rfl))
        refine take_ (i := 1) (N := some 43) (v := ?_) (a' := ?_) (msk 11 2) rfl rfl (by kernel_rfl) (fun _ _ _ h => h) (Or.inl ⟨by rfl, ?_⟩) hHeld ?_ ?_; rotate_left; (focus (rintro w' ⟨s0, s1, s2⟩; go_simp; with_reducible rfl)); rotate_left; (focus (simp only [Act.put, List.setIfInBounds_toArray, List.set_cons_zero, List.set_cons_succ, i64_w, i32_w]; rfl))
        refine pure_ (i := 2) (N := some 44) (v := ?_) (a' := ?_) (msk 11 3) rfl rfl (by kernel_rfl) (fun _ _ _ h => h) (Or.inl ⟨by rfl, ?_⟩) ?_ ?_; rotate_left; (focus (intro w'; go_simp; with_reducible rfl)); rotate_left; (focus (simp only [Act.put, List.setIfInBounds_toArray, List.set_cons_zero, List.set_cons_succ, i64_w, i32_w]; rfl))
        refine pure_ (i := 3) (N := some 45) (v := ?_) (a' := ?_) (msk 11 4) rfl rfl (by kernel_rfl) (fun _ _ _ h => h) (Or.inl ⟨by rfl, ?_⟩) ?_ ?_; rotate_left; (focus (intro w'; go_simp; with_reducible rfl)); rotate_left; (focus (simp only [Act.put, List.setIfInBounds_toArray, List.set_cons_zero, List.set_cons_succ, i64_w, i32_w]; rfl))
        refine take_ (i := 4) (N := some 46) (v := ?_) (a' := ?_) (msk 11 5) rfl rfl (by kernel_rfl) (fun _ _ _ h => h) (Or.inl ⟨by rfl, ?_⟩) hHeld ?_ ?_; rotate_left; (focus (rintro w' ⟨s0, s1, s2⟩; go_simp; with_reducible rfl)); rotate_left; (focus (simp only [Act.put, List.setIfInBounds_toArray, List.set_cons_zero, List.set_cons_succ, i64_w, i32_w]; rfl))
        refine pure_ (i := 5) (N := some 47) (v := ?_) (a' := ?_) (msk 11 6) rfl rfl (by kernel_rfl) (fun _ _ _ h => h) (Or.inl ⟨by rfl, ?_⟩) ?_ ?_; rotate_left; (focus (intro w'; go_simp; with_reducible rfl)); rotate_left; (focus (simp only [Act.put, List.setIfInBounds_toArray, List.set_cons_zero, List.set_cons_succ, i64_w, i32_w]; rfl))
        refine pure_ (i := 6) (N := some 48) (v := ?_) (a' := ?_) (msk 11 7) rfl rfl (by kernel_rfl) (fun _ _ _ h => h) (Or.inl ⟨by rfl, ?_⟩) ?_ ?_; rotate_left; (focus (intro w'; go_simp; with_reducible rfl)); rotate_left; (focus (simp only [Act.put, List.setIfInBounds_toArray, List.set_cons_zero, List.set_cons_succ, i64_w, i32_w]; rfl))
        refine take_ (i := 7) (N := some 49) (v := ?_) (a' := ?_) (msk 11 8) rfl rfl (by kernel_rfl) (fun _ _ _ h => h) (Or.inl ⟨by rfl, ?_⟩) hHeld ?_ ?_; rotate_left; (focus (rintro w' ⟨s0, s1, s2⟩; go_simp; with_reducible rfl)); rotate_left; (focus (simp only [Act.put, List.setIfInBounds_toArray, List.set_cons_zero, List.set_cons_succ, i64_w, i32_w]; rfl))
        refine pure_ (i := 8) (N := some 50) (v := ?_) (a' := ?_) (msk 11 9) rfl rfl (by kernel_rfl) (fun _ _ _ h => h) (Or.inl ⟨by rfl, ?_⟩) ?_ ?_; rotate_left; (focus (intro w'; go_simp; with_reducible rfl)); rotate_left; (focus (simp only [Act.put, List.setIfInBounds_toArray, List.set_cons_zero, List.set_cons_succ, i64_w, i32_w]; rfl))
        refine pure_ (i := 9) (N := some 51) (v := ?_) (a' := ?_) (msk 11 10) rfl rfl (by kernel_rfl) (fun _ _ _ h => h) (Or.inl ⟨by rfl, ?_⟩) ?_ ?_; rotate_left; (focus (intro w'; go_simp; with_reducible rfl)); rotate_left; (focus (simp only [Act.put, List.setIfInBounds_toArray, List.set_cons_zero, List.set_cons_succ, i64_w, i32_w]; rfl))
        refine pure_ (i := 10) (N := some 52) (v := ?_) (a' := ?_) (msk 11 11) rfl rfl (by kernel_rfl) (fun _ _ _ h => h) (Or.inl ⟨by rfl, ?_⟩) ?_ ?_; rotate_left; (focus (intro w'; go_simp; with_reducible rfl)); rotate_left; (focus (simp only [Act.put, List.setIfInBounds_toArray, List.set_cons_zero, List.set_cons_succ, i64_w, i32_w]; rfl))
        refine done_ (by kernel_rfl) ?_
        go_wp2_with fail
        go_ret
        exact ⟨rfl, below_drew HI.out.hb⟩
      ·
       have he := HF.out
       rw [List.drop_eq_nil_of_le (by omega)] at he
       have HF0 : qab (R3 = r) := ⟨by simpa [rowsR] using he⟩
       clear HF he
       have hr := HF0.out.symm.trans HE3.out
       unfold finR at hr
       have C1 := in60 (l0_0.length : Int) 1 5
       have C2 := in60 (l0_1.length : Int) 1 72
       obtain ⟨b1, h1⟩ : ∃ b, b = inB (l0_0.length : Int) 1 5 := ⟨_, rfl⟩
       obtain ⟨b2, h2⟩ : ∃ b, b = inB (l0_1.length : Int) 1 72 := ⟨_, rfl⟩
       rw [← h1] at C1 hr
       rw [← h2] at C2 hr
       have HC1 := qab.mk C1
       have HC2 := qab.mk C2
       clear C1 C2 h1 h2 HF0
       have hq0 : wr.cell? ⟨gb, 0, none⟩ = some (.slice A0_0 l0_0.length c0_0) := (qaa HI.out.b 0).trans rfl; have hq1 : wr.cell? ⟨gb, 1, none⟩ = some (.slice A0_1 l0_1.length c0_1) := (qaa HI.out.b 1).trans rfl; have hq2 : wr.cell? ⟨gb, 2, none⟩ = some (.slice A0_2 l0_2.length c0_2) := (qaa HI.out.b 2).trans rfl
       cases b1 with
       | false =>
        rw [Bool.false_and] at hr
        subst hr
        go_wp2_with (first | (go_at_call 60; with_reducible refine (HC1.out _).mono ?_; rintro e w4 ⟨rfl, hb⟩; have n_HI := qab.mk (HI.out.below hb); clear HI; have HI := n_HI; clear n_HI hb hq0 hq1 hq2; have hq0 : w4.cell? ⟨gb, 0, none⟩ = some (.slice A0_0 l0_0.length c0_0) := (qaa HI.out.b 0).trans rfl; have hq1 : w4.cell? ⟨gb, 1, none⟩ = some (.slice A0_1 l0_1.length c0_1) := (qaa HI.out.b 1).trans rfl; have hq2 : w4.cell? ⟨gb, 2, none⟩ = some (.slice A0_2 l0_2.length c0_2) := (qaa HI.out.b 2).trans rfl))
        go_ret
        exact ⟨rfl, HI.out.hb⟩
       | true =>
        rw [Bool.true_and] at hr
        cases b2 with
        | false =>
         rw [Bool.false_and] at hr
         subst hr
         go_wp2_with (first | (go_at_call 60; with_reducible refine (HC1.out _).mono ?_; rintro e w4 ⟨rfl, hb⟩; have n_HI := qab.mk (HI.out.below hb); clear HI; have HI := n_HI; clear n_HI hb hq0 hq1 hq2; have hq0 : w4.cell? ⟨gb, 0, none⟩ = some (.slice A0_0 l0_0.length c0_0) := (qaa HI.out.b 0).trans rfl; have hq1 : w4.cell? ⟨gb, 1, none⟩ = some (.slice A0_1 l0_1.length c0_1) := (qaa HI.out.b 1).trans rfl; have hq2 : w4.cell? ⟨gb, 2, none⟩ = some (.slice A0_2 l0_2.length c0_2) := (qaa HI.out.b 2).trans rfl) | (go_at_call 60; with_reducible refine (HC2.out _).mono ?_; rintro e w5 ⟨rfl, hb⟩; have n_HI := qab.mk (HI.out.below hb); clear HI; have HI := n_HI; clear n_HI hb hq0 hq1 hq2; have hq0 : w5.cell? ⟨gb, 0, none⟩ = some (.slice A0_0 l0_0.length c0_0) := (qaa HI.out.b 0).trans rfl; have hq1 : w5.cell? ⟨gb, 1, none⟩ = some (.slice A0_1 l0_1.length c0_1) := (qaa HI.out.b 1).trans rfl; have hq2 : w5.cell? ⟨gb, 2, none⟩ = some (.slice A0_2 l0_2.length c0_2) := (qaa HI.out.b 2).trans rfl))
         go_ret
         exact ⟨rfl, HI.out.hb⟩
        | true =>
         rw [Bool.true_and] at hr
         have hq : ((l0_2.length : Int) == (l0_0.length : Int) + 1) = r := by rw [hr, Bool.eq_iff_iff, beq_iff_eq, decide_eq_true_eq]; omega
         clear hr
         go_wp2_with (first | (go_at_call 60; with_reducible refine (HC1.out _).mono ?_; rintro e w4 ⟨rfl, hb⟩; have n_HI := qab.mk (HI.out.below hb); clear HI; have HI := n_HI; clear n_HI hb hq0 hq1 hq2; have hq0 : w4.cell? ⟨gb, 0, none⟩ = some (.slice A0_0 l0_0.length c0_0) := (qaa HI.out.b 0).trans rfl; have hq1 : w4.cell? ⟨gb, 1, none⟩ = some (.slice A0_1 l0_1.length c0_1) := (qaa HI.out.b 1).trans rfl; have hq2 : w4.cell? ⟨gb, 2, none⟩ = some (.slice A0_2 l0_2.length c0_2) := (qaa HI.out.b 2).trans rfl) | (go_at_call 60; with_reducible refine (HC2.out _).mono ?_; rintro e w5 ⟨rfl, hb⟩; have n_HI := qab.mk (HI.out.below hb); clear HI; have HI := n_HI; clear n_HI hb hq0 hq1 hq2; have hq0 : w5.cell? ⟨gb, 0, none⟩ = some (.slice A0_0 l0_0.length c0_0) := (qaa HI.out.b 0).trans rfl; have hq1 : w5.cell? ⟨gb, 1, none⟩ = some (.slice A0_1 l0_1.length c0_1) := (qaa HI.out.b 1).trans rfl; have hq2 : w5.cell? ⟨gb, 2, none⟩ = some (.slice A0_2 l0_2.length c0_2) := (qaa HI.out.b 2).trans rfl))
         go_ret
         exact ⟨by first | rfl | (rw [hq]), HI.out.hb⟩
end Go.Proofs.Ytipphcjgdebecaa.PA
namespace Go.Proofs.Ytipphcjgdebecaa.PA
open Go.RowKit Go.Proofs.YtipphcjgdebecaaW.PrintWords Go.Proofs.YtipphcjgdebecaaW.PrintLast Go.Proofs.YtipphcjgdebecaaW.PrintMore
attribute [local go_sem] qbd qbf max_two min_two qay qaz qbe qbg
theorem short_end (l0 : List S39) (l1 : List S37) (l2 : List (List Int)) (i : Int) (k : Nat) : taliklaw04_short.j1 (k + 1) i false l0 l1 l2 = some (decide (l0.length ≤ 8) && (decide (l1.length ≤ 77) && decide (l2.length ≤ 10))) := by
 unfold taliklaw04_short.j1
 rw [if_neg (by decide)]
 by_cases h0 : l0.length ≤ 8
 ·
  rw [if_pos (by omega)]
  by_cases h1 : l1.length ≤ 77
  ·
   rw [if_pos (by omega)]
   simp [h0, h1]
   omega
  ·
   rw [if_neg (by omega)]
   simp [h1]
 ·
  rw [if_neg (by omega)]
  simp [h0]
theorem short_go (l0 : List S39) (l1 : List S37) (l2 : List (List Int)) : ∀ (m i k : Nat), i + m = 10 → 2 * m + 2 ≤ k → taliklaw04_short.l0 k (i : Int) l0 l1 l2 = some (((l2.drop i).take m).all (fun r => decide (r.length ≤ 10)) && (decide (l0.length ≤ 8) && (decide (l1.length ≤ 77) && decide (l2.length ≤ 10)))) := by
 intro m
 induction m with
 | zero =>
  intro i k hi hk
  obtain ⟨k, rfl⟩ : ∃ k', k = k' + 2 := ⟨k - 2, by omega⟩
  unfold taliklaw04_short.l0
  have hd : decide ((i : Int) < 10) = false := by simp; omega
  rw [hd, short_end]
  simp
 | succ m ih =>
  intro i k hi hk
  obtain ⟨k, rfl⟩ : ∃ k', k = k' + 2 := ⟨k - 2, by omega⟩
  unfold taliklaw04_short.l0
  by_cases hlt : i < l2.length
  ·
   have hd : decide ((i : Int) < 10) = true := by simp; omega
   rw [if_pos (by omega), hd]
   unfold taliklaw04_short.j1
   rw [if_pos rfl, if_pos (by omega), if_pos (by omega), rd_L1_at l2 i hlt, List.drop_eq_getElem_cons hlt, List.take_succ_cons, List.all_cons]
   by_cases hr : l2[i].length ≤ 10
   ·
    rw [if_neg (by omega), wsucc i (by omega), ih (i + 1) k (by omega) (by omega)]
    simp [hr]
   ·
    rw [if_pos (by omega)]
    simp [hr]
  ·
   rw [if_neg (by omega), short_end, List.drop_eq_nil_of_le (by omega)]
   simp
theorem short_eq (l0 : List S39) (l1 : List S37) (l2 : List (List Int)) (k : Nat) (hk : 22 ≤ k) : taliklaw04_short.f k l0 l1 l2 = some (shortB l0 l1 l2) := short_go l0 l1 l2 10 0 k rfl (by omega)
theorem chkR_iff (i : Nat) : ∀ (row : List Int) (j : Nat), chkR i row j = true ↔ (∀ h ∈ row, inB h 0 72 = true) ∧ (∀ n (h : n < row.length), j + n = i → row[n] = 0)
 | [], j => by simp [chkR]
 | h :: t, j => by
  simp only [chkR, Bool.and_eq_true, Bool.or_eq_true, chkR_iff i t (j + 1), bne_iff_ne, ne_eq, beq_iff_eq, List.mem_cons, forall_eq_or_imp]
  constructor
  ·
   rintro ⟨h1, h2, h3, h4⟩
   refine ⟨⟨h1, h3⟩, fun n hn he => ?_⟩
   cases n with
   | zero => exact h2.resolve_left (fun hne => hne (by omega))
   | succ n => simpa using h4 n (by simpa using hn) (by omega)
  ·
   rintro ⟨⟨h1, h3⟩, h4⟩
   refine ⟨h1, ?_, h3, fun n hn he => h4 (n + 1) (by simp only [List.length_cons]; omega) (by omega)⟩
   by_cases he : i = j
   ·
    exact .inr (h4 0 (by simp) (by omega))
   ·
    exact .inl he
theorem rowsR_iff (n : Nat) : ∀ (l : List (List Int)) (i : Nat), rowsR n l i = true ↔ ∀ m (h : m < l.length), l[m].length = n ∧ chkR (i + m) l[m] 0 = true
 | [], i => by simp [rowsR]
 | r :: t, i => by
  simp only [rowsR, Bool.and_eq_true, decide_eq_true_eq, rowsR_iff n t (i + 1)]
  constructor
  ·
   rintro ⟨h1, h2, h3⟩ m hm
   cases m with
   | zero => exact ⟨h1, h2⟩
   | succ m => have := h3 m (by simpa using hm); simpa [Nat.add_assoc, Nat.add_comm 1 m] using this
  ·
   intro h
   refine ⟨(h 0 (by simp)).1, (h 0 (by simp)).2, fun m hm => ?_⟩
   have := h (m + 1) (by simpa using hm)
   simpa [Nat.add_assoc, Nat.add_comm 1 m] using this
theorem rows_ways (l0 : List S39) (l2 : List (List Int)) (hl : l2.length = l0.length + 1) : rowsR (l0.length + 1) l2 0 = waysB (l0.length + 1) l2 := by
 rw [Bool.eq_iff_iff, rowsR_iff]
 unfold waysB
 rw [List.all_eq_true]
 constructor
 ·
  intro h j hj
  have hj' : j < l2.length := by simpa using hj
  obtain ⟨h1, h2⟩ := h j hj'
  rw [Nat.zero_add, chkR_iff] at h2
  have e : l2.getD j [] = l2[j] := by simp [hj']
  rw [e]
  unfold rowB
  simp only [Bool.and_eq_true, decide_eq_true_eq, List.all_eq_true]
  have hz := h2.2 j (by omega) (by omega)
  refine ⟨by omega, ?_, h2.1⟩
  simp [rd, show j < l2[j].length by omega, hz]
 ·
  intro h m hm
  have h1 := h m (by simpa using hm)
  have e : l2.getD m [] = l2[m] := by simp [hm]
  rw [e] at h1
  unfold rowB at h1
  simp only [Bool.and_eq_true, decide_eq_true_eq, List.all_eq_true] at h1
  obtain ⟨h2, h3, h4⟩ := h1
  have h5 : l2[m].length = l0.length + 1 := by omega
  refine ⟨h5, ?_⟩
  rw [Nat.zero_add, chkR_iff]
  refine ⟨h4, fun n hn he => ?_⟩
  obtain rfl : n = m := by omega
  simpa [rd, hn] using h3
theorem net_eq (l0 : List S39) (l1 : List S37) (l2 : List (List Int)) (hs : Short l0 l1 l2) (k : Nat) (hk : 240 ≤ k) : talikref04_Net.f l0 l1 l2 = some (validB l0 l1 l2) := by
 have h' : talikref04_Net.f l0 l1 l2 = some (l0.all loopB && (l1.all (fun s => spanB s 0 1000) && (rowsR (l0.length + 1) l2 0 && finR l0 l1 l2))) := by
  unfold talikref04_Net.f
  rw [if_pos (of_short hs)]
 rw [h']
 congr 1
 unfold finR validB
 by_cases hl : l2.length = l0.length + 1
 ·
  have e1 : decide ((l2.length : Int) = (l0.length : Int) + 1) = true := by simp; omega
  rw [rows_ways l0 l2 hl, e1]
  simp only [hl, decide_true, Bool.and_true, Bool.true_and]
  cases l0.all loopB <;> cases (l1.all fun s => spanB s 0 1000) <;> cases waysB ((l0.length : Int) + 1) l2 <;> cases inB (l0.length : Int) 1 5 <;> cases inB (l1.length : Int) 1 72 <;> simp
 ·
  have e1 : decide ((l2.length : Int) = (l0.length : Int) + 1) = false := by simp; omega
  rw [e1]
  simp [hl]
end Go.Proofs.Ytipphcjgdebecaa.PA
namespace Go.Proofs.Ytipphcjgdebecaa.PA
open Go.RowKit Go.Proofs.YtipphcjgdebecaaW.PrintWords Go.Proofs.YtipphcjgdebecaaW.PrintLast Go.Proofs.YtipphcjgdebecaaW.PrintMore
attribute [local go_sem] qbd qbf max_two min_two qay qaz qbe qbg
def endL (L : S39) (l1 : List S37) (n : Nat) (most : Bool) : List S44 := (List.range n).map fun h : Nat => ⟨if most = true then L.f1.f1 else L.f1.f0, if most = true then (rd_T37 l1 h).f1 else (rd_T37 l1 h).f0, false⟩
theorem endL_succ (L : S39) (l1 : List S37) (n : Nat) (most : Bool) : endL L l1 (n + 1) most = endL L l1 n most ++ [⟨if most = true then L.f1.f1 else L.f1.f0, if most = true then (rd_T37 l1 n).f1 else (rd_T37 l1 n).f0, false⟩] := by simp [endL, List.range_succ]
theorem endL_length (L : S39) (l1 : List S37) (n : Nat) (most : Bool) : (endL L l1 n most).length = n := by simp [endL]
def talikref04_End.f (l0_0 : List (S39)) (l0_1 : List (S37)) (l0_2 : List (List Int)) (a1 : Int) (a2 : Int) (a3 : Bool) : Option ((List (S44))) := if 0 ≤ a1 ∧ a1 < l0_0.length ∧ 0 ≤ a2 ∧ a2 ≤ l0_1.length ∧ l0_1.length ≤ 1000 then some (endL (qaw l0_0 a1) l0_1 a2.toNat a3) else none
set_option maxHeartbeats 4000000 in
set_option maxRecDepth 100000 in
theorem talikref04_End.calls (A0_0 : Option Addr) (c0_0 : Nat) (l0_0 : List (S39)) (A0_1 : Option Addr) (c0_1 : Nat) (l0_1 : List (S37)) (A0_2 : Option Addr) (c0_2 : Nat) (l0_2 : List (List Int)) (a1 : Int) (a2 : Int) (a3 : Bool) (r : List (S44)) (w : World) (hr0_0 : Kd.C k39 w A0_0 l0_0.length l0_0) (hc0_0 : l0_0.length ≤ c0_0) (hr0_1 : Kd.C k37 w A0_1 l0_1.length l0_1) (hc0_1 : l0_1.length ≤ c0_1) (hr0_2 : Kd.C (Kd.slice 3 (Kd.int .i64)) w A0_2 l0_2.length l0_2) (hc0_2 : l0_2.length ≤ c0_2) (h : talikref04_End.f l0_0 l0_1 l0_2 a1 a2 a3 = some r) :
  Calls Try.prog 48 #[.agg #[.slice A0_0 l0_0.length c0_0, .slice A0_1 l0_1.length c0_1, .slice A0_2 l0_2.length c0_2], .int .i64 a1, .int .i64 a2, .bool a3] w fun e w' => ∃ v0_ : Value, e = .returned (v0_) ∧ Kd.R k44 44 w' w.heap.size (fun _ => True) v0_ r ∧ Below w.heap.size w w' := by
 unfold talikref04_End.f at h
 split at h
 case isFalse => cases h
 rename_i hc
 have h' := Option.some.inj h
 clear h
 obtain ⟨q0, q1, q2, q3, q4⟩ := hc
 obtain ⟨n, rfl⟩ := Int.eq_ofNat_of_zero_le q0
 obtain ⟨N, rfl⟩ := Int.eq_ofNat_of_zero_le q2
 rw [Int.toNat_natCast] at h'
 subst h'
 have hu26 := Try.underlying26
 have hu39 := Try.underlying39
 have hu37 := Try.underlying37
 have hu44 := Try.underlying44
 have HB := qab.mk (Below.refl w.heap.size w)
 obtain ⟨ad, e, hl0, hl1, hl2, hl3, hl4, hl5, hl6, hl7, hl8, hl9, hl10, hl11⟩ := at_T39 hr0_0 n q0 q1
 cases e
 clear hl0 hl1 hl4 hl5 hl6 hl7 hl8 hl9 hl10 hl11
 simp only [Int.toNat_natCast] at hl2 hl3
 obtain ⟨L, hL⟩ : ∃ L, L = qaw l0_0 (n : Int) := ⟨_, rfl⟩
 rw [← hL] at hl2 hl3 ⊢
 have HL := qab.mk (And.intro hl2 hl3)
 have HR1 := qab.mk hr0_1
 clear hl2 hl3 hL hr0_0 hr0_1 hr0_2
 go_enter Try.func48, Try.ntmps48
 go_wp2_with (first | (with_reducible refine qav (N := 4) rfl ?_); refine qau ?hg (N := 4) ?hd (cs := #[.slice (some ad) l0_0.length c0_0, .slice A0_1 l0_1.length c0_1, .slice A0_2 l0_2.length c0_2]) (t := 26) ?hr ?_; (case hd => rfl); (case hg => rfl); (case hr => first | (go_simp; done) | (go_simp; rfl)); intro gb hg_gb w2 hbox hb; have BKgb := qab.mk hbox; have n_HB := qab.mk (qag HB.out hb); have GEgb : w.heap.size ≤ gb := (by rw [hg_gb]; exact HB.out.size); clear HB; have HB := n_HB; clear n_HB; have hfgb := qad BKgb.out; have hcgb_0 : w2.cell? ⟨gb, 0, none⟩ = some (.slice (some ad) l0_0.length c0_0) := (qaa BKgb.out 0).trans rfl; have hcgb_1 : w2.cell? ⟨gb, 1, none⟩ = some (.slice A0_1 l0_1.length c0_1) := (qaa BKgb.out 1).trans rfl; have hcgb_2 : w2.cell? ⟨gb, 2, none⟩ = some (.slice A0_2 l0_2.length c0_2) := (qaa BKgb.out 2).trans rfl; clear hbox hb hg_gb)
 clear hfgb hcgb_0 hcgb_1 hcgb_2
 have HO0 : qab (Kd.R k44 44 w2 w.heap.size (fun _ => True) (.slice none 0 0) []) := ⟨Kd.R_nil _ _ _ _ _⟩
 go_loopw [9, 10] (fun s9 s10 wr => ∃ (j : Nat) (vo : Value), j ≤ N ∧ s9 = vo ∧ s10 = .int .i64 j ∧ qab (Kd.R k44 44 wr w.heap.size (fun _ => True) vo (endL L l0_1 j a3)) ∧ qab (wr.heap[gb]? = some (.cells #[.slice (some ad) l0_0.length c0_0, .slice A0_1 l0_1.length c0_1, .slice A0_2 l0_2.length c0_2] 26 (0, 0))) ∧ qab (Below w.heap.size w wr)) (fun _ s _ => N - (intOf s).toNat)
 case atStart => exact ⟨0, _, by omega, rfl, rfl, HO0, BKgb, HB⟩
 case round =>
  clear HO0 BKgb HB
  obtain ⟨j, vo, hj, rfl, rfl, HO, BKgb, HBB⟩ := hrel
  by_cases hlt : j < N
  ·
   have hlt1 : (j : Int) < N := by omega
   have hj0 : (0 : Int) ≤ j := by omega
   have hjl : (j : Int) < l0_1.length := by omega
   have hn0 : (0 : Int) ≤ n := q0
   have hd : decide ((j : Int) < N) = true := decide_eq_true hlt1
   have hsc := endL_succ L l0_1 j a3
   have hxl := endL_length L l0_1 j a3
   generalize endL L l0_1 j a3 = xs at hsc hxl HO
   obtain ⟨wO, rfl⟩ : ∃ wo : World, wo = wr := ⟨_, rfl⟩
   obtain ⟨ad1, e, hf0, hf1⟩ := at_T37 (Kd.qai HR1.out HBB.out) j hj0 hjl
   cases e
   simp only [Int.toNat_natCast] at hf0 hf1
   generalize rd_T37 l0_1 (j : Int) = F at hf0 hf1 hsc
   have htup : ∀ W, Below wO.heap.size wO W → (W.cell? ⟨gb, 0, none⟩ = some (.slice (some ad) l0_0.length c0_0) ∧ W.cell? ⟨gb, 1, none⟩ = some (.slice (some ad1) l0_1.length c0_1) ∧ W.cell? ⟨(ad.add (n * 12)).block, (ad.add (n * 12)).off + 2, none⟩ = some (.int .i64 L.f1.f0) ∧ W.cell? ⟨(ad.add (n * 12)).block, (ad.add (n * 12)).off + 3, none⟩ = some (.int .i64 L.f1.f1) ∧ W.cell? (ad1.add (j * 2)) = some (.int .i64 F.f0) ∧ W.cell? ⟨(ad1.add (j * 2)).block, (ad1.add (j * 2)).off + 1, none⟩ = some (.int .i64 F.f1) ∧ qab (Below wO.heap.size wO W)) := fun W h => ⟨qaa (qaj BKgb.out h) 0, qaa (qaj BKgb.out h) 1, ((qag HBB.out h).cell (World.block_lt_of_cell? w _ HL.out.1)).trans HL.out.1, ((qag HBB.out h).cell (World.block_lt_of_cell? w _ HL.out.2)).trans HL.out.2, (h.cell (World.block_lt_of_cell? wO _ hf0)).trans hf0, (h.cell (World.block_lt_of_cell? wO _ hf1)).trans hf1, ⟨h⟩⟩
   have HT := qab.mk htup
   clear htup hf0 hf1
   have hw1 : IntKind.i64.wrap ((j : Int) + 1) = (j : Int) + 1 := by rw [i64_w]; unfold wrap64; omega
   go_upto_region 5 with fail
   refine start_ (n := 16) (S := (fun w' => (w'.cell? ⟨gb, 0, none⟩ = some (.slice (some ad) l0_0.length c0_0) ∧ w'.cell? ⟨gb, 1, none⟩ = some (.slice (some ad1) l0_1.length c0_1) ∧ w'.cell? ⟨(ad.add (n * 12)).block, (ad.add (n * 12)).off + 2, none⟩ = some (.int .i64 L.f1.f0) ∧ w'.cell? ⟨(ad.add (n * 12)).block, (ad.add (n * 12)).off + 3, none⟩ = some (.int .i64 L.f1.f1) ∧ w'.cell? (ad1.add (j * 2)) = some (.int .i64 F.f0) ∧ w'.cell? ⟨(ad1.add (j * 2)).block, (ad1.add (j * 2)).off + 1, none⟩ = some (.int .i64 F.f1) ∧ qab (Below wO.heap.size wO w')))) (ds := [15]) (msk 16 0) (by kernel_rfl) rfl rfl (HT.out wO.drew (below_drew (Below.refl _ _))) (fun hHeld => ?_)
   refine pure_ (i := 0) (N := some 17) (v := ?_) (a' := ?_) (msk 16 1) rfl rfl (by kernel_rfl) (fun _ _ _ h => h) (Or.inl ⟨by rfl, ?_⟩) ?_ ?_; rotate_left; (focus (intro w'; go_simp; with_reducible rfl)); rotate_left; (focus (simp only [Act.put, List.setIfInBounds_toArray, List.set_cons_zero, List.set_cons_succ, i64_w, i32_w]; rfl))
   refine take_ (i := 1) (N := some 18) (v := ?_) (a' := ?_) (msk 16 2) rfl rfl (by kernel_rfl) (fun _ _ _ h => h) (Or.inl ⟨by rfl, ?_⟩) hHeld ?_ ?_; rotate_left; (focus (rintro w' ⟨s0, s1, s2, s3, s4, s5, s6⟩; go_simp; with_reducible rfl)); rotate_left; (focus (simp only [Act.put, List.setIfInBounds_toArray, List.set_cons_zero, List.set_cons_succ, i64_w, i32_w]; rfl))
   refine pure_ (i := 2) (N := some 19) (v := ?_) (a' := ?_) (msk 16 3) rfl rfl (by kernel_rfl) (fun _ _ _ h => h) (Or.inl ⟨by rfl, ?_⟩) ?_ ?_; rotate_left; (focus (intro w'; go_simp; with_reducible rfl)); rotate_left; (focus (simp only [Act.put, List.setIfInBounds_toArray, List.set_cons_zero, List.set_cons_succ, i64_w, i32_w]; rfl))
   refine pure_ (i := 3) (N := some 20) (v := ?_) (a' := ?_) (msk 16 4) rfl rfl (by kernel_rfl) (fun _ _ _ h => h) (Or.inl ⟨by rfl, ?_⟩) ?_ ?_; rotate_left; (focus (intro w'; go_simp; with_reducible rfl)); rotate_left; (focus (simp only [Act.put, List.setIfInBounds_toArray, List.set_cons_zero, List.set_cons_succ, i64_w, i32_w]; rfl))
   refine pure_ (i := 4) (N := some 21) (v := ?_) (a' := ?_) (msk 16 5) rfl rfl (by kernel_rfl) (fun _ _ _ h => h) (Or.inl ⟨by rfl, ?_⟩) ?_ ?_; rotate_left; (focus (intro w'; go_simp; with_reducible rfl)); rotate_left; (focus (simp only [Act.put, List.setIfInBounds_toArray, List.set_cons_zero, List.set_cons_succ, i64_w, i32_w]; rfl))
   refine pure_ (i := 5) (N := some 22) (v := ?_) (a' := ?_) (msk 16 6) rfl rfl (by kernel_rfl) (fun _ _ _ h => h) (Or.inl ⟨by rfl, ?_⟩) ?_ ?_; rotate_left; (focus (intro w'; go_simp; with_reducible rfl)); rotate_left; (focus (simp only [Act.put, List.setIfInBounds_toArray, List.set_cons_zero, List.set_cons_succ, i64_w, i32_w]; rfl))
   refine take_ (i := 6) (N := some 23) (v := ?_) (a' := ?_) (msk 16 7) rfl rfl (by kernel_rfl) (fun _ _ _ h => h) (Or.inl ⟨by rfl, ?_⟩) hHeld ?_ ?_; rotate_left; (focus (rintro w' ⟨s0, s1, s2, s3, s4, s5, s6⟩; go_simp; with_reducible rfl)); rotate_left; (focus (simp only [Act.put, List.setIfInBounds_toArray, List.set_cons_zero, List.set_cons_succ, i64_w, i32_w]; rfl))
   refine pure_ (i := 7) (N := some 24) (v := ?_) (a' := ?_) (msk 16 8) rfl rfl (by kernel_rfl) (fun _ _ _ h => h) (Or.inl ⟨by rfl, ?_⟩) ?_ ?_; rotate_left; (focus (intro w'; go_simp; with_reducible rfl)); rotate_left; (focus (simp only [Act.put, List.setIfInBounds_toArray, List.set_cons_zero, List.set_cons_succ, i64_w, i32_w]; rfl))
   refine take_ (i := 8) (N := some 25) (v := ?_) (a' := ?_) (msk 16 9) rfl rfl (by kernel_rfl) (fun _ _ _ h => h) (Or.inl ⟨by rfl, ?_⟩) hHeld ?_ ?_; rotate_left; (focus (rintro w' ⟨s0, s1, s2, s3, s4, s5, s6⟩; go_simp; with_reducible rfl)); rotate_left; (focus (simp only [Act.put, List.setIfInBounds_toArray, List.set_cons_zero, List.set_cons_succ, i64_w, i32_w]; rfl))
   refine pure_ (i := 9) (N := some 26) (v := ?_) (a' := ?_) (msk 16 10) rfl rfl (by kernel_rfl) (fun _ _ _ h => h) (Or.inl ⟨by rfl, ?_⟩) ?_ ?_; rotate_left; (focus (intro w'; go_simp; with_reducible rfl)); rotate_left; (focus (simp only [Act.put, List.setIfInBounds_toArray, List.set_cons_zero, List.set_cons_succ, i64_w, i32_w]; rfl))
   refine pure_ (i := 10) (N := some 27) (v := ?_) (a' := ?_) (msk 16 11) rfl rfl (by kernel_rfl) (fun _ _ _ h => h) (Or.inl ⟨by rfl, ?_⟩) ?_ ?_; rotate_left; (focus (intro w'; go_simp; with_reducible rfl)); rotate_left; (focus (simp only [Act.put, List.setIfInBounds_toArray, List.set_cons_zero, List.set_cons_succ, i64_w, i32_w]; rfl))
   refine pure_ (i := 11) (N := some 28) (v := ?_) (a' := ?_) (msk 16 12) rfl rfl (by kernel_rfl) (fun _ _ _ h => h) (Or.inl ⟨by rfl, ?_⟩) ?_ ?_; rotate_left; (focus (intro w'; go_simp; with_reducible rfl)); rotate_left; (focus (simp only [Act.put, List.setIfInBounds_toArray, List.set_cons_zero, List.set_cons_succ, i64_w, i32_w]; rfl))
   refine take_ (i := 12) (N := some 29) (v := ?_) (a' := ?_) (msk 16 13) rfl rfl (by kernel_rfl) (fun _ _ _ h => h) (Or.inl ⟨by rfl, ?_⟩) hHeld ?_ ?_; rotate_left; (focus (rintro w' ⟨s0, s1, s2, s3, s4, s5, s6⟩; go_simp; with_reducible rfl)); rotate_left; (focus (simp only [Act.put, List.setIfInBounds_toArray, List.set_cons_zero, List.set_cons_succ, i64_w, i32_w]; rfl))
   refine pure_ (i := 13) (N := some 30) (v := ?_) (a' := ?_) (msk 16 14) rfl rfl (by kernel_rfl) (fun _ _ _ h => h) (Or.inl ⟨by rfl, ?_⟩) ?_ ?_; rotate_left; (focus (intro w'; go_simp; with_reducible rfl)); rotate_left; (focus (simp only [Act.put, List.setIfInBounds_toArray, List.set_cons_zero, List.set_cons_succ, i64_w, i32_w]; rfl))
   refine one_ (i := 14) (N := some 11) (msk 16 15) rfl rfl (by kernel_rfl) (by decide) (fun K hK => ?_); refine box_step ?hg (N := 11) ?hd (cs := #[.int .i64 0, .int .i64 0, .bool false]) (t := 44) ?hr ?_; (case hd => rfl); (case hg => rfl); (case hr => first | (go_simp; done) | (go_simp; rfl)); intro g hg_ w3 hbox hb
   have hge : wO.heap.size ≤ g := (by rw [hg_]; exact Nat.le_refl _); clear hg_; have HBK := qab.mk hbox; have HWB := qab.mk (qag (below_drew (Below.refl wO.heap.size wO)) hb); clear hbox hb; have f3 := qad HBK.out; have b0 : w3.cell? ⟨g, 0, none⟩ = some (.int .i64 0) := qaa HBK.out 0; have b1 : w3.cell? ⟨g, 1, none⟩ = some (.int .i64 0) := qaa HBK.out 1; have b2 : w3.cell? ⟨g, 2, none⟩ = some (.bool false) := qaa HBK.out 2
   refine hK.out _ _ (HT.out w3 HWB.out) (fun hHeld => ?_); clear hK K; refine norm_ (a' := ?_) ?_ ?_; rotate_left; (focus (show Act.put _ (some 11) _ = _; simp only [Act.put, List.setIfInBounds_toArray, List.set_cons_zero, List.set_cons_succ, i64_w, i32_w]; rfl))
   refine last_ (i := 15) (N := none) (msk 16 16) rfl rfl (by kernel_rfl) (by decide) (fun K hK => ?_); refine skip_ (w1 := ?_) (by rfl) rfl ?_ ?_; rotate_left; (focus (go_simp; rfl)); refine hK.out _ _ ?_; clear hK K hHeld
   have hb4 := qah (j := 2) (v := .bool false) (qah (j := 1) (v := .int .i64 F.f0) (qah (j := 0) (v := .int .i64 L.f1.f0) HWB.out hge) hge) hge; have hbk4 := qbc (qbc (qbc HBK.out 0 (.int .i64 L.f1.f0)) 1 (.int .i64 F.f0)) 2 (.bool false)
   generalize ((w3.setCell ⟨g, 0, none⟩ (.int .i64 L.f1.f0)).setCell ⟨g, 1, none⟩ (.int .i64 F.f0)).setCell ⟨g, 2, none⟩ (.bool false) = w4 at hb4 hbk4 ⊢
   have HW4 := qab.mk hb4; have HB4 := qab.mk hbk4; clear hb4 hbk4 HBK HWB f3 b0 b1 b2
   refine done_ (by kernel_rfl) ?_
   cases a3 with
   | true =>
    go_upto_region 7 with fail
    refine start_ (n := 15) (S := (fun w' => (w'.cell? ⟨gb, 0, none⟩ = some (.slice (some ad) l0_0.length c0_0) ∧ w'.cell? ⟨gb, 1, none⟩ = some (.slice (some ad1) l0_1.length c0_1) ∧ w'.cell? ⟨(ad.add (n * 12)).block, (ad.add (n * 12)).off + 2, none⟩ = some (.int .i64 L.f1.f0) ∧ w'.cell? ⟨(ad.add (n * 12)).block, (ad.add (n * 12)).off + 3, none⟩ = some (.int .i64 L.f1.f1) ∧ w'.cell? (ad1.add (j * 2)) = some (.int .i64 F.f0) ∧ w'.cell? ⟨(ad1.add (j * 2)).block, (ad1.add (j * 2)).off + 1, none⟩ = some (.int .i64 F.f1) ∧ qab (Below wO.heap.size wO w')))) (ds := [14]) (msk 15 0) (by kernel_rfl) rfl rfl (HT.out w4.drew (below_drew HW4.out)) (fun hHeld => ?_)
    have hwd := below_drew HW4.out; have hbd := qaj HB4.out (below_drew (Below.refl w4.heap.size w4)); generalize w4.drew = wd at hwd hbd hHeld ⊢; have HWD := qab.mk hwd; have HBD := qab.mk hbd; clear hwd hbd; have f4 := qad HBD.out; have e0 : wd.cell? ⟨g, 0, none⟩ = some (.int .i64 L.f1.f0) := (qaa HBD.out 0).trans rfl; have e1 : wd.cell? ⟨g, 1, none⟩ = some (.int .i64 F.f0) := (qaa HBD.out 1).trans rfl; have e2 : wd.cell? ⟨g, 2, none⟩ = some (.bool false) := (qaa HBD.out 2).trans rfl
    refine pure_ (i := 0) (N := some 32) (v := ?_) (a' := ?_) (msk 15 1) rfl rfl (by kernel_rfl) (fun _ _ _ h => h) (Or.inl ⟨by rfl, ?_⟩) ?_ ?_; rotate_left; (focus (intro w'; go_simp; with_reducible rfl)); rotate_left; (focus (simp only [Act.put, List.setIfInBounds_toArray, List.set_cons_zero, List.set_cons_succ, i64_w, i32_w]; rfl))
    refine take_ (i := 1) (N := some 33) (v := ?_) (a' := ?_) (msk 15 2) rfl rfl (by kernel_rfl) (fun _ _ _ h => h) (Or.inl ⟨by rfl, ?_⟩) hHeld ?_ ?_; rotate_left; (focus (rintro w' ⟨s0, s1, s2, s3, s4, s5, s6⟩; go_simp; with_reducible rfl)); rotate_left; (focus (simp only [Act.put, List.setIfInBounds_toArray, List.set_cons_zero, List.set_cons_succ, i64_w, i32_w]; rfl))
    refine pure_ (i := 2) (N := some 34) (v := ?_) (a' := ?_) (msk 15 3) rfl rfl (by kernel_rfl) (fun _ _ _ h => h) (Or.inl ⟨by rfl, ?_⟩) ?_ ?_; rotate_left; (focus (intro w'; go_simp; with_reducible rfl)); rotate_left; (focus (simp only [Act.put, List.setIfInBounds_toArray, List.set_cons_zero, List.set_cons_succ, i64_w, i32_w]; rfl))
    refine pure_ (i := 3) (N := some 35) (v := ?_) (a' := ?_) (msk 15 4) rfl rfl (by kernel_rfl) (fun _ _ _ h => h) (Or.inl ⟨by rfl, ?_⟩) ?_ ?_; rotate_left; (focus (intro w'; go_simp; with_reducible rfl)); rotate_left; (focus (simp only [Act.put, List.setIfInBounds_toArray, List.set_cons_zero, List.set_cons_succ, i64_w, i32_w]; rfl))
    refine pure_ (i := 4) (N := some 36) (v := ?_) (a' := ?_) (msk 15 5) rfl rfl (by kernel_rfl) (fun _ _ _ h => h) (Or.inl ⟨by rfl, ?_⟩) ?_ ?_; rotate_left; (focus (intro w'; go_simp; with_reducible rfl)); rotate_left; (focus (simp only [Act.put, List.setIfInBounds_toArray, List.set_cons_zero, List.set_cons_succ, i64_w, i32_w]; rfl))
    refine pure_ (i := 5) (N := some 37) (v := ?_) (a' := ?_) (msk 15 6) rfl rfl (by kernel_rfl) (fun _ _ _ h => h) (Or.inl ⟨by rfl, ?_⟩) ?_ ?_; rotate_left; (focus (intro w'; go_simp; with_reducible rfl)); rotate_left; (focus (simp only [Act.put, List.setIfInBounds_toArray, List.set_cons_zero, List.set_cons_succ, i64_w, i32_w]; rfl))
    refine take_ (i := 6) (N := some 38) (v := ?_) (a' := ?_) (msk 15 7) rfl rfl (by kernel_rfl) (fun _ _ _ h => h) (Or.inl ⟨by rfl, ?_⟩) hHeld ?_ ?_; rotate_left; (focus (rintro w' ⟨s0, s1, s2, s3, s4, s5, s6⟩; go_simp; with_reducible rfl)); rotate_left; (focus (simp only [Act.put, List.setIfInBounds_toArray, List.set_cons_zero, List.set_cons_succ, i64_w, i32_w]; rfl))
    refine pure_ (i := 7) (N := some 39) (v := ?_) (a' := ?_) (msk 15 8) rfl rfl (by kernel_rfl) (fun _ _ _ h => h) (Or.inl ⟨by rfl, ?_⟩) ?_ ?_; rotate_left; (focus (intro w'; go_simp; with_reducible rfl)); rotate_left; (focus (simp only [Act.put, List.setIfInBounds_toArray, List.set_cons_zero, List.set_cons_succ, i64_w, i32_w]; rfl))
    refine take_ (i := 8) (N := some 40) (v := ?_) (a' := ?_) (msk 15 9) rfl rfl (by kernel_rfl) (fun _ _ _ h => h) (Or.inl ⟨by rfl, ?_⟩) hHeld ?_ ?_; rotate_left; (focus (rintro w' ⟨s0, s1, s2, s3, s4, s5, s6⟩; go_simp; with_reducible rfl)); rotate_left; (focus (simp only [Act.put, List.setIfInBounds_toArray, List.set_cons_zero, List.set_cons_succ, i64_w, i32_w]; rfl))
    refine pure_ (i := 9) (N := some 41) (v := ?_) (a' := ?_) (msk 15 10) rfl rfl (by kernel_rfl) (fun _ _ _ h => h) (Or.inl ⟨by rfl, ?_⟩) ?_ ?_; rotate_left; (focus (intro w'; go_simp; with_reducible rfl)); rotate_left; (focus (simp only [Act.put, List.setIfInBounds_toArray, List.set_cons_zero, List.set_cons_succ, i64_w, i32_w]; rfl))
    refine pure_ (i := 10) (N := some 42) (v := ?_) (a' := ?_) (msk 15 11) rfl rfl (by kernel_rfl) (fun _ _ _ h => h) (Or.inl ⟨by rfl, ?_⟩) ?_ ?_; rotate_left; (focus (intro w'; go_simp; with_reducible rfl)); rotate_left; (focus (simp only [Act.put, List.setIfInBounds_toArray, List.set_cons_zero, List.set_cons_succ, i64_w, i32_w]; rfl))
    refine pure_ (i := 11) (N := some 43) (v := ?_) (a' := ?_) (msk 15 12) rfl rfl (by kernel_rfl) (fun _ _ _ h => h) (Or.inl ⟨by rfl, ?_⟩) ?_ ?_; rotate_left; (focus (intro w'; go_simp; with_reducible rfl)); rotate_left; (focus (simp only [Act.put, List.setIfInBounds_toArray, List.set_cons_zero, List.set_cons_succ, i64_w, i32_w]; rfl))
    refine take_ (i := 12) (N := some 44) (v := ?_) (a' := ?_) (msk 15 13) rfl rfl (by kernel_rfl) (fun _ _ _ h => h) (Or.inl ⟨by rfl, ?_⟩) hHeld ?_ ?_; rotate_left; (focus (rintro w' ⟨s0, s1, s2, s3, s4, s5, s6⟩; go_simp; with_reducible rfl)); rotate_left; (focus (simp only [Act.put, List.setIfInBounds_toArray, List.set_cons_zero, List.set_cons_succ, i64_w, i32_w]; rfl))
    refine pure_ (i := 13) (N := some 45) (v := ?_) (a' := ?_) (msk 15 14) rfl rfl (by kernel_rfl) (fun _ _ _ h => h) (Or.inl ⟨by rfl, ?_⟩) ?_ ?_; rotate_left; (focus (intro w'; go_simp; with_reducible rfl)); rotate_left; (focus (simp only [Act.put, List.setIfInBounds_toArray, List.set_cons_zero, List.set_cons_succ, i64_w, i32_w]; rfl))
    refine last_ (i := 14) (N := none) (msk 15 15) rfl rfl (by kernel_rfl) (by decide) (fun K hK => ?_); refine skip_ (w1 := ?_) (by rfl) rfl ?_ ?_; rotate_left; (focus (go_simp; rfl)); refine hK.out _ _ ?_; clear hK K hHeld
    have hb5 := qah (j := 2) (v := .bool false) (qah (j := 1) (v := .int .i64 F.f1) (qah (j := 0) (v := .int .i64 L.f1.f1) HWD.out hge) hge) hge; have hbk5 := qbc (qbc (qbc HBD.out 0 (.int .i64 L.f1.f1)) 1 (.int .i64 F.f1)) 2 (.bool false)
    generalize ((wd.setCell ⟨g, 0, none⟩ (.int .i64 L.f1.f1)).setCell ⟨g, 1, none⟩ (.int .i64 F.f1)).setCell ⟨g, 2, none⟩ (.bool false) = w5 at hb5 hbk5 ⊢
    have HW5 := qab.mk hb5; have HB5 := qab.mk hbk5; clear hb5 hbk5 HBD HWD f4 e0 e1 e2
    refine done_ (by kernel_rfl) ?_
    have hx : endL L l0_1 (j + 1) true = xs ++ [⟨L.f1.f1, F.f1, false⟩] := hsc
    have b0 : w5.cell? ⟨g, 0, none⟩ = some (.int .i64 (⟨L.f1.f1, F.f1, false⟩ : S44).f0) := qaa HB5.out 0; have b1 : w5.cell? ⟨g, 1, none⟩ = some (.int .i64 (⟨L.f1.f1, F.f1, false⟩ : S44).f1) := qaa HB5.out 1; have b2 : w5.cell? ⟨g, 2, none⟩ = some (.bool (⟨L.f1.f1, F.f1, false⟩ : S44).f2) := qaa HB5.out 2
    have HO5 := qab.mk (Kd.R_below HO.out HW5.out); have HBw := qab.mk (qag HBB.out HW5.out); have HBg := qab.mk (qaj BKgb.out HW5.out)
    go_wp2_with ((with_reducible refine gate_builtin (b := .append) (xs := #[.tmp 46, .tmp 48]) rfl ?_); at_builtin; refine Kd.R_append k44 (w0 := w) w.heap.size rfl (.tmp 46) (.tmp 48) 27 44 (.agg #[.int .i64 0, .int .i64 0, .bool false]) 24 rfl Try.underlying27 info44 rfl (by decide) (by omega) u9 xs (⟨L.f1.f1, F.f1, false⟩ : S44) [.int .i64 (⟨L.f1.f1, F.f1, false⟩ : S44).f0, .int .i64 (⟨L.f1.f1, F.f1, false⟩ : S44).f1, .bool (⟨L.f1.f1, F.f1, false⟩ : S44).f2] (fun _ => True) (fun _ => False) rfl rfl ?aP (fun _ hk => hk.elim) ?aF ?aO ?aB ?aS ?aL ?_; (case aP => exact k44_mkM _ _ _ _); (case aF => exact (fun _ _ => trivial)); (case aO => exact HO5.out); (case aB => exact HBw.out); (case aS => exact HBw.out.size); (case aL => omega); intro v6 w6 ho hB hg hat)
    have hbe := blk_grown HBg.out hg (Kd.R_ne HO5.out HBg.out (by decide))
    have HBE := qab.mk hbe
    have HFO := qab.mk ho
    have HFB := qab.mk hB
    clear ho hB hg hat hbe
    go_roundw
    case rel => exact ⟨j + 1, _, by omega, rfl, by go_num, ⟨by rw [hx]; exact HFO.out⟩, HBE, HFB⟩
    case measure => simp [intOf]; omega
   | false =>
    have hx : endL L l0_1 (j + 1) false = xs ++ [⟨L.f1.f0, F.f0, false⟩] := hsc
    have b0 : w4.cell? ⟨g, 0, none⟩ = some (.int .i64 (⟨L.f1.f0, F.f0, false⟩ : S44).f0) := qaa HB4.out 0; have b1 : w4.cell? ⟨g, 1, none⟩ = some (.int .i64 (⟨L.f1.f0, F.f0, false⟩ : S44).f1) := qaa HB4.out 1; have b2 : w4.cell? ⟨g, 2, none⟩ = some (.bool (⟨L.f1.f0, F.f0, false⟩ : S44).f2) := qaa HB4.out 2
    have HO5 := qab.mk (Kd.R_below HO.out HW4.out); have HBw := qab.mk (qag HBB.out HW4.out); have HBg := qab.mk (qaj BKgb.out HW4.out)
    go_wp2_with ((with_reducible refine gate_builtin (b := .append) (xs := #[.tmp 46, .tmp 48]) rfl ?_); at_builtin; refine Kd.R_append k44 (w0 := w) w.heap.size rfl (.tmp 46) (.tmp 48) 27 44 (.agg #[.int .i64 0, .int .i64 0, .bool false]) 24 rfl Try.underlying27 info44 rfl (by decide) (by omega) u9 xs (⟨L.f1.f0, F.f0, false⟩ : S44) [.int .i64 (⟨L.f1.f0, F.f0, false⟩ : S44).f0, .int .i64 (⟨L.f1.f0, F.f0, false⟩ : S44).f1, .bool (⟨L.f1.f0, F.f0, false⟩ : S44).f2] (fun _ => True) (fun _ => False) rfl rfl ?aP (fun _ hk => hk.elim) ?aF ?aO ?aB ?aS ?aL ?_; (case aP => exact k44_mkM _ _ _ _); (case aF => exact (fun _ _ => trivial)); (case aO => exact HO5.out); (case aB => exact HBw.out); (case aS => exact HBw.out.size); (case aL => omega); intro v6 w6 ho hB hg hat)
    have hbe := blk_grown HBg.out hg (Kd.R_ne HO5.out HBg.out (by decide))
    have HBE := qab.mk hbe
    have HFO := qab.mk ho
    have HFB := qab.mk hB
    clear ho hB hg hat hbe
    go_roundw
    case rel => exact ⟨j + 1, _, by omega, rfl, by go_num, ⟨by rw [hx]; exact HFO.out⟩, HBE, HFB⟩
    case measure => simp [intOf]; omega
  ·
   obtain rfl : j = N := by omega
   have hd : decide ((j : Int) < j) = false := decide_eq_false (by omega)
   go_wp2_with fail
   go_ret
   exact ⟨_, rfl, HO.out, HBB.out⟩
end Go.Proofs.Ytipphcjgdebecaa.PA
