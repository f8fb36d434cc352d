/- What functions of the program answer. No condition. -/
import Derived.Test.YtipphcjgdebecaaSC
import Derived.Test.YtipphcjgdebecaaSF
import Derived.Test.YtipphcjgdebecaaPnA
import Derived.Test.YtipphcjgdebecaaSD
import Derived.RangeFuncNested
import Derived.RangeFuncBound
import Derived.RangeFuncCalls
import Derived.RangeFuncLeaves
import Derived.RangeFuncBox
import Derived.Shelf.Abstract
import Derived.Shelf.RegionOpen
import Derived.OwnWalkIn
import Derived.TacticsInMore
import Derived.LoopNIn
import Derived.LoopIn
import Derived.Recover
import Derived.Defers
import Derived.WalkLawsBesides
import Derived.WalkSmall
import Derived.Test.YtipphcjgdebecaaSJ
import Derived.Test.YtipphcjgdebecaaSK
import Derived.Test.YtipphcjgdebecaaSL
import Derived.Test.YtipphcjgdebecaaSE
import Derived.Test.YtipphcjgdebecaaSH
import Derived.Test.YtipphcjgdebecaaSG
import Derived.Deep.Slices
import Derived.Lib.SmallJoins
import Derived.ChangeOld
import Derived.ProofKit
set_option linter.all false
set_option maxRecDepth 100000
set_option maxHeartbeats 8000000
namespace Go.Proofs.Ytipphcjgdebecaa.PA
open Go.RowKit Go.Proofs.YtipphcjgdebecaaW.PrintWords Go.Proofs.YtipphcjgdebecaaW.PrintLast Go.Proofs.YtipphcjgdebecaaW.PrintMore
attribute [local go_sem] qaw qay max_two min_two qas qat qax qaz
structure BIN (w : World) (gb : Nat) (nb : Array Value) (W : World) : Prop where
 b : W.heap[gb]? = some (.cells nb 26 (0, 0))
 hb : Below w.heap.size w W
theorem BIN.below {w W W' : World} {gb : Nat} {nb : Array Value} (h : BIN w gb nb W) (hb : Below W.heap.size W W') : BIN w gb nb W' := ⟨qag h.b hb, qad h.hb hb⟩
theorem all_step {α : Type} (f : α → Bool) (l : List α) (d : α) (j : Nat) (hj : j < l.length) : (l.drop j).all f = (f (l.getD j d) && (l.drop (j + 1)).all f) := by
 rw [List.drop_eq_getElem_cons hj, List.all_cons]
 simp [hj]
theorem chkR_step (i : Nat) (row : List Int) (j : Nat) (hj : j < row.length) : chkR i (row.drop j) j = (inB (rd row j) 0 72 && ((i != j || rd row j == 0) && chkR i (row.drop (j + 1)) (j + 1))) := by
 rw [List.drop_eq_getElem_cons hj]
 have : rd row (j : Int) = row[j] := by simp [rd, hj]
 rw [this]
 rfl
theorem rowsR_step (n : Nat) (l : List (List Int)) (i : Nat) (hi : i < l.length) : rowsR n (l.drop i) i = (decide ((rd_L1 l i).length = n) && (chkR i (rd_L1 l i) 0 && rowsR n (l.drop (i + 1)) (i + 1))) := by
 rw [List.drop_eq_getElem_cons hi, rd_L1_at l i hi]
 rfl
theorem in60 (a lo hi : Int) (W : World) : Calls Try.prog 60 #[.int .i64 a, .int .i64 lo, .int .i64 hi] W fun e w' => e = .returned (.bool (inB a lo hi)) ∧ Below W.heap.size W w' :=
 talikref04_in_to (talikref04_in.calls _ _ _ _ W (rin_eq a lo hi))
def talikref04_Net.f (l0_0 : List (S39)) (l0_1 : List (S37)) (l0_2 : List (List Int)) : Option (Bool) := if shortB l0_0 l0_1 l0_2 = true then some (l0_0.all loopB && (l0_1.all (fun s => spanB s 0 1000) && (rowsR (l0_0.length + 1) l0_2 0 && finR l0_0 l0_1 l0_2))) else none
theorem talikref04_Net.calls (A0_0 : Option Addr) (c0_0 : Nat) (l0_0 : List (S39)) (A0_1 : Option Addr) (c0_1 : Nat) (l0_1 : List (S37)) (A0_2 : Option Addr) (c0_2 : Nat) (l0_2 : List (List Int)) (r : Bool) (w : World) (hr0_0 : Kd.C k39 w A0_0 l0_0.length l0_0) (hc0_0 : l0_0.length ≤ c0_0) (hr0_1 : Kd.C k37 w A0_1 l0_1.length l0_1) (hc0_1 : l0_1.length ≤ c0_1) (hr0_2 : Kd.C (Kd.slice 3 (Kd.int .i64)) w A0_2 l0_2.length l0_2) (hc0_2 : l0_2.length ≤ c0_2) (h : talikref04_Net.f l0_0 l0_1 l0_2 = some r) :
  Calls Try.prog 19 #[.agg #[.slice A0_0 l0_0.length c0_0, .slice A0_1 l0_1.length c0_1, .slice A0_2 l0_2.length c0_2]] w fun e w' => e = .returned (.bool r) ∧ Below w.heap.size w w' := by
 unfold talikref04_Net.f at h
 split at h
 case isFalse => cases h
 rename_i hsb
 have hs := short_of hsb
 have H0 := hs.h0
 have H1 := hs.h1
 have H2 := hs.h2
 have HRW := qab.mk hs.hr
 have h' := Option.some.inj h
 clear h hs hsb
 have hu26 := Try.underlying26
 have hu39 := Try.underlying39
 have hu37 := Try.underlying37
 have HB := qab.mk (Below.refl w.heap.size w)
 have HR0 := qab.mk hr0_0
 have HR1 := qab.mk hr0_1
 have HR2 := qab.mk hr0_2
 clear hr0_0 hr0_1 hr0_2
 obtain ⟨R3, hR3⟩ : ∃ x, x = finR l0_0 l0_1 l0_2 := ⟨_, rfl⟩
 obtain ⟨R2, hR2⟩ : ∃ x, x = (rowsR (l0_0.length + 1) l0_2 0 && R3) := ⟨_, rfl⟩
 obtain ⟨R1, hR1⟩ : ∃ x, x = (l0_1.all (fun s => spanB s 0 1000) && R2) := ⟨_, rfl⟩
 have HF0 : qab (((l0_0.drop 0).all loopB && R1) = r) := ⟨by rw [List.drop_zero, hR1, hR2, hR3]; exact h'⟩
 have HE1 := qab.mk hR1
 have HE2 := qab.mk hR2
 have HE3 := qab.mk hR3
 clear h' hR1 hR2 hR3
 go_enter Try.func19, Try.ntmps19
 go_wp2_with (first | (with_reducible refine qan (N := 1) rfl ?_); refine qam ?hg (N := 1) ?hd (cs := #[.slice A0_0 l0_0.length c0_0, .slice A0_1 l0_1.length c0_1, .slice A0_2 l0_2.length c0_2]) (t := 26) ?hr ?_; (case hd => rfl); (case hg => rfl); (case hr => first | (go_simp; done) | (go_simp; rfl)); intro gb hg_gb w2 hbox hb; have BKgb := qab.mk hbox; have n_HB := qab.mk (qad HB.out hb); have GEgb : w.heap.size ≤ gb := (by rw [hg_gb]; exact HB.out.size); clear HB; have HB := n_HB; clear n_HB; obtain ⟨hfgb, hcgb_0, hcgb_1, hcgb_2⟩ := qz3 BKgb.out; clear hbox hb hg_gb)
 clear hfgb hcgb_0 hcgb_1 hcgb_2
 have HI : qab (BIN w gb #[.slice A0_0 l0_0.length c0_0, .slice A0_1 l0_1.length c0_1, .slice A0_2 l0_2.length c0_2] w2) := ⟨⟨BKgb.out, HB.out⟩⟩
 clear BKgb HB GEgb
 go_loopw [3] (fun s3 wr => ∃ j : Nat, j ≤ l0_0.length ∧ s3 = .int .i64 j ∧ qab (((l0_0.drop j).all loopB && R1) = r) ∧ qab (BIN w gb #[.slice A0_0 l0_0.length c0_0, .slice A0_1 l0_1.length c0_1, .slice A0_2 l0_2.length c0_2] wr)) (fun s _ => l0_0.length - (intOf s).toNat)
 case atStart => exact ⟨0, by omega, rfl, HF0, HI⟩
 case round =>
  clear HI HF0
  obtain ⟨j, hj, rfl, HF, HI⟩ := hrel
  by_cases hlt : j < l0_0.length
  ·
   have hlt1 : (j : Int) < l0_0.length := by omega
   have hj0 : (0 : Int) ≤ j := by omega
   have hw1 : IntKind.i64.wrap ((j : Int) + 1) = (j : Int) + 1 := by rw [i64_w]; unfold wrap64; omega
   obtain ⟨ad, e, hl0, hl1, hl2, hl3, hl4, hl5, hl6, hl7, hl8, hl9, hl10, hl11⟩ := at_T39 (Kd.qaj HR0.out HI.out.hb) j hj0 hlt1
   cases e
   simp only [Int.toNat_natCast] at hl0 hl1 hl2 hl3 hl4 hl5 hl6 hl7 hl8 hl9 hl10 hl11
   have hf := HF.out
   rw [all_step loopB l0_0 z39 j hlt, show l0_0.getD j z39 = qal l0_0 (j : Int) from by simp [qal]] at hf
   generalize qal l0_0 (j : Int) = L at *
   have HC := qab.mk (talikref04_Loop.calls _ _ _ _ _ _ _ _ _ _ _ _ _ wr (rloop_eq L))
   obtain ⟨b, hb⟩ : ∃ b, b = loopB L := ⟨_, rfl⟩
   rw [← hb] at HC hf
   clear hb HF
   have hq0 : wr.cell? ⟨gb, 0, none⟩ = some (.slice (some ad) l0_0.length c0_0) := (qaa HI.out.b 0).trans rfl; have hq1 : wr.cell? ⟨gb, 1, none⟩ = some (.slice A0_1 l0_1.length c0_1) := (qaa HI.out.b 1).trans rfl; have hq2 : wr.cell? ⟨gb, 2, none⟩ = some (.slice A0_2 l0_2.length c0_2) := (qaa HI.out.b 2).trans rfl
   cases b with
   | false =>
    rw [Bool.false_and, Bool.false_and] at hf
    subst hf
    go_wp2_with (first | (go_at_call 58; with_reducible refine (HC.out).mono ?_; rintro e w3 ⟨rfl, hb⟩; replace HI := qab.mk (HI.out.below hb); clear hb hq0 hq1 hq2; have hq0 : w3.cell? ⟨gb, 0, none⟩ = some (.slice (some ad) l0_0.length c0_0) := (qaa HI.out.b 0).trans rfl; have hq1 : w3.cell? ⟨gb, 1, none⟩ = some (.slice A0_1 l0_1.length c0_1) := (qaa HI.out.b 1).trans rfl; have hq2 : w3.cell? ⟨gb, 2, none⟩ = some (.slice A0_2 l0_2.length c0_2) := (qaa HI.out.b 2).trans rfl))
    go_ret
    exact ⟨rfl, HI.out.hb⟩
   | true =>
    rw [Bool.true_and] at hf
    have HF := qab.mk hf
    clear hf
    go_wp2_with (first | (go_at_call 58; with_reducible refine (HC.out).mono ?_; rintro e w3 ⟨rfl, hb⟩; replace HI := qab.mk (HI.out.below hb); clear hb hq0 hq1 hq2; have hq0 : w3.cell? ⟨gb, 0, none⟩ = some (.slice (some ad) l0_0.length c0_0) := (qaa HI.out.b 0).trans rfl; have hq1 : w3.cell? ⟨gb, 1, none⟩ = some (.slice A0_1 l0_1.length c0_1) := (qaa HI.out.b 1).trans rfl; have hq2 : w3.cell? ⟨gb, 2, none⟩ = some (.slice A0_2 l0_2.length c0_2) := (qaa HI.out.b 2).trans rfl))
    go_roundw
    case rel => exact ⟨j + 1, by omega, by go_num, HF, HI⟩
    case measure => simp [intOf]; omega
  ·
   have he := HF.out
   rw [List.drop_eq_nil_of_le (by omega), List.all_nil, Bool.true_and] at he
   have HF0 : qab (((l0_1.drop 0).all (fun s => spanB s 0 1000) && R2) = r) := ⟨by rw [List.drop_zero, ← HE1.out]; exact he⟩
   clear HF he
   obtain ⟨wA, rfl⟩ : ∃ wa : World, wa = wr := ⟨_, rfl⟩
   have hq0 : wA.cell? ⟨gb, 0, none⟩ = some (.slice A0_0 l0_0.length c0_0) := (qaa HI.out.b 0).trans rfl; have hq1 : wA.cell? ⟨gb, 1, none⟩ = some (.slice A0_1 l0_1.length c0_1) := (qaa HI.out.b 1).trans rfl; have hq2 : wA.cell? ⟨gb, 2, none⟩ = some (.slice A0_2 l0_2.length c0_2) := (qaa HI.out.b 2).trans rfl
   go_wp2_with fail
   clear hq0 hq1 hq2
   go_loopw [4] (fun s4 wr => ∃ j : Nat, j ≤ l0_1.length ∧ s4 = .int .i64 j ∧ qab (((l0_1.drop j).all (fun s => spanB s 0 1000) && R2) = r) ∧ qab (BIN w gb #[.slice A0_0 l0_0.length c0_0, .slice A0_1 l0_1.length c0_1, .slice A0_2 l0_2.length c0_2] wr)) (fun s _ => l0_1.length - (intOf s).toNat)
   case atStart => exact ⟨0, by omega, rfl, HF0, HI⟩
   case round =>
    clear HI HF0
    obtain ⟨j, hj, rfl, HF, HI⟩ := hrel
    by_cases hlt : j < l0_1.length
    ·
     have hlt1 : (j : Int) < l0_1.length := by omega
     have hj0 : (0 : Int) ≤ j := by omega
     have hw1 : IntKind.i64.wrap ((j : Int) + 1) = (j : Int) + 1 := by rw [i64_w]; unfold wrap64; omega
     obtain ⟨ad, e, hl0, hl1⟩ := at_T37 (Kd.qaj HR1.out HI.out.hb) j hj0 hlt1
     cases e
     simp only [Int.toNat_natCast] at hl0 hl1
     have hf := HF.out
     rw [all_step (fun s => spanB s 0 1000) l0_1 z37 j hlt, show l0_1.getD j z37 = rd_T37 l0_1 (j : Int) from by simp [rd_T37]] at hf
     generalize rd_T37 l0_1 (j : Int) = F at *
     have HC := qab.mk (talikref04_Span_to (talikref04_Span.calls _ _ _ _ _ wr (rspan_eq F 0 1000)))
     obtain ⟨b, hb⟩ : ∃ b, b = spanB F 0 1000 := ⟨_, rfl⟩
     rw [← hb] at HC hf
     clear hb HF
     have hq0 : wr.cell? ⟨gb, 0, none⟩ = some (.slice A0_0 l0_0.length c0_0) := (qaa HI.out.b 0).trans rfl; have hq1 : wr.cell? ⟨gb, 1, none⟩ = some (.slice (some ad) l0_1.length c0_1) := (qaa HI.out.b 1).trans rfl; have hq2 : wr.cell? ⟨gb, 2, none⟩ = some (.slice A0_2 l0_2.length c0_2) := (qaa HI.out.b 2).trans rfl
     cases b with
     | false =>
      rw [Bool.false_and, Bool.false_and] at hf
      subst hf
      go_wp2_with (first | (go_at_call 59; with_reducible refine (HC.out).mono ?_; rintro e w3 ⟨rfl, hb⟩; replace HI := qab.mk (HI.out.below hb); clear hb hq0 hq1 hq2; have hq0 : w3.cell? ⟨gb, 0, none⟩ = some (.slice A0_0 l0_0.length c0_0) := (qaa HI.out.b 0).trans rfl; have hq1 : w3.cell? ⟨gb, 1, none⟩ = some (.slice (some ad) l0_1.length c0_1) := (qaa HI.out.b 1).trans rfl; have hq2 : w3.cell? ⟨gb, 2, none⟩ = some (.slice A0_2 l0_2.length c0_2) := (qaa HI.out.b 2).trans rfl))
      go_ret
      exact ⟨rfl, HI.out.hb⟩
     | true =>
      rw [Bool.true_and] at hf
      have HF := qab.mk hf
      clear hf
      go_wp2_with (first | (go_at_call 59; with_reducible refine (HC.out).mono ?_; rintro e w3 ⟨rfl, hb⟩; replace HI := qab.mk (HI.out.below hb); clear hb hq0 hq1 hq2; have hq0 : w3.cell? ⟨gb, 0, none⟩ = some (.slice A0_0 l0_0.length c0_0) := (qaa HI.out.b 0).trans rfl; have hq1 : w3.cell? ⟨gb, 1, none⟩ = some (.slice (some ad) l0_1.length c0_1) := (qaa HI.out.b 1).trans rfl; have hq2 : w3.cell? ⟨gb, 2, none⟩ = some (.slice A0_2 l0_2.length c0_2) := (qaa HI.out.b 2).trans rfl))
      go_roundw
      case rel => exact ⟨j + 1, by omega, by go_num, HF, HI⟩
      case measure => simp [intOf]; omega
    ·
     have he := HF.out
     rw [List.drop_eq_nil_of_le (by omega), List.all_nil, Bool.true_and] at he
     have HF0 : qab ((rowsR (l0_0.length + 1) (l0_2.drop 0) 0 && R3) = r) := ⟨by rw [List.drop_zero, ← HE2.out]; exact he⟩
     clear HF he
     obtain ⟨wB, rfl⟩ : ∃ wa : World, wa = wr := ⟨_, rfl⟩
     have hq0 : wB.cell? ⟨gb, 0, none⟩ = some (.slice A0_0 l0_0.length c0_0) := (qaa HI.out.b 0).trans rfl; have hq1 : wB.cell? ⟨gb, 1, none⟩ = some (.slice A0_1 l0_1.length c0_1) := (qaa HI.out.b 1).trans rfl; have hq2 : wB.cell? ⟨gb, 2, none⟩ = some (.slice A0_2 l0_2.length c0_2) := (qaa HI.out.b 2).trans rfl
     go_wp2_with fail
     clear hq0 hq1 hq2
     have hw2 : IntKind.i64.wrap ((l0_0.length : Int) + 1) = (l0_0.length : Int) + 1 := by rw [i64_w]; unfold wrap64; omega
     go_loopw [5] (fun s5 wr => ∃ i : Nat, i ≤ l0_2.length ∧ s5 = .int .i64 i ∧ qab ((rowsR (l0_0.length + 1) (l0_2.drop i) i && R3) = r) ∧ qab (BIN w gb #[.slice A0_0 l0_0.length c0_0, .slice A0_1 l0_1.length c0_1, .slice A0_2 l0_2.length c0_2] wr)) (fun s _ => l0_2.length - (intOf s).toNat)
     case atStart => exact ⟨0, by omega, rfl, HF0, HI⟩
     case round =>
      clear HI HF0
      obtain ⟨i, hi, rfl, HF, HI⟩ := hrel
      by_cases hlt : i < l0_2.length
      ·
       have hlt1 : (i : Int) < l0_2.length := by omega
       have hi0 : (0 : Int) ≤ i := by omega
       have hrl : (rd_L1 l0_2 (i : Int)).length ≤ 10 := by rw [rd_L1_at l0_2 i hlt]; exact HRW.out i hlt
       have hf := HF.out
       rw [rowsR_step _ l0_2 i hlt] at hf
       obtain ⟨wO, rfl⟩ : ∃ wo : World, wo = wr := ⟨_, rfl⟩
       obtain ⟨ad, rA, rc, e, hcell, hrc, hrC⟩ := at_L1 (Kd.qaj HR2.out HI.out.hb) i hi0 hlt1
       cases e
       simp only [Int.toNat_natCast] at hcell
       have HT : qab (∀ W, BIN w gb #[.slice A0_0 l0_0.length c0_0, .slice A0_1 l0_1.length c0_1, .slice (some ad) l0_2.length c0_2] W → W.cell? (ad.add i) = some (.slice rA (rd_L1 l0_2 i).length rc) → (W.cell? ⟨gb, 0, none⟩ = some (.slice A0_0 l0_0.length c0_0) ∧ W.cell? ⟨gb, 2, none⟩ = some (.slice (some ad) l0_2.length c0_2) ∧ W.cell? (ad.add i) = some (.slice rA (rd_L1 l0_2 i).length rc))) := ⟨fun W h hc => ⟨qaa h.b 0, qaa h.b 2, hc⟩⟩
       have HCELL := qab.mk hcell
       have HRC := qab.mk hrC
       by_cases hlen : (rd_L1 l0_2 (i : Int)).length = l0_0.length + 1
       ·
        have d1 : (((rd_L1 l0_2 (i : Int)).length : Int) != (l0_0.length : Int) + 1) = false := by rw [bne_eq_false_iff_eq]; omega
        rw [decide_eq_true hlen, Bool.true_and, Bool.and_assoc] at hf
        have HF0 : qab ((chkR i ((rd_L1 l0_2 (i : Int)).drop 0) 0 && (rowsR (l0_0.length + 1) (l0_2.drop (i + 1)) (i + 1) && R3)) = r) := ⟨by rw [List.drop_zero]; exact hf⟩
        clear hf HF
        have hq0 : wO.cell? ⟨gb, 0, none⟩ = some (.slice A0_0 l0_0.length c0_0) := (qaa HI.out.b 0).trans rfl; have hq1 : wO.cell? ⟨gb, 1, none⟩ = some (.slice A0_1 l0_1.length c0_1) := (qaa HI.out.b 1).trans rfl; have hq2 : wO.cell? ⟨gb, 2, none⟩ = some (.slice (some ad) l0_2.length c0_2) := (qaa HI.out.b 2).trans rfl
        go_upto_region 14 with fail
        clear hq0 hq1 hq2
        refine start_ (n := 11) (S := (fun w' => (w'.cell? ⟨gb, 0, none⟩ = some (.slice A0_0 l0_0.length c0_0) ∧ w'.cell? ⟨gb, 2, none⟩ = some (.slice (some ad) l0_2.length c0_2) ∧ w'.cell? (ad.add i) = some (.slice rA (rd_L1 l0_2 i).length rc)))) (ds := []) (msk 11 0) (by kernel_rfl) rfl rfl (HT.out wO.drew (HI.out.below (qbb (Below.refl _ _))) (hcell.trans rfl)) (fun hHeld => ?_)
        refine pure_ (i := 0) (N := some 42) (v := ?_) (a' := ?_) (msk 11 1) rfl rfl (by kernel_rfl) (fun _ _ _ h => h) (Or.inl ⟨by rfl, ?_⟩) ?_ ?_; rotate_left; (focus (intro w'; go_simp; with_reducible rfl)); rotate_left; (focus (simp only [Act.put, qzA, qzB, qzC, i64_w, i32_w]; rfl))
        refine take_ (i := 1) (N := some 43) (v := ?_) (a' := ?_) (msk 11 2) rfl rfl (by kernel_rfl) (fun _ _ _ h => h) (Or.inl ⟨by rfl, ?_⟩) hHeld ?_ ?_; rotate_left; (focus (rintro w' ⟨s0, s1, s2⟩; go_simp; with_reducible rfl)); rotate_left; (focus (simp only [Act.put, qzA, qzB, qzC, i64_w, i32_w]; rfl))
        refine pure_ (i := 2) (N := some 44) (v := ?_) (a' := ?_) (msk 11 3) rfl rfl (by kernel_rfl) (fun _ _ _ h => h) (Or.inl ⟨by rfl, ?_⟩) ?_ ?_; rotate_left; (focus (intro w'; go_simp; with_reducible rfl)); rotate_left; (focus (simp only [Act.put, qzA, qzB, qzC, i64_w, i32_w]; rfl))
        refine pure_ (i := 3) (N := some 45) (v := ?_) (a' := ?_) (msk 11 4) rfl rfl (by kernel_rfl) (fun _ _ _ h => h) (Or.inl ⟨by rfl, ?_⟩) ?_ ?_; rotate_left; (focus (intro w'; go_simp; with_reducible rfl)); rotate_left; (focus (simp only [Act.put, qzA, qzB, qzC, i64_w, i32_w]; rfl))
        refine take_ (i := 4) (N := some 46) (v := ?_) (a' := ?_) (msk 11 5) rfl rfl (by kernel_rfl) (fun _ _ _ h => h) (Or.inl ⟨by rfl, ?_⟩) hHeld ?_ ?_; rotate_left; (focus (rintro w' ⟨s0, s1, s2⟩; go_simp; with_reducible rfl)); rotate_left; (focus (simp only [Act.put, qzA, qzB, qzC, i64_w, i32_w]; rfl))
        refine pure_ (i := 5) (N := some 47) (v := ?_) (a' := ?_) (msk 11 6) rfl rfl (by kernel_rfl) (fun _ _ _ h => h) (Or.inl ⟨by rfl, ?_⟩) ?_ ?_; rotate_left; (focus (intro w'; go_simp; with_reducible rfl)); rotate_left; (focus (simp only [Act.put, qzA, qzB, qzC, i64_w, i32_w]; rfl))
        refine pure_ (i := 6) (N := some 48) (v := ?_) (a' := ?_) (msk 11 7) rfl rfl (by kernel_rfl) (fun _ _ _ h => h) (Or.inl ⟨by rfl, ?_⟩) ?_ ?_; rotate_left; (focus (intro w'; go_simp; with_reducible rfl)); rotate_left; (focus (simp only [Act.put, qzA, qzB, qzC, i64_w, i32_w]; rfl))
        refine take_ (i := 7) (N := some 49) (v := ?_) (a' := ?_) (msk 11 8) rfl rfl (by kernel_rfl) (fun _ _ _ h => h) (Or.inl ⟨by rfl, ?_⟩) hHeld ?_ ?_; rotate_left; (focus (rintro w' ⟨s0, s1, s2⟩; go_simp; with_reducible rfl)); rotate_left; (focus (simp only [Act.put, qzA, qzB, qzC, i64_w, i32_w]; rfl))
        refine pure_ (i := 8) (N := some 50) (v := ?_) (a' := ?_) (msk 11 9) rfl rfl (by kernel_rfl) (fun _ _ _ h => h) (Or.inl ⟨by rfl, ?_⟩) ?_ ?_; rotate_left; (focus (intro w'; go_simp; with_reducible rfl)); rotate_left; (focus (simp only [Act.put, qzA, qzB, qzC, i64_w, i32_w]; rfl))
        refine pure_ (i := 9) (N := some 51) (v := ?_) (a' := ?_) (msk 11 10) rfl rfl (by kernel_rfl) (fun _ _ _ h => h) (Or.inl ⟨by rfl, ?_⟩) ?_ ?_; rotate_left; (focus (intro w'; go_simp; with_reducible rfl)); rotate_left; (focus (simp only [Act.put, qzA, qzB, qzC, i64_w, i32_w]; rfl))
        refine pure_ (i := 10) (N := some 52) (v := ?_) (a' := ?_) (msk 11 11) rfl rfl (by kernel_rfl) (fun _ _ _ h => h) (Or.inl ⟨by rfl, ?_⟩) ?_ ?_; rotate_left; (focus (intro w'; go_simp; with_reducible rfl)); rotate_left; (focus (simp only [Act.put, qzA, qzB, qzC, i64_w, i32_w]; rfl))
        refine done_ (by kernel_rfl) ?_
        have n_HI := qab.mk (HI.out.below (qbb (Below.refl wO.heap.size wO)))
        clear HI
        have HI := n_HI
        clear n_HI HT
        have n_HC := qab.mk ((qbb (Below.refl wO.heap.size wO)).cell (World.block_lt_of_cell? _ _ HCELL.out) |>.trans HCELL.out)
        have n_HR := qab.mk (Kd.qaj HRC.out (qbb (Below.refl wO.heap.size wO)))
        clear HCELL HRC hcell hrC
        have HCELL := n_HC
        have HRC := n_HR
        clear n_HC n_HR
        generalize wO.drew = wP at HI HCELL HRC ⊢
        go_wp2_with fail
        go_loopw [6] (fun s6 wr => ∃ k : Nat, k ≤ (rd_L1 l0_2 (i : Int)).length ∧ s6 = .int .i64 k ∧ qab ((chkR i ((rd_L1 l0_2 (i : Int)).drop k) k && (rowsR (l0_0.length + 1) (l0_2.drop (i + 1)) (i + 1) && R3)) = r) ∧ qab (BIN w gb #[.slice A0_0 l0_0.length c0_0, .slice A0_1 l0_1.length c0_1, .slice (some ad) l0_2.length c0_2] wr) ∧ qab (Below wP.heap.size wP wr)) (fun s _ => (rd_L1 l0_2 (i : Int)).length - (intOf s).toNat)
        case atStart => exact ⟨0, by omega, rfl, HF0, HI, ⟨Below.refl _ _⟩⟩
        case round =>
         clear HI HF0
         obtain ⟨k, hk, rfl, HF, HI, HBP⟩ := hrel
         have hcell := ((HBP.out.cell (World.block_lt_of_cell? _ _ HCELL.out)).trans HCELL.out)
         by_cases hlt2 : k < (rd_L1 l0_2 (i : Int)).length
         ·
          have hlt3 : (k : Int) < (rd_L1 l0_2 (i : Int)).length := by omega
          have hk0 : (0 : Int) ≤ k := by omega
          have hw1 : IntKind.i64.wrap ((k : Int) + 1) = (k : Int) + 1 := by rw [i64_w]; unfold wrap64; omega
          have hf := HF.out
          rw [chkR_step i _ k hlt2] at hf
          obtain ⟨ad3, e, hx⟩ := Kd.at_int HRC.out k hk0 hlt3
          subst e
          have HXX := qab.mk hx
          have hx' := (HBP.out.cell (World.block_lt_of_cell? _ _ hx)).trans hx
          simp only [Int.toNat_natCast] at hx'
          clear hx
          generalize rd (rd_L1 l0_2 (i : Int)) (k : Int) = x at hf hx'
          have HC := qab.mk (in60 x 0 72 wr)
          obtain ⟨b, hb⟩ : ∃ b, b = inB x 0 72 := ⟨_, rfl⟩
          rw [← hb] at HC hf
          clear hb HF HXX
          have hq0 : wr.cell? ⟨gb, 0, none⟩ = some (.slice A0_0 l0_0.length c0_0) := (qaa HI.out.b 0).trans rfl; have hq1 : wr.cell? ⟨gb, 1, none⟩ = some (.slice A0_1 l0_1.length c0_1) := (qaa HI.out.b 1).trans rfl; have hq2 : wr.cell? ⟨gb, 2, none⟩ = some (.slice (some ad) l0_2.length c0_2) := (qaa HI.out.b 2).trans rfl
          cases b with
          | false =>
           rw [Bool.false_and, Bool.false_and] at hf
           subst hf
           go_wp2_with (first | (go_at_call 60; with_reducible refine HC.out.mono ?_; rintro e w4 ⟨rfl, hb⟩; have n_HI := qab.mk (HI.out.below hb); have n_HBP := qab.mk (qad HBP.out hb); have n_c := (hb.cell (World.block_lt_of_cell? _ _ hcell)).trans hcell; have n_x := (hb.cell (World.block_lt_of_cell? _ _ hx')).trans hx'; clear HI HBP hcell hx' hb hq0 hq1 hq2; have HI := n_HI; have HBP := n_HBP; have hcell := n_c; have hx' := n_x; clear n_HI n_HBP n_c n_x; have hq0 : w4.cell? ⟨gb, 0, none⟩ = some (.slice A0_0 l0_0.length c0_0) := (qaa HI.out.b 0).trans rfl; have hq1 : w4.cell? ⟨gb, 1, none⟩ = some (.slice A0_1 l0_1.length c0_1) := (qaa HI.out.b 1).trans rfl; have hq2 : w4.cell? ⟨gb, 2, none⟩ = some (.slice (some ad) l0_2.length c0_2) := (qaa HI.out.b 2).trans rfl))
           go_ret
           exact ⟨rfl, HI.out.hb⟩
          | true =>
           rw [Bool.true_and] at hf
           by_cases hik : i = k
           ·
            have e1 : ((i : Int) == (k : Int)) = true := by simp [hik]
            have e2 : (i != k) = false := by simp [hik]
            rw [e2, Bool.false_or] at hf
            clear hik e2
            by_cases hx0 : x = 0
            ·
             have e3 : (x != 0) = false := by simp [hx0]
             have e4 : (x == 0) = true := by simp [hx0]
             rw [e4, Bool.true_and] at hf
             clear hx0 e4
             have HF := qab.mk hf
             clear hf
             go_wp2_with (first | (go_at_call 60; with_reducible refine HC.out.mono ?_; rintro e w4 ⟨rfl, hb⟩; have n_HI := qab.mk (HI.out.below hb); have n_HBP := qab.mk (qad HBP.out hb); have n_c := (hb.cell (World.block_lt_of_cell? _ _ hcell)).trans hcell; have n_x := (hb.cell (World.block_lt_of_cell? _ _ hx')).trans hx'; clear HI HBP hcell hx' hb hq0 hq1 hq2; have HI := n_HI; have HBP := n_HBP; have hcell := n_c; have hx' := n_x; clear n_HI n_HBP n_c n_x; have hq0 : w4.cell? ⟨gb, 0, none⟩ = some (.slice A0_0 l0_0.length c0_0) := (qaa HI.out.b 0).trans rfl; have hq1 : w4.cell? ⟨gb, 1, none⟩ = some (.slice A0_1 l0_1.length c0_1) := (qaa HI.out.b 1).trans rfl; have hq2 : w4.cell? ⟨gb, 2, none⟩ = some (.slice (some ad) l0_2.length c0_2) := (qaa HI.out.b 2).trans rfl))
             go_roundw
             case rel => exact ⟨k + 1, by omega, by go_num, HF, HI, HBP⟩
             case measure => simp [intOf]; omega
            ·
             have e3 : (x != 0) = true := by simp [hx0]
             have e4 : (x == 0) = false := by simp [hx0]
             rw [e4, Bool.false_and, Bool.false_and] at hf
             clear hx0 e4
             subst hf
             go_wp2_with (first | (go_at_call 60; with_reducible refine HC.out.mono ?_; rintro e w4 ⟨rfl, hb⟩; have n_HI := qab.mk (HI.out.below hb); have n_HBP := qab.mk (qad HBP.out hb); have n_c := (hb.cell (World.block_lt_of_cell? _ _ hcell)).trans hcell; have n_x := (hb.cell (World.block_lt_of_cell? _ _ hx')).trans hx'; clear HI HBP hcell hx' hb hq0 hq1 hq2; have HI := n_HI; have HBP := n_HBP; have hcell := n_c; have hx' := n_x; clear n_HI n_HBP n_c n_x; have hq0 : w4.cell? ⟨gb, 0, none⟩ = some (.slice A0_0 l0_0.length c0_0) := (qaa HI.out.b 0).trans rfl; have hq1 : w4.cell? ⟨gb, 1, none⟩ = some (.slice A0_1 l0_1.length c0_1) := (qaa HI.out.b 1).trans rfl; have hq2 : w4.cell? ⟨gb, 2, none⟩ = some (.slice (some ad) l0_2.length c0_2) := (qaa HI.out.b 2).trans rfl))
             go_ret
             exact ⟨rfl, HI.out.hb⟩
           ·
            have e1 : ((i : Int) == (k : Int)) = false := by simp; omega
            have e2 : (i != k) = true := by simp [hik]
            rw [e2, Bool.true_or, Bool.true_and] at hf
            have HF := qab.mk hf
            clear hf
            go_wp2_with (first | (go_at_call 60; with_reducible refine HC.out.mono ?_; rintro e w4 ⟨rfl, hb⟩; have n_HI := qab.mk (HI.out.below hb); have n_HBP := qab.mk (qad HBP.out hb); have n_c := (hb.cell (World.block_lt_of_cell? _ _ hcell)).trans hcell; have n_x := (hb.cell (World.block_lt_of_cell? _ _ hx')).trans hx'; clear HI HBP hcell hx' hb hq0 hq1 hq2; have HI := n_HI; have HBP := n_HBP; have hcell := n_c; have hx' := n_x; clear n_HI n_HBP n_c n_x; have hq0 : w4.cell? ⟨gb, 0, none⟩ = some (.slice A0_0 l0_0.length c0_0) := (qaa HI.out.b 0).trans rfl; have hq1 : w4.cell? ⟨gb, 1, none⟩ = some (.slice A0_1 l0_1.length c0_1) := (qaa HI.out.b 1).trans rfl; have hq2 : w4.cell? ⟨gb, 2, none⟩ = some (.slice (some ad) l0_2.length c0_2) := (qaa HI.out.b 2).trans rfl))
            go_roundw
            case rel => exact ⟨k + 1, by omega, by go_num, HF, HI, HBP⟩
            case measure => simp [intOf]; omega
         ·
          have he := HF.out
          rw [List.drop_eq_nil_of_le (by omega)] at he
          have HF0 : qab ((rowsR (l0_0.length + 1) (l0_2.drop (i + 1)) (i + 1) && R3) = r) := ⟨by simpa [chkR] using he⟩
          clear HF he
          have hw1 : IntKind.i64.wrap ((i : Int) + 1) = (i : Int) + 1 := by rw [i64_w]; unfold wrap64; omega
          have hq0 : wr.cell? ⟨gb, 0, none⟩ = some (.slice A0_0 l0_0.length c0_0) := (qaa HI.out.b 0).trans rfl; have hq1 : wr.cell? ⟨gb, 1, none⟩ = some (.slice A0_1 l0_1.length c0_1) := (qaa HI.out.b 1).trans rfl; have hq2 : wr.cell? ⟨gb, 2, none⟩ = some (.slice (some ad) l0_2.length c0_2) := (qaa HI.out.b 2).trans rfl
          go_wp2_with fail
          go_roundw
          case rel => exact ⟨i + 1, by omega, by go_num, HF0, HI⟩
          case measure => simp [intOf]; omega
       ·
        have d1 : (((rd_L1 l0_2 (i : Int)).length : Int) != (l0_0.length : Int) + 1) = true := by rw [bne_iff_ne]; omega
        rw [decide_eq_false hlen, Bool.false_and, Bool.false_and] at hf
        subst hf
        have hq0 : wO.cell? ⟨gb, 0, none⟩ = some (.slice A0_0 l0_0.length c0_0) := (qaa HI.out.b 0).trans rfl; have hq1 : wO.cell? ⟨gb, 1, none⟩ = some (.slice A0_1 l0_1.length c0_1) := (qaa HI.out.b 1).trans rfl; have hq2 : wO.cell? ⟨gb, 2, none⟩ = some (.slice (some ad) l0_2.length c0_2) := (qaa HI.out.b 2).trans rfl
        go_upto_region 14 with fail
        clear hq0 hq1 hq2
        refine start_ (n := 11) (S := (fun w' => (w'.cell? ⟨gb, 0, none⟩ = some (.slice A0_0 l0_0.length c0_0) ∧ w'.cell? ⟨gb, 2, none⟩ = some (.slice (some ad) l0_2.length c0_2) ∧ w'.cell? (ad.add i) = some (.slice rA (rd_L1 l0_2 i).length rc)))) (ds := []) (msk 11 0) (by kernel_rfl) rfl rfl (HT.out wO.drew (HI.out.below (qbb (Below.refl _ _))) (hcell.trans rfl)) (fun hHeld => ?_)
        refine pure_ (i := 0) (N := some 42) (v := ?_) (a' := ?_) (msk 11 1) rfl rfl (by kernel_rfl) (fun _ _ _ h => h) (Or.inl ⟨by rfl, ?_⟩) ?_ ?_; rotate_left; (focus (intro w'; go_simp; with_reducible rfl)); rotate_left; (focus (simp only [Act.put, qzA, qzB, qzC, i64_w, i32_w]; rfl))
        refine take_ (i := 1) (N := some 43) (v := ?_) (a' := ?_) (msk 11 2) rfl rfl (by kernel_rfl) (fun _ _ _ h => h) (Or.inl ⟨by rfl, ?_⟩) hHeld ?_ ?_; rotate_left; (focus (rintro w' ⟨s0, s1, s2⟩; go_simp; with_reducible rfl)); rotate_left; (focus (simp only [Act.put, qzA, qzB, qzC, i64_w, i32_w]; rfl))
        refine pure_ (i := 2) (N := some 44) (v := ?_) (a' := ?_) (msk 11 3) rfl rfl (by kernel_rfl) (fun _ _ _ h => h) (Or.inl ⟨by rfl, ?_⟩) ?_ ?_; rotate_left; (focus (intro w'; go_simp; with_reducible rfl)); rotate_left; (focus (simp only [Act.put, qzA, qzB, qzC, i64_w, i32_w]; rfl))
        refine pure_ (i := 3) (N := some 45) (v := ?_) (a' := ?_) (msk 11 4) rfl rfl (by kernel_rfl) (fun _ _ _ h => h) (Or.inl ⟨by rfl, ?_⟩) ?_ ?_; rotate_left; (focus (intro w'; go_simp; with_reducible rfl)); rotate_left; (focus (simp only [Act.put, qzA, qzB, qzC, i64_w, i32_w]; rfl))
        refine take_ (i := 4) (N := some 46) (v := ?_) (a' := ?_) (msk 11 5) rfl rfl (by kernel_rfl) (fun _ _ _ h => h) (Or.inl ⟨by rfl, ?_⟩) hHeld ?_ ?_; rotate_left; (focus (rintro w' ⟨s0, s1, s2⟩; go_simp; with_reducible rfl)); rotate_left; (focus (simp only [Act.put, qzA, qzB, qzC, i64_w, i32_w]; rfl))
        refine pure_ (i := 5) (N := some 47) (v := ?_) (a' := ?_) (msk 11 6) rfl rfl (by kernel_rfl) (fun _ _ _ h => h) (Or.inl ⟨by rfl, ?_⟩) ?_ ?_; rotate_left; (focus (intro w'; go_simp; with_reducible rfl)); rotate_left; (focus (simp only [Act.put, qzA, qzB, qzC, i64_w, i32_w]; rfl))
        refine pure_ (i := 6) (N := some 48) (v := ?_) (a' := ?_) (msk 11 7) rfl rfl (by kernel_rfl) (fun _ _ _ h => h) (Or.inl ⟨by rfl, ?_⟩) ?_ ?_; rotate_left; (focus (intro w'; go_simp; with_reducible rfl)); rotate_left; (focus (simp only [Act.put, qzA, qzB, qzC, i64_w, i32_w]; rfl))
        refine take_ (i := 7) (N := some 49) (v := ?_) (a' := ?_) (msk 11 8) rfl rfl (by kernel_rfl) (fun _ _ _ h => h) (Or.inl ⟨by rfl, ?_⟩) hHeld ?_ ?_; rotate_left; (focus (rintro w' ⟨s0, s1, s2⟩; go_simp; with_reducible rfl)); rotate_left; (focus (simp only [Act.put, qzA, qzB, qzC, i64_w, i32_w]; rfl))
        refine pure_ (i := 8) (N := some 50) (v := ?_) (a' := ?_) (msk 11 9) rfl rfl (by kernel_rfl) (fun _ _ _ h => h) (Or.inl ⟨by rfl, ?_⟩) ?_ ?_; rotate_left; (focus (intro w'; go_simp; with_reducible rfl)); rotate_left; (focus (simp only [Act.put, qzA, qzB, qzC, i64_w, i32_w]; rfl))
        refine pure_ (i := 9) (N := some 51) (v := ?_) (a' := ?_) (msk 11 10) rfl rfl (by kernel_rfl) (fun _ _ _ h => h) (Or.inl ⟨by rfl, ?_⟩) ?_ ?_; rotate_left; (focus (intro w'; go_simp; with_reducible rfl)); rotate_left; (focus (simp only [Act.put, qzA, qzB, qzC, i64_w, i32_w]; rfl))
        refine pure_ (i := 10) (N := some 52) (v := ?_) (a' := ?_) (msk 11 11) rfl rfl (by kernel_rfl) (fun _ _ _ h => h) (Or.inl ⟨by rfl, ?_⟩) ?_ ?_; rotate_left; (focus (intro w'; go_simp; with_reducible rfl)); rotate_left; (focus (simp only [Act.put, qzA, qzB, qzC, i64_w, i32_w]; rfl))
        refine done_ (by kernel_rfl) ?_
        go_wp2_with fail
        go_ret
        exact ⟨rfl, qbb HI.out.hb⟩
      ·
       have he := HF.out
       rw [List.drop_eq_nil_of_le (by omega)] at he
       have HF0 : qab (R3 = r) := ⟨by simpa [rowsR] using he⟩
       clear HF he
       have hr := HF0.out.symm.trans HE3.out
       unfold finR at hr
       have C1 := in60 (l0_0.length : Int) 1 5
       have C2 := in60 (l0_1.length : Int) 1 72
       obtain ⟨b1, h1⟩ : ∃ b, b = inB (l0_0.length : Int) 1 5 := ⟨_, rfl⟩
       obtain ⟨b2, h2⟩ : ∃ b, b = inB (l0_1.length : Int) 1 72 := ⟨_, rfl⟩
       rw [← h1] at C1 hr
       rw [← h2] at C2 hr
       have HC1 := qab.mk C1
       have HC2 := qab.mk C2
       clear C1 C2 h1 h2 HF0
       have hq0 : wr.cell? ⟨gb, 0, none⟩ = some (.slice A0_0 l0_0.length c0_0) := (qaa HI.out.b 0).trans rfl; have hq1 : wr.cell? ⟨gb, 1, none⟩ = some (.slice A0_1 l0_1.length c0_1) := (qaa HI.out.b 1).trans rfl; have hq2 : wr.cell? ⟨gb, 2, none⟩ = some (.slice A0_2 l0_2.length c0_2) := (qaa HI.out.b 2).trans rfl
       cases b1 with
       | false =>
        rw [Bool.false_and] at hr
        subst hr
        go_wp2_with (first | (go_at_call 60; with_reducible refine (HC1.out _).mono ?_; rintro e w4 ⟨rfl, hb⟩; replace HI := qab.mk (HI.out.below hb); clear hb hq0 hq1 hq2; have hq0 : w4.cell? ⟨gb, 0, none⟩ = some (.slice A0_0 l0_0.length c0_0) := (qaa HI.out.b 0).trans rfl; have hq1 : w4.cell? ⟨gb, 1, none⟩ = some (.slice A0_1 l0_1.length c0_1) := (qaa HI.out.b 1).trans rfl; have hq2 : w4.cell? ⟨gb, 2, none⟩ = some (.slice A0_2 l0_2.length c0_2) := (qaa HI.out.b 2).trans rfl))
        go_ret
        exact ⟨rfl, HI.out.hb⟩
       | true =>
        rw [Bool.true_and] at hr
        cases b2 with
        | false =>
         rw [Bool.false_and] at hr
         subst hr
         go_wp2_with (first | (go_at_call 60; with_reducible refine (HC1.out _).mono ?_; rintro e w4 ⟨rfl, hb⟩; replace HI := qab.mk (HI.out.below hb); clear hb hq0 hq1 hq2; have hq0 : w4.cell? ⟨gb, 0, none⟩ = some (.slice A0_0 l0_0.length c0_0) := (qaa HI.out.b 0).trans rfl; have hq1 : w4.cell? ⟨gb, 1, none⟩ = some (.slice A0_1 l0_1.length c0_1) := (qaa HI.out.b 1).trans rfl; have hq2 : w4.cell? ⟨gb, 2, none⟩ = some (.slice A0_2 l0_2.length c0_2) := (qaa HI.out.b 2).trans rfl) | (go_at_call 60; with_reducible refine (HC2.out _).mono ?_; rintro e w5 ⟨rfl, hb⟩; replace HI := qab.mk (HI.out.below hb); clear hb hq0 hq1 hq2; have hq0 : w5.cell? ⟨gb, 0, none⟩ = some (.slice A0_0 l0_0.length c0_0) := (qaa HI.out.b 0).trans rfl; have hq1 : w5.cell? ⟨gb, 1, none⟩ = some (.slice A0_1 l0_1.length c0_1) := (qaa HI.out.b 1).trans rfl; have hq2 : w5.cell? ⟨gb, 2, none⟩ = some (.slice A0_2 l0_2.length c0_2) := (qaa HI.out.b 2).trans rfl))
         go_ret
         exact ⟨rfl, HI.out.hb⟩
        | true =>
         rw [Bool.true_and] at hr
         have hq : ((l0_2.length : Int) == (l0_0.length : Int) + 1) = r := by rw [hr, Bool.eq_iff_iff, beq_iff_eq, decide_eq_true_eq]; omega
         clear hr
         go_wp2_with (first | (go_at_call 60; with_reducible refine (HC1.out _).mono ?_; rintro e w4 ⟨rfl, hb⟩; replace HI := qab.mk (HI.out.below hb); clear hb hq0 hq1 hq2; have hq0 : w4.cell? ⟨gb, 0, none⟩ = some (.slice A0_0 l0_0.length c0_0) := (qaa HI.out.b 0).trans rfl; have hq1 : w4.cell? ⟨gb, 1, none⟩ = some (.slice A0_1 l0_1.length c0_1) := (qaa HI.out.b 1).trans rfl; have hq2 : w4.cell? ⟨gb, 2, none⟩ = some (.slice A0_2 l0_2.length c0_2) := (qaa HI.out.b 2).trans rfl) | (go_at_call 60; with_reducible refine (HC2.out _).mono ?_; rintro e w5 ⟨rfl, hb⟩; replace HI := qab.mk (HI.out.below hb); clear hb hq0 hq1 hq2; have hq0 : w5.cell? ⟨gb, 0, none⟩ = some (.slice A0_0 l0_0.length c0_0) := (qaa HI.out.b 0).trans rfl; have hq1 : w5.cell? ⟨gb, 1, none⟩ = some (.slice A0_1 l0_1.length c0_1) := (qaa HI.out.b 1).trans rfl; have hq2 : w5.cell? ⟨gb, 2, none⟩ = some (.slice A0_2 l0_2.length c0_2) := (qaa HI.out.b 2).trans rfl))
         go_ret
         exact ⟨by first | rfl | (rw [hq]), HI.out.hb⟩
theorem short_end (l0 : List S39) (l1 : List S37) (l2 : List (List Int)) (i : Int) (k : Nat) : taliklaw04_short.j1 (k + 1) i false l0 l1 l2 = some (decide (l0.length ≤ 8) && (decide (l1.length ≤ 77) && decide (l2.length ≤ 10))) := by
 unfold taliklaw04_short.j1
 rw [if_neg (by decide)]
 by_cases h0 : l0.length ≤ 8
 ·
  rw [if_pos (by omega)]
  by_cases h1 : l1.length ≤ 77
  ·
   rw [if_pos (by omega)]
   simp [h0, h1]
   omega
  ·
   rw [if_neg (by omega)]
   simp [h1]
 ·
  rw [if_neg (by omega)]
  simp [h0]
theorem short_go (l0 : List S39) (l1 : List S37) (l2 : List (List Int)) : ∀ (m i k : Nat), i + m = 10 → 2 * m + 2 ≤ k → taliklaw04_short.l0 k (i : Int) l0 l1 l2 = some (((l2.drop i).take m).all (fun r => decide (r.length ≤ 10)) && (decide (l0.length ≤ 8) && (decide (l1.length ≤ 77) && decide (l2.length ≤ 10)))) := by
 intro m
 induction m with
 | zero =>
  intro i k hi hk
  obtain ⟨k, rfl⟩ : ∃ k', k = k' + 2 := ⟨k - 2, by omega⟩
  unfold taliklaw04_short.l0
  have hd : decide ((i : Int) < 10) = false := by simp; omega
  rw [hd, short_end]
  simp
 | succ m ih =>
  intro i k hi hk
  obtain ⟨k, rfl⟩ : ∃ k', k = k' + 2 := ⟨k - 2, by omega⟩
  unfold taliklaw04_short.l0
  by_cases hlt : i < l2.length
  ·
   have hd : decide ((i : Int) < 10) = true := by simp; omega
   rw [if_pos (by omega), hd]
   unfold taliklaw04_short.j1
   rw [if_pos rfl, if_pos (by omega), if_pos (by omega), rd_L1_at l2 i hlt, List.drop_eq_getElem_cons hlt, List.take_succ_cons, List.all_cons]
   by_cases hr : l2[i].length ≤ 10
   ·
    rw [if_neg (by omega), wsucc i (by omega), ih (i + 1) k (by omega) (by omega)]
    simp [hr]
   ·
    rw [if_pos (by omega)]
    simp [hr]
  ·
   rw [if_neg (by omega), short_end, List.drop_eq_nil_of_le (by omega)]
   simp
theorem short_eq (l0 : List S39) (l1 : List S37) (l2 : List (List Int)) (k : Nat) (hk : 22 ≤ k) : taliklaw04_short.f k l0 l1 l2 = some (shortB l0 l1 l2) := short_go l0 l1 l2 10 0 k rfl (by omega)
theorem chkR_iff (i : Nat) : ∀ (row : List Int) (j : Nat), chkR i row j = true ↔ (∀ h ∈ row, inB h 0 72 = true) ∧ (∀ n (h : n < row.length), j + n = i → row[n] = 0)
 | [], j => by simp [chkR]
 | h :: t, j => by
  simp only [chkR, Bool.and_eq_true, Bool.or_eq_true, chkR_iff i t (j + 1), bne_iff_ne, ne_eq, beq_iff_eq, List.mem_cons, forall_eq_or_imp]
  constructor
  ·
   rintro ⟨h1, h2, h3, h4⟩
   refine ⟨⟨h1, h3⟩, fun n hn he => ?_⟩
   cases n with
   | zero => exact h2.resolve_left (fun hne => hne (by omega))
   | succ n => simpa using h4 n (by simpa using hn) (by omega)
  ·
   rintro ⟨⟨h1, h3⟩, h4⟩
   refine ⟨h1, ?_, h3, fun n hn he => h4 (n + 1) (by simp only [List.length_cons]; omega) (by omega)⟩
   by_cases he : i = j
   ·
    exact .inr (h4 0 (by simp) (by omega))
   ·
    exact .inl he
theorem rowsR_iff (n : Nat) : ∀ (l : List (List Int)) (i : Nat), rowsR n l i = true ↔ ∀ m (h : m < l.length), l[m].length = n ∧ chkR (i + m) l[m] 0 = true
 | [], i => by simp [rowsR]
 | r :: t, i => by
  simp only [rowsR, Bool.and_eq_true, decide_eq_true_eq, rowsR_iff n t (i + 1)]
  constructor
  ·
   rintro ⟨h1, h2, h3⟩ m hm
   cases m with
   | zero => exact ⟨h1, h2⟩
   | succ m => have := h3 m (by simpa using hm); simpa [Nat.add_assoc, Nat.add_comm 1 m] using this
  ·
   intro h
   refine ⟨(h 0 (by simp)).1, (h 0 (by simp)).2, fun m hm => ?_⟩
   have := h (m + 1) (by simpa using hm)
   simpa [Nat.add_assoc, Nat.add_comm 1 m] using this
theorem rows_ways (l0 : List S39) (l2 : List (List Int)) (hl : l2.length = l0.length + 1) : rowsR (l0.length + 1) l2 0 = waysB (l0.length + 1) l2 := by
 rw [Bool.eq_iff_iff, rowsR_iff]
 unfold waysB
 rw [List.all_eq_true]
 constructor
 ·
  intro h j hj
  have hj' : j < l2.length := by simpa using hj
  obtain ⟨h1, h2⟩ := h j hj'
  rw [Nat.zero_add, chkR_iff] at h2
  have e : l2.getD j [] = l2[j] := by simp [hj']
  rw [e]
  unfold rowB
  simp only [Bool.and_eq_true, decide_eq_true_eq, List.all_eq_true]
  have hz := h2.2 j (by omega) (by omega)
  refine ⟨by omega, ?_, h2.1⟩
  simp [rd, show j < l2[j].length by omega, hz]
 ·
  intro h m hm
  have h1 := h m (by simpa using hm)
  have e : l2.getD m [] = l2[m] := by simp [hm]
  rw [e] at h1
  unfold rowB at h1
  simp only [Bool.and_eq_true, decide_eq_true_eq, List.all_eq_true] at h1
  obtain ⟨h2, h3, h4⟩ := h1
  have h5 : l2[m].length = l0.length + 1 := by omega
  refine ⟨h5, ?_⟩
  rw [Nat.zero_add, chkR_iff]
  refine ⟨h4, fun n hn he => ?_⟩
  obtain rfl : n = m := by omega
  simpa [rd, hn] using h3
theorem net_eq (l0 : List S39) (l1 : List S37) (l2 : List (List Int)) (hs : Short l0 l1 l2) (k : Nat) (hk : 240 ≤ k) : talikref04_Net.f l0 l1 l2 = some (validB l0 l1 l2) := by
 have h' : talikref04_Net.f l0 l1 l2 = some (l0.all loopB && (l1.all (fun s => spanB s 0 1000) && (rowsR (l0.length + 1) l2 0 && finR l0 l1 l2))) := by
  unfold talikref04_Net.f
  rw [if_pos (of_short hs)]
 rw [h']
 congr 1
 unfold finR validB
 by_cases hl : l2.length = l0.length + 1
 ·
  have e1 : decide ((l2.length : Int) = (l0.length : Int) + 1) = true := by simp; omega
  rw [rows_ways l0 l2 hl, e1]
  simp only [hl, decide_true, Bool.and_true, Bool.true_and]
  cases l0.all loopB <;> cases (l1.all fun s => spanB s 0 1000) <;> cases waysB ((l0.length : Int) + 1) l2 <;> cases inB (l0.length : Int) 1 5 <;> cases inB (l1.length : Int) 1 72 <;> simp
 ·
  have e1 : decide ((l2.length : Int) = (l0.length : Int) + 1) = false := by simp; omega
  rw [e1]
  simp [hl]
def talikref04_Faults.f (k : Nat) (l0_0 : List (S39)) (l0_1 : List (S37)) (l0_2 : List (List Int)) (l1 : List Int) : Option (Bool) := if l0_0.length ≤ 8 then some (l1.all (inFault l0_0)) else none
theorem talikref04_Faults.calls (k : Nat) (A0_0 : Option Addr) (c0_0 : Nat) (l0_0 : List (S39)) (A0_1 : Option Addr) (c0_1 : Nat) (l0_1 : List (S37)) (A0_2 : Option Addr) (c0_2 : Nat) (l0_2 : List (List Int)) (A1 : Option Addr) (c1 : Nat) (l1 : List Int) (r : Bool) (w : World) (hr0_0 : Kd.C k39 w A0_0 l0_0.length l0_0) (hc0_0 : l0_0.length ≤ c0_0) (hr0_1 : Kd.C k37 w A0_1 l0_1.length l0_1) (hc0_1 : l0_1.length ≤ c0_1) (hr0_2 : Kd.C (Kd.slice 3 (Kd.int .i64)) w A0_2 l0_2.length l0_2) (hc0_2 : l0_2.length ≤ c0_2) (hr1 : Kd.C (Kd.int .i64) w A1 l1.length l1) (hc1 : l1.length ≤ c1) (h : talikref04_Faults.f k l0_0 l0_1 l0_2 l1 = some r) :
  Calls Try.prog 69 #[.agg #[.slice A0_0 l0_0.length c0_0, .slice A0_1 l0_1.length c0_1, .slice A0_2 l0_2.length c0_2], .slice A1 l1.length c1] w fun e w' => e = .returned (.bool r) ∧ Below w.heap.size w w' := by
 unfold talikref04_Faults.f at h
 split at h
 case isFalse => cases h
 rename_i h8
 have h' := Option.some.inj h
 clear h
 have hu26 := Try.underlying26
 have HB := qab.mk (Below.refl w.heap.size w)
 have HR0 := qab.mk hr0_0
 have HR1 := qab.mk hr0_1
 have HR2 := qab.mk hr0_2
 have HRL := qab.mk hr1
 have hm1 := Kd.C_max hr1
 clear hr0_0 hr0_1 hr0_2 hr1
 have HFA0 : qab (∀ x W, Below w.heap.size w W → Calls Try.prog 26 #[.agg #[.slice A0_0 l0_0.length c0_0, .slice A0_1 l0_1.length c0_1, .slice A0_2 l0_2.length c0_2], .int .i64 x] W fun e w' => e = .returned (.bool (inFault l0_0 x)) ∧ Below W.heap.size W w') := ⟨fun x W hW => (talikref04_Fault.calls 10 _ _ l0_0 _ _ l0_1 _ _ l0_2 x _ W (Kd.qaj HR0.out hW) hc0_0 (Kd.qaj HR1.out hW) hc0_1 (Kd.qaj HR2.out hW) hc0_2 (rfault_eq l0_0 l0_1 l0_2 h8 x 10 (by omega))).mono fun e w' ⟨h1, h2⟩ => ⟨h1, h2⟩⟩
 have HF0 : qab ((l1.drop 0).all (inFault l0_0) = r) := ⟨by rw [List.drop_zero]; exact h'⟩
 clear h'
 go_enter Try.func69, Try.ntmps69
 go_wp2_with (first | (with_reducible refine qan (N := 2) rfl ?_); refine qam ?hg (N := 2) ?hd (cs := #[.slice A0_0 l0_0.length c0_0, .slice A0_1 l0_1.length c0_1, .slice A0_2 l0_2.length c0_2]) (t := 26) ?hr ?_; (case hd => rfl); (case hg => rfl); (case hr => first | (go_simp; done) | (go_simp; rfl)); intro gb hg_gb w2 hbox hb; have BKgb := qab.mk hbox; have n_HB := qab.mk (qad HB.out hb); have GEgb : w.heap.size ≤ gb := (by rw [hg_gb]; exact HB.out.size); clear HB; have HB := n_HB; clear n_HB; obtain ⟨hfgb, hcgb_0, hcgb_1, hcgb_2⟩ := qz3 BKgb.out; clear hbox hb hg_gb)
 clear hfgb hcgb_0 hcgb_1 hcgb_2
 have HI : qab (BIN w gb #[.slice A0_0 l0_0.length c0_0, .slice A0_1 l0_1.length c0_1, .slice A0_2 l0_2.length c0_2] w2) := ⟨⟨BKgb.out, HB.out⟩⟩
 clear BKgb HB GEgb
 go_loopw [5] (fun s5 wr => ∃ j : Nat, j ≤ l1.length ∧ s5 = .int .i64 j ∧ qab ((l1.drop j).all (inFault l0_0) = r) ∧ qab (BIN w gb #[.slice A0_0 l0_0.length c0_0, .slice A0_1 l0_1.length c0_1, .slice A0_2 l0_2.length c0_2] wr)) (fun s _ => l1.length - (intOf s).toNat)
 case atStart => exact ⟨0, by omega, rfl, HF0, HI⟩
 case round =>
  clear HI HF0
  obtain ⟨j, hj, rfl, HF, HI⟩ := hrel
  by_cases hlt : j < l1.length
  ·
   have hlt1 : (j : Int) < l1.length := by omega
   have hj0 : (0 : Int) ≤ j := by omega
   have hw1 : IntKind.i64.wrap ((j : Int) + 1) = (j : Int) + 1 := by rw [i64_w]; unfold wrap64; omega
   obtain ⟨ad, e, hx⟩ := Kd.at_int (Kd.qaj HRL.out HI.out.hb) j hj0 hlt1
   cases e
   have hf := HF.out
   rw [all_step (inFault l0_0) l1 0 j hlt, show l1.getD j 0 = rd l1 (j : Int) from by simp [rd]] at hf
   simp only [Int.toNat_natCast] at hx
   generalize rd l1 (j : Int) = x at hf hx
   have HX := qab.mk hx
   have HT : qab (∀ W, BIN w gb #[.slice A0_0 l0_0.length c0_0, .slice A0_1 l0_1.length c0_1, .slice A0_2 l0_2.length c0_2] W → Below wr.heap.size wr W → (W.cell? ⟨gb, 0, none⟩ = some (.slice A0_0 l0_0.length c0_0) ∧ W.cell? ⟨gb, 1, none⟩ = some (.slice A0_1 l0_1.length c0_1) ∧ W.cell? ⟨gb, 2, none⟩ = some (.slice A0_2 l0_2.length c0_2) ∧ W.cell? (ad.add j) = some (.int .i64 x) ∧ qab (BIN w gb #[.slice A0_0 l0_0.length c0_0, .slice A0_1 l0_1.length c0_1, .slice A0_2 l0_2.length c0_2] W))) := ⟨fun W h hb => ⟨qaa h.b 0, qaa h.b 1, qaa h.b 2, (hb.cell (World.block_lt_of_cell? wr _ HX.out)).trans HX.out, ⟨h⟩⟩⟩
   have HFA := qab.mk (HFA0.out x)
   obtain ⟨b, hb⟩ : ∃ b, b = inFault l0_0 x := ⟨_, rfl⟩
   rw [← hb] at HFA hf
   clear hb HF hx
   obtain ⟨wO, rfl⟩ : ∃ wo : World, wo = wr := ⟨_, rfl⟩
   cases b with
   | false =>
    rw [Bool.false_and] at hf
    subst hf
    go_upto_region 4 with fail
    refine start_ (n := 7) (S := (fun w' => (w'.cell? ⟨gb, 0, none⟩ = some (.slice A0_0 l0_0.length c0_0) ∧ w'.cell? ⟨gb, 1, none⟩ = some (.slice A0_1 l0_1.length c0_1) ∧ w'.cell? ⟨gb, 2, none⟩ = some (.slice A0_2 l0_2.length c0_2) ∧ w'.cell? (ad.add j) = some (.int .i64 x) ∧ qab (BIN w gb #[.slice A0_0 l0_0.length c0_0, .slice A0_1 l0_1.length c0_1, .slice A0_2 l0_2.length c0_2] w')))) (ds := []) (msk 7 0) (by kernel_rfl) rfl rfl (HT.out wO.drew (BIN.below HI.out (qbb (Below.refl _ _))) (qbb (Below.refl _ _))) (fun hHeld => ?_)
    refine take_ (i := 0) (N := some 12) (v := ?_) (a' := ?_) (msk 7 1) rfl rfl (by kernel_rfl) (fun _ _ _ h => h) (Or.inl ⟨by rfl, ?_⟩) hHeld ?_ ?_; rotate_left; (focus (rintro w' ⟨s0, s1, s2, s3, s4⟩; go_simp; with_reducible rfl)); rotate_left; (focus (simp only [Act.put, qzA, qzB, qzC, i64_w, i32_w]; rfl))
    refine pure_ (i := 1) (N := some 13) (v := ?_) (a' := ?_) (msk 7 2) rfl rfl (by kernel_rfl) (fun _ _ _ h => h) (Or.inl ⟨by rfl, ?_⟩) ?_ ?_; rotate_left; (focus (intro w'; go_simp; with_reducible rfl)); rotate_left; (focus (simp only [Act.put, qzA, qzB, qzC, i64_w, i32_w]; rfl))
    refine pure_ (i := 2) (N := some 14) (v := ?_) (a' := ?_) (msk 7 3) rfl rfl (by kernel_rfl) (fun _ _ _ h => h) (Or.inl ⟨by rfl, ?_⟩) ?_ ?_; rotate_left; (focus (intro w'; go_simp; with_reducible rfl)); rotate_left; (focus (simp only [Act.put, qzA, qzB, qzC, i64_w, i32_w]; rfl))
    refine pure_ (i := 3) (N := some 15) (v := ?_) (a' := ?_) (msk 7 4) rfl rfl (by kernel_rfl) (fun _ _ _ h => h) (Or.inl ⟨by rfl, ?_⟩) ?_ ?_; rotate_left; (focus (intro w'; go_simp; with_reducible rfl)); rotate_left; (focus (simp only [Act.put, qzA, qzB, qzC, i64_w, i32_w]; rfl))
    refine take_ (i := 4) (N := some 16) (v := ?_) (a' := ?_) (msk 7 5) rfl rfl (by kernel_rfl) (fun _ _ _ h => h) (Or.inl ⟨by rfl, ?_⟩) hHeld ?_ ?_; rotate_left; (focus (rintro w' ⟨s0, s1, s2, s3, s4⟩; go_simp; with_reducible rfl)); rotate_left; (focus (simp only [Act.put, qzA, qzB, qzC, i64_w, i32_w]; rfl))
    refine one_ (i := 5) (N := some 17) (msk 7 6) rfl rfl (by kernel_rfl) (by decide) (fun K hK => ?_)
    refine goes_ Try.func26 (by kernel_rfl) rfl #[.agg #[.slice A0_0 l0_0.length c0_0, .slice A0_1 l0_1.length c0_1, .slice A0_2 l0_2.length c0_2], .int .i64 x] (by rfl) rfl rfl (by (try simp only [List.map_toArray, List.map_cons, List.map_nil]); first | done | rfl | (simp only [List.length_drop, List.length_take]; rfl)) ?_
    refine (HFA.out _ (BIN.hb hHeld.2.2.2.2.out)).mono ?_; rintro e w5 ⟨rfl, hb⟩; have HP5 := qab.mk (HT.out w5 (BIN.below hHeld.2.2.2.2.out hb) (qad (qbb (Below.refl wO.heap.size wO)) hb)); clear hb; refine ⟨_, rfl, ?_⟩; refine hK.out _ _ HP5.out (fun hHeld => ?_); clear hK K; refine norm_ (a' := ?_) ?_ ?_; rotate_left; (focus (show Act.put _ (some 17) _ = _; simp only [Act.put, qzA, qzB, qzC, i64_w, i32_w]; rfl))
    refine pure_ (i := 6) (N := some 18) (v := ?_) (a' := ?_) (msk 7 7) rfl rfl (by kernel_rfl) (fun _ _ _ h => h) (Or.inl ⟨by rfl, ?_⟩) ?_ ?_; rotate_left; (focus (intro w'; go_simp; with_reducible rfl)); rotate_left; (focus (simp only [Act.put, qzA, qzB, qzC, i64_w, i32_w]; rfl))
    refine done_ (by kernel_rfl) ?_
    go_wp2_with fail
    go_ret
    exact ⟨rfl, HP5.out.2.2.2.2.out.hb⟩
   | true =>
    rw [Bool.true_and] at hf
    have HF := qab.mk hf
    clear hf
    go_upto_region 4 with fail
    refine start_ (n := 7) (S := (fun w' => (w'.cell? ⟨gb, 0, none⟩ = some (.slice A0_0 l0_0.length c0_0) ∧ w'.cell? ⟨gb, 1, none⟩ = some (.slice A0_1 l0_1.length c0_1) ∧ w'.cell? ⟨gb, 2, none⟩ = some (.slice A0_2 l0_2.length c0_2) ∧ w'.cell? (ad.add j) = some (.int .i64 x) ∧ qab (BIN w gb #[.slice A0_0 l0_0.length c0_0, .slice A0_1 l0_1.length c0_1, .slice A0_2 l0_2.length c0_2] w')))) (ds := []) (msk 7 0) (by kernel_rfl) rfl rfl (HT.out wO.drew (BIN.below HI.out (qbb (Below.refl _ _))) (qbb (Below.refl _ _))) (fun hHeld => ?_)
    refine take_ (i := 0) (N := some 12) (v := ?_) (a' := ?_) (msk 7 1) rfl rfl (by kernel_rfl) (fun _ _ _ h => h) (Or.inl ⟨by rfl, ?_⟩) hHeld ?_ ?_; rotate_left; (focus (rintro w' ⟨s0, s1, s2, s3, s4⟩; go_simp; with_reducible rfl)); rotate_left; (focus (simp only [Act.put, qzA, qzB, qzC, i64_w, i32_w]; rfl))
    refine pure_ (i := 1) (N := some 13) (v := ?_) (a' := ?_) (msk 7 2) rfl rfl (by kernel_rfl) (fun _ _ _ h => h) (Or.inl ⟨by rfl, ?_⟩) ?_ ?_; rotate_left; (focus (intro w'; go_simp; with_reducible rfl)); rotate_left; (focus (simp only [Act.put, qzA, qzB, qzC, i64_w, i32_w]; rfl))
    refine pure_ (i := 2) (N := some 14) (v := ?_) (a' := ?_) (msk 7 3) rfl rfl (by kernel_rfl) (fun _ _ _ h => h) (Or.inl ⟨by rfl, ?_⟩) ?_ ?_; rotate_left; (focus (intro w'; go_simp; with_reducible rfl)); rotate_left; (focus (simp only [Act.put, qzA, qzB, qzC, i64_w, i32_w]; rfl))
    refine pure_ (i := 3) (N := some 15) (v := ?_) (a' := ?_) (msk 7 4) rfl rfl (by kernel_rfl) (fun _ _ _ h => h) (Or.inl ⟨by rfl, ?_⟩) ?_ ?_; rotate_left; (focus (intro w'; go_simp; with_reducible rfl)); rotate_left; (focus (simp only [Act.put, qzA, qzB, qzC, i64_w, i32_w]; rfl))
    refine take_ (i := 4) (N := some 16) (v := ?_) (a' := ?_) (msk 7 5) rfl rfl (by kernel_rfl) (fun _ _ _ h => h) (Or.inl ⟨by rfl, ?_⟩) hHeld ?_ ?_; rotate_left; (focus (rintro w' ⟨s0, s1, s2, s3, s4⟩; go_simp; with_reducible rfl)); rotate_left; (focus (simp only [Act.put, qzA, qzB, qzC, i64_w, i32_w]; rfl))
    refine one_ (i := 5) (N := some 17) (msk 7 6) rfl rfl (by kernel_rfl) (by decide) (fun K hK => ?_)
    refine goes_ Try.func26 (by kernel_rfl) rfl #[.agg #[.slice A0_0 l0_0.length c0_0, .slice A0_1 l0_1.length c0_1, .slice A0_2 l0_2.length c0_2], .int .i64 x] (by rfl) rfl rfl (by (try simp only [List.map_toArray, List.map_cons, List.map_nil]); first | done | rfl | (simp only [List.length_drop, List.length_take]; rfl)) ?_
    refine (HFA.out _ (BIN.hb hHeld.2.2.2.2.out)).mono ?_; rintro e w5 ⟨rfl, hb⟩; have HP5 := qab.mk (HT.out w5 (BIN.below hHeld.2.2.2.2.out hb) (qad (qbb (Below.refl wO.heap.size wO)) hb)); clear hb; refine ⟨_, rfl, ?_⟩; refine hK.out _ _ HP5.out (fun hHeld => ?_); clear hK K; refine norm_ (a' := ?_) ?_ ?_; rotate_left; (focus (show Act.put _ (some 17) _ = _; simp only [Act.put, qzA, qzB, qzC, i64_w, i32_w]; rfl))
    refine pure_ (i := 6) (N := some 18) (v := ?_) (a' := ?_) (msk 7 7) rfl rfl (by kernel_rfl) (fun _ _ _ h => h) (Or.inl ⟨by rfl, ?_⟩) ?_ ?_; rotate_left; (focus (intro w'; go_simp; with_reducible rfl)); rotate_left; (focus (simp only [Act.put, qzA, qzB, qzC, i64_w, i32_w]; rfl))
    refine done_ (by kernel_rfl) ?_
    go_wp2_with fail
    go_roundw
    case rel => exact ⟨j + 1, by omega, by go_num, HF, HP5.out.2.2.2.2⟩
    case measure => simp [intOf]; omega
  ·
   have he := HF.out
   rw [List.drop_eq_nil_of_le (by omega), List.all_nil] at he
   subst he
   go_wp2_with fail
   go_ret
   exact ⟨rfl, HI.out.hb⟩
def faultedV (l0 : List S39) (l1 : List S37) (l2 : List (List Int)) (a : Int) (fs : List Int) : Int :=
 if (fs.length : Int) > 12 then 3 else if (validB l0 l1 l2 && (inB a 0 l0.length && fs.all (inFault l0))) = true then 0 else 2
def taliklaw04_faulted.f (k : Nat) (l0_0 : List (S39)) (l0_1 : List (S37)) (l0_2 : List (List Int)) (a1 : Int) (l2 : List Int) : Option (Int) := if shortB l0_0 l0_1 l0_2 = true then some (faultedV l0_0 l0_1 l0_2 a1 l2) else none
theorem taliklaw04_faulted.calls (k : Nat) (A0_0 : Option Addr) (c0_0 : Nat) (l0_0 : List (S39)) (A0_1 : Option Addr) (c0_1 : Nat) (l0_1 : List (S37)) (A0_2 : Option Addr) (c0_2 : Nat) (l0_2 : List (List Int)) (a1 : Int) (A2 : Option Addr) (c2 : Nat) (l2 : List Int) (r : Int) (w : World) (hr0_0 : Kd.C k39 w A0_0 l0_0.length l0_0) (hc0_0 : l0_0.length ≤ c0_0) (hr0_1 : Kd.C k37 w A0_1 l0_1.length l0_1) (hc0_1 : l0_1.length ≤ c0_1) (hr0_2 : Kd.C (Kd.slice 3 (Kd.int .i64)) w A0_2 l0_2.length l0_2) (hc0_2 : l0_2.length ≤ c0_2) (hr2 : Kd.C (Kd.int .i64) w A2 l2.length l2) (hc2 : l2.length ≤ c2) (h : taliklaw04_faulted.f k l0_0 l0_1 l0_2 a1 l2 = some r) :
  Calls Try.prog 36 #[.agg #[.slice A0_0 l0_0.length c0_0, .slice A0_1 l0_1.length c0_1, .slice A0_2 l0_2.length c0_2], .int .i64 a1, .slice A2 l2.length c2] w fun e w' => e = .returned (.int .i64 r) ∧ Below w.heap.size w w' := by
 unfold taliklaw04_faulted.f at h
 split at h
 case isFalse => cases h
 rename_i hsb
 have hs := short_of hsb
 have h' := Option.some.inj h
 clear h hsb
 have hu26 := Try.underlying26
 have HB := qab.mk (Below.refl w.heap.size w)
 have HR0 := qab.mk hr0_0
 have HR1 := qab.mk hr0_1
 have HR2 := qab.mk hr0_2
 have HRL := qab.mk hr2
 clear hr0_0 hr0_1 hr0_2 hr2
 have HNET : qab (∀ W, Below w.heap.size w W → Calls Try.prog 19 #[.agg #[.slice A0_0 l0_0.length c0_0, .slice A0_1 l0_1.length c0_1, .slice A0_2 l0_2.length c0_2]] W fun e w' => e = .returned (.bool (validB l0_0 l0_1 l0_2)) ∧ Below W.heap.size W w') := ⟨fun W hW => talikref04_Net.calls _ _ _ _ _ _ _ _ _ _ W (Kd.qaj HR0.out hW) hc0_0 (Kd.qaj HR1.out hW) hc0_1 (Kd.qaj HR2.out hW) hc0_2 (net_eq l0_0 l0_1 l0_2 hs 300 (by omega))⟩
 have HPL : qab (∀ W, Below w.heap.size w W → Calls Try.prog 25 #[.agg #[.slice A0_0 l0_0.length c0_0, .slice A0_1 l0_1.length c0_1, .slice A0_2 l0_2.length c0_2], .int .i64 a1] W fun e w' => e = .returned (.bool (inB a1 0 l0_0.length)) ∧ Below W.heap.size W w') := ⟨fun W hW => (talikref04_Place.calls _ _ l0_0 _ _ l0_1 _ _ l0_2 a1 _ W (Kd.qaj HR0.out hW) hc0_0 (Kd.qaj HR1.out hW) hc0_1 (Kd.qaj HR2.out hW) hc0_2 (rplace_eq l0_0 l0_1 l0_2 a1)).mono fun e w' ⟨h1, h2⟩ => ⟨h1, h2⟩⟩
 have HFS : qab (∀ W, Below w.heap.size w W → Calls Try.prog 69 #[.agg #[.slice A0_0 l0_0.length c0_0, .slice A0_1 l0_1.length c0_1, .slice A0_2 l0_2.length c0_2], .slice A2 l2.length c2] W fun e w' => e = .returned (.bool (l2.all (inFault l0_0))) ∧ Below W.heap.size W w') := ⟨fun W hW => talikref04_Faults.calls 10 _ _ l0_0 _ _ l0_1 _ _ l0_2 _ _ l2 _ W (Kd.qaj HR0.out hW) hc0_0 (Kd.qaj HR1.out hW) hc0_1 (Kd.qaj HR2.out hW) hc0_2 (Kd.qaj HRL.out hW) hc2 (by unfold talikref04_Faults.f; rw [if_pos hs.h0])⟩
 unfold faultedV at h'
 obtain ⟨b1, e1⟩ : ∃ b, b = validB l0_0 l0_1 l0_2 := ⟨_, rfl⟩
 obtain ⟨b2, e2⟩ : ∃ b, b = inB a1 0 l0_0.length := ⟨_, rfl⟩
 obtain ⟨b3, e3⟩ : ∃ b, b = l2.all (inFault l0_0) := ⟨_, rfl⟩
 rw [← e1] at HNET h'
 rw [← e2] at HPL h'
 rw [← e3] at HFS h'
 clear e1 e2 e3
 by_cases hl : (12 : Int) < l2.length
 ·
  rw [if_pos hl] at h'
  subst h'
  have d1 : decide ((12 : Int) < l2.length) = true := decide_eq_true hl
  go_enter Try.func36, Try.ntmps36
  go_wp2_with (first | (with_reducible refine qan (N := 3) rfl ?_); refine qam ?hg (N := 3) ?hd (cs := #[.slice A0_0 l0_0.length c0_0, .slice A0_1 l0_1.length c0_1, .slice A0_2 l0_2.length c0_2]) (t := 26) ?hr ?_; (case hd => rfl); (case hg => rfl); (case hr => first | (go_simp; done) | (go_simp; rfl)); intro gb hg_gb w2 hbox hb; have BKgb := qab.mk hbox; have n_HB := qab.mk (qad HB.out hb); have GEgb : w.heap.size ≤ gb := (by rw [hg_gb]; exact HB.out.size); clear HB; have HB := n_HB; clear n_HB; obtain ⟨hfgb, hcgb_0, hcgb_1, hcgb_2⟩ := qz3 BKgb.out; clear hbox hb hg_gb)
  go_ret
  exact ⟨rfl, HB.out⟩
 ·
  rw [if_neg hl] at h'
  have d1 : decide ((12 : Int) < l2.length) = false := decide_eq_false hl
  cases b1 with
  | false =>
   rw [if_neg (by simp)] at h'
   subst h'
   go_enter Try.func36, Try.ntmps36
   go_wp2_with (first | (with_reducible refine qan (N := 3) rfl ?_); refine qam ?hg (N := 3) ?hd (cs := #[.slice A0_0 l0_0.length c0_0, .slice A0_1 l0_1.length c0_1, .slice A0_2 l0_2.length c0_2]) (t := 26) ?hr ?_; (case hd => rfl); (case hg => rfl); (case hr => first | (go_simp; done) | (go_simp; rfl)); intro gb hg_gb w2 hbox hb; have BKgb := qab.mk hbox; have n_HB := qab.mk (qad HB.out hb); have GEgb : w.heap.size ≤ gb := (by rw [hg_gb]; exact HB.out.size); clear HB; have HB := n_HB; clear n_HB; obtain ⟨hfgb, hcgb_0, hcgb_1, hcgb_2⟩ := qz3 BKgb.out; clear hbox hb hg_gb | (go_at_call 19; with_reducible refine (HNET.out _ HB.out).mono ?_; rintro e wn ⟨rfl, hb⟩; replace BKgb := qab.mk (qag BKgb.out hb); replace HB := qab.mk (qad HB.out hb); clear hb; obtain ⟨hfgb, hcgb_0, hcgb_1, hcgb_2⟩ := qz3 BKgb.out))
   go_ret
   exact ⟨rfl, HB.out⟩
  | true =>
   cases b2 with
   | false =>
    rw [if_neg (by simp)] at h'
    subst h'
    go_enter Try.func36, Try.ntmps36
    go_wp2_with (first | (with_reducible refine qan (N := 3) rfl ?_); refine qam ?hg (N := 3) ?hd (cs := #[.slice A0_0 l0_0.length c0_0, .slice A0_1 l0_1.length c0_1, .slice A0_2 l0_2.length c0_2]) (t := 26) ?hr ?_; (case hd => rfl); (case hg => rfl); (case hr => first | (go_simp; done) | (go_simp; rfl)); intro gb hg_gb w2 hbox hb; have BKgb := qab.mk hbox; have n_HB := qab.mk (qad HB.out hb); have GEgb : w.heap.size ≤ gb := (by rw [hg_gb]; exact HB.out.size); clear HB; have HB := n_HB; clear n_HB; obtain ⟨hfgb, hcgb_0, hcgb_1, hcgb_2⟩ := qz3 BKgb.out; clear hbox hb hg_gb | (go_at_call 19; with_reducible refine (HNET.out _ HB.out).mono ?_; rintro e wn ⟨rfl, hb⟩; replace BKgb := qab.mk (qag BKgb.out hb); replace HB := qab.mk (qad HB.out hb); clear hb; obtain ⟨hfgb, hcgb_0, hcgb_1, hcgb_2⟩ := qz3 BKgb.out) | (go_at_call 25; with_reducible refine (HPL.out _ HB.out).mono ?_; rintro e wn ⟨rfl, hb⟩; replace BKgb := qab.mk (qag BKgb.out hb); replace HB := qab.mk (qad HB.out hb); clear hb; obtain ⟨hfgb, hcgb_0, hcgb_1, hcgb_2⟩ := qz3 BKgb.out))
    go_ret
    exact ⟨rfl, HB.out⟩
   | true =>
    cases b3 with
    | false =>
     rw [if_neg (by simp)] at h'
     subst h'
     go_enter Try.func36, Try.ntmps36
     go_wp2_with (first | (with_reducible refine qan (N := 3) rfl ?_); refine qam ?hg (N := 3) ?hd (cs := #[.slice A0_0 l0_0.length c0_0, .slice A0_1 l0_1.length c0_1, .slice A0_2 l0_2.length c0_2]) (t := 26) ?hr ?_; (case hd => rfl); (case hg => rfl); (case hr => first | (go_simp; done) | (go_simp; rfl)); intro gb hg_gb w2 hbox hb; have BKgb := qab.mk hbox; have n_HB := qab.mk (qad HB.out hb); have GEgb : w.heap.size ≤ gb := (by rw [hg_gb]; exact HB.out.size); clear HB; have HB := n_HB; clear n_HB; obtain ⟨hfgb, hcgb_0, hcgb_1, hcgb_2⟩ := qz3 BKgb.out; clear hbox hb hg_gb | (go_at_call 19; with_reducible refine (HNET.out _ HB.out).mono ?_; rintro e wn ⟨rfl, hb⟩; replace BKgb := qab.mk (qag BKgb.out hb); replace HB := qab.mk (qad HB.out hb); clear hb; obtain ⟨hfgb, hcgb_0, hcgb_1, hcgb_2⟩ := qz3 BKgb.out) | (go_at_call 25; with_reducible refine (HPL.out _ HB.out).mono ?_; rintro e wn ⟨rfl, hb⟩; replace BKgb := qab.mk (qag BKgb.out hb); replace HB := qab.mk (qad HB.out hb); clear hb; obtain ⟨hfgb, hcgb_0, hcgb_1, hcgb_2⟩ := qz3 BKgb.out) | (go_at_call 69; with_reducible refine (HFS.out _ HB.out).mono ?_; rintro e wn ⟨rfl, hb⟩; replace BKgb := qab.mk (qag BKgb.out hb); replace HB := qab.mk (qad HB.out hb); clear hb; obtain ⟨hfgb, hcgb_0, hcgb_1, hcgb_2⟩ := qz3 BKgb.out))
     go_ret
     exact ⟨rfl, HB.out⟩
    | true =>
     rw [if_pos (by decide)] at h'
     subst h'
     go_enter Try.func36, Try.ntmps36
     go_wp2_with (first | (with_reducible refine qan (N := 3) rfl ?_); refine qam ?hg (N := 3) ?hd (cs := #[.slice A0_0 l0_0.length c0_0, .slice A0_1 l0_1.length c0_1, .slice A0_2 l0_2.length c0_2]) (t := 26) ?hr ?_; (case hd => rfl); (case hg => rfl); (case hr => first | (go_simp; done) | (go_simp; rfl)); intro gb hg_gb w2 hbox hb; have BKgb := qab.mk hbox; have n_HB := qab.mk (qad HB.out hb); have GEgb : w.heap.size ≤ gb := (by rw [hg_gb]; exact HB.out.size); clear HB; have HB := n_HB; clear n_HB; obtain ⟨hfgb, hcgb_0, hcgb_1, hcgb_2⟩ := qz3 BKgb.out; clear hbox hb hg_gb | (go_at_call 19; with_reducible refine (HNET.out _ HB.out).mono ?_; rintro e wn ⟨rfl, hb⟩; replace BKgb := qab.mk (qag BKgb.out hb); replace HB := qab.mk (qad HB.out hb); clear hb; obtain ⟨hfgb, hcgb_0, hcgb_1, hcgb_2⟩ := qz3 BKgb.out) | (go_at_call 25; with_reducible refine (HPL.out _ HB.out).mono ?_; rintro e wn ⟨rfl, hb⟩; replace BKgb := qab.mk (qag BKgb.out hb); replace HB := qab.mk (qad HB.out hb); clear hb; obtain ⟨hfgb, hcgb_0, hcgb_1, hcgb_2⟩ := qz3 BKgb.out) | (go_at_call 69; with_reducible refine (HFS.out _ HB.out).mono ?_; rintro e wn ⟨rfl, hb⟩; replace BKgb := qab.mk (qag BKgb.out hb); replace HB := qab.mk (qad HB.out hb); clear hb; obtain ⟨hfgb, hcgb_0, hcgb_1, hcgb_2⟩ := qz3 BKgb.out))
     go_ret
     exact ⟨rfl, HB.out⟩
end Go.Proofs.Ytipphcjgdebecaa.PA
namespace Go.Proofs.Ytipphcjgdebecaa.PA
open Go.RowKit Go.Shelf Go.Proofs.YtipphcjgdebecaaW.PrintWords Go.Proofs.YtipphcjgdebecaaW.PrintLast Go.Proofs.YtipphcjgdebecaaW.PrintMore
attribute [local go_sem] qaw qay max_two min_two qas qat qax qaz
def weakP (O : Int → Way) : Int → Int → List Int → Int × Int
 | _, s, [] => (-1, s)
 | j, s, f :: t => if (O f).2.2 = true then weakP O (j + 1) (mn s (O f).2.1) t else (j, 0)
theorem rd_at (l : List Int) (i : Nat) (h : i < l.length) : rd l (i : Int) = l[i] := by simp [rd, h]
theorem weak_go {l0 : List S39} {l1 : List S37} {l2 : List (List Int)} {wp a : Int} {O : Int → Way} (fs : List Int) (hf : fs.length ≤ 1000) (hO : ∀ f ∈ fs, pipe_net_order.f l0 l1 l2 wp a f = some (O f)) :
  ∀ (m j k : Nat) (s : Int), j + m = fs.length → m + 1 ≤ k → pipe_net_weak.l0 k a s fs (fs.length : Int) (j : Int) l0 l1 l2 wp = some (weakP O j s (fs.drop j)) := by
 intro m
 induction m with
 | zero =>
  intro j k s hj hk
  obtain ⟨k, rfl⟩ : ∃ k', k = k' + 1 := ⟨k - 1, by omega⟩
  unfold pipe_net_weak.l0
  rw [if_neg (by omega), List.drop_eq_nil_of_le (by omega)]
  rfl
 | succ m ih =>
  intro j k s hj hk
  obtain ⟨k, rfl⟩ : ∃ k', k = k' + 1 := ⟨k - 1, by omega⟩
  have hlt : j < fs.length := by omega
  unfold pipe_net_weak.l0
  rw [if_pos (by omega), if_pos (by omega), if_pos (by omega), rd_at fs j hlt, hO _ (List.getElem_mem hlt), List.drop_eq_getElem_cons hlt]
  simp only [Option.bind_some, weakP]
  split
  ·
   rw [wsucc j (by omega), ih (j + 1) k _ (by omega) (by omega)]
   rfl
  ·
   rfl
theorem weak_eq {l0 : List S39} {l1 : List S37} {l2 : List (List Int)} {wp a : Int} {O : Int → Way} (fs : List Int) (k : Nat) (hk : fs.length + 1 ≤ k) (hf : fs.length ≤ 1000) (hO : ∀ f ∈ fs, pipe_net_order.f l0 l1 l2 wp a f = some (O f)) :
  pipe_net_weak.f k l0 l1 l2 wp a fs = some (weakP O 0 l1.length fs) := by
 have h := weak_go fs hf hO fs.length 0 k (l1.length : Int) (by omega) (by omega)
 unfold pipe_net_weak.f
 simpa using h
theorem faulted_eq (l0 : List S39) (l1 : List S37) (l2 : List (List Int)) (hs : Short l0 l1 l2) (a : Int) (fs : List Int) (k : Nat) (hk : 300 ≤ k) : taliklaw04_faulted.f k l0 l1 l2 a fs = some (faultedV l0 l1 l2 a fs) := by
 unfold taliklaw04_faulted.f
 rw [if_pos (of_short hs)]
theorem given_same (l0 : List S39) (l1 : List S37) (l2 : List (List Int)) (a : Int) (fs : List Int) : givenV l0 l1 l2 a fs = faultedV l0 l1 l2 a fs := by
 unfold givenV faultedV
 by_cases hl : (fs.length : Int) > 12
 ·
  rw [if_pos (by omega), if_pos hl]
 ·
  rw [if_neg (by omega), if_neg hl]
  cases hv : validB l0 l1 l2 with
  | false => simp
  | true =>
   have hn := (net_ok hv).n1
   have e : (fs.any fun f => !faultB l0 f) = !(fs.all (inFault l0)) := by
    rw [List.not_all_eq_any_not]
    congr 1
    funext f
    rw [fault_same l0 hn f]
   rw [e]
   cases inB a 0 l0.length <;> cases fs.all (inFault l0) <;> rfl
structure FaultsOk (l0 : List S39) (l1 : List S37) (l2 : List (List Int)) (a : Int) (fs : List Int) : Prop where
 len : fs.length ≤ 12
 v : validB l0 l1 l2 = true
 a0 : 0 ≤ a
 a1 : a ≤ l0.length
 all : ∀ f ∈ fs, inFault l0 f = true
theorem faults_ok {l0 : List S39} {l1 : List S37} {l2 : List (List Int)} {a : Int} {fs : List Int} (h : faultedV l0 l1 l2 a fs = 0) : FaultsOk l0 l1 l2 a fs := by
 unfold faultedV at h
 split at h
 ·
  cases h
 ·
  rename_i hl
  split at h
  ·
   rename_i hc
   simp only [Bool.and_eq_true, List.all_eq_true] at hc
   obtain ⟨hv, hp, hf⟩ := hc
   unfold inB at hp
   simp only [Bool.and_eq_true, decide_eq_true_eq] at hp
   exact ⟨by omega, hv, hp.1, hp.2, hf⟩
  ·
   cases h
theorem of_ok {l0 : List S39} {l1 : List S37} {l2 : List (List Int)} {a : Int} {fs : List Int} (h : FaultsOk l0 l1 l2 a fs) : faultedV l0 l1 l2 a fs = 0 := by
 unfold faultedV
 have hl := h.len
 have ha0 := h.a0
 have ha1 := h.a1
 rw [if_neg (by omega), if_pos]
 simp only [Bool.and_eq_true, List.all_eq_true]
 exact ⟨h.v, by unfold inB; simp; omega, h.all⟩
theorem fault_rng {l0 : List S39} {f : Int} (h : inFault l0 f = true) : 0 ≤ f ∧ f < ((2 ^ l0.length : Nat) : Int) := by
 unfold inFault inB at h
 simp only [Bool.and_eq_true, decide_eq_true_eq] at h
 exact ⟨h.1, by omega⟩
theorem weak0_eq {l0 : List S39} {l1 : List S37} {l2 : List (List Int)} {a : Int} {fs : List Int} (h : FaultsOk l0 l1 l2 a fs) (k : Nat) (hk : 13 ≤ k) : pipe_net_weak.f k l0 l1 l2 0 a fs = some (weakP (orderV l0 l1 l2 a) 0 l1.length fs) := by
 have hl := h.len
 exact weak_eq fs k (by omega) (by omega) (fun f hf => net_order_eq h.v a f h.a0 h.a1 (fault_rng (h.all f hf)).1 (fault_rng (h.all f hf)).2)
end Go.Proofs.Ytipphcjgdebecaa.PA
namespace Go.Proofs.Ytipphcjgdebecaa.PA
open Go.RowKit Go.Proofs.YtipphcjgdebecaaW.PrintWords Go.Proofs.YtipphcjgdebecaaW.PrintLast Go.Proofs.YtipphcjgdebecaaW.PrintMore
attribute [local go_sem] qaw qay max_two min_two qas qat qax qaz
structure WMI (w : World) (gb g6 g7 : Nat) (nb : Array Value) (L : S39) (W : World) : Prop where
 b : W.heap[gb]? = some (.cells nb 26 (0, 0))
 r : W.heap[g6]? = some (.cells #[.int .i64 0, .int .i64 0] 37 (0, 0))
 l : W.heap[g7]? = some (.cells #[.int .i64 L.f0.f0, .int .i64 L.f0.f1, .int .i64 L.f1.f0, .int .i64 L.f1.f1, .int .i64 L.f2.f0, .int .i64 L.f2.f1, .int .i64 L.f3, .int .i64 L.f4, .int .i64 L.f5, .int .i64 L.f6, .int .i64 L.f7.f0, .int .i64 L.f7.f1] 39 (0, 0))
 hb : Below w.heap.size w W
 ge : w.heap.size ≤ g6
theorem WMI.below {w W W' : World} {gb g6 g7 : Nat} {nb : Array Value} {L : S39} (h : WMI w gb g6 g7 nb L W) (hb : Below W.heap.size W W') : WMI w gb g6 g7 nb L W' := ⟨qag h.b hb, qag h.r hb, qag h.l hb, qad h.hb hb, h.ge⟩
end Go.Proofs.Ytipphcjgdebecaa.PA
namespace Go.Proofs.Ytipphcjgdebecaa.PA
open Go.RowKit Go.Shelf Go.Proofs.YtipphcjgdebecaaW.PrintWords Go.Proofs.YtipphcjgdebecaaW.PrintLast Go.Proofs.YtipphcjgdebecaaW.PrintMore
attribute [local go_sem] qaw qay max_two min_two qas qat qax qaz
theorem bitB_zero (i : Int) : bitB 0 i = false := by
 unfold bitB
 rw [Int.zero_ediv]
 rfl
def Opens {α : Type} (d : Kd α) (t : TypeId) : Prop := ∀ (H : Type) (enc : TypeId × Value → H) (w : World) (base fuel : Nat) (cs : List Value) (x : DataW H × List MemPlace), DataW.trod enc Try.prog w base (fun _ => true) true fuel t cs = some x → ∃ v, d.K w v cs
theorem opens_int : Opens (Kd.int .i64) 3 := by
 intro H enc w base fuel cs x h
 obtain ⟨n, rfl, _, _⟩ := DataW.trod_int Try.underlying3 h
 exact ⟨n, rfl⟩
theorem cell_of_cells {w : World} {base n : Nat} {a : Addr} {cs : List Value} (h : w.cells? base a n = some cs) : cs.length = n ∧ ∀ i u, cs[i]? = some u → w.cell? (a.add i) = some u := by
 unfold World.cells? at h
 split at h
 ·
  refine ⟨by simpa using mapM_some_length h, fun i u hu => ?_⟩
  have hi : i < n := by
   have h1 := mapM_some_length h
   have h2 := (List.getElem?_eq_some_iff.1 hu).1
   simp at h1
   omega
  have h3 := mapM_some_get h i i (by simp [hi])
  rw [h3]
  exact hu
 ·
  cases h
theorem opens_slice {α : Type} {d : Kd α} {t e : TypeId} (z : α) (ht : Try.prog.underlying t = some (.slice e)) (hz : Try.prog.cellsOf e = d.sz) (hd : Opens d e) : Opens (Kd.slice e d) t := by
 intro H enc w base fuel cs x h
 rcases Deep.open_slice ht h with ⟨rfl, _⟩ | ⟨a, len, cap, m, n, D, Pl, rfl, hb, hl, hm, hmm, _, hel⟩
 ·
  exact ⟨[], none, 0, rfl, Nat.le_refl _, rfl, by simp, fun h => absurd h (by simp)⟩
 ·
  simp only [if_true] at hmm
  subst hmm
  haveI : Inhabited (α × List Value) := ⟨(z, [])⟩
  obtain ⟨F, hF⟩ : ∃ F : Nat → α × List Value, ∀ i, i < len → w.cells? base (a.add (i * Try.prog.cellsOf e)) (Try.prog.cellsOf e) = some (F i).2 ∧ d.K w (F i).1 (F i).2 := by
   have hx : ∀ i, i < len → ∃ q : α × List Value, w.cells? base (a.add (i * Try.prog.cellsOf e)) (Try.prog.cellsOf e) = some q.2 ∧ d.K w q.1 q.2 := fun i hi => by
    obtain ⟨cs', h1, h2⟩ := hel i (by omega)
    obtain ⟨v, hv⟩ := hd H enc w base n cs' _ h2
    exact ⟨(v, cs'), h1, hv⟩
   exact Deep.choose_lt hx
  have hlen : ((List.range len).map fun i => (F i).1).length = len := by simp
  refine ⟨(List.range len).map fun i => (F i).1, some a, m, by rw [hlen], by rw [hlen]; exact hl, rfl, ?_, fun _ => ⟨a, rfl, fun j p hj => ?_⟩⟩
  ·
   rw [hlen]
   have : maxLen ≤ 9223372036854775807 := by decide
   omega
  ·
   obtain ⟨hj1, hj2⟩ := List.getElem?_eq_some_iff.1 hj
   have hjl : j < len := by simpa using hj1
   have hp : p = (F j).1 := by simpa using hj2.symm
   subst hp
   obtain ⟨h1, h2⟩ := hF j hjl
   refine ⟨(F j).2, d.K_len h2, h2, fun i u hu => ?_⟩
   have h3 := (cell_of_cells h1).2 i u hu
   rw [Deep.add_add, hz] at h3
   exact h3
theorem K_pair {α β : Type} {a : Kd α} {b : Kd β} {w : World} {cs : List Value} {o : Nat} {x : α} {y : β} (h1 : a.K w x ((cs.drop o).take a.sz)) (h2 : b.K w y (cs.drop (o + a.sz))) : (Kd.pair a b).K w (x, y) (cs.drop o) :=
 ⟨_, _, by have h := (List.take_append_drop a.sz (cs.drop o)).symm; rwa [List.drop_drop] at h, h1, h2⟩
theorem K_last {α : Type} {a : Kd α} {w : World} {cs : List Value} {o : Nat} {x : α} (h1 : a.K w x ((cs.drop o).take a.sz)) (hl : cs.length = o + a.sz) : a.K w x (cs.drop o) := by
 rwa [List.take_of_length_le (by simp; omega)] at h1
theorem field_of {α : Type} {d : Kd α} {t : TypeId} (hd : Opens d t) (hz : Try.prog.cellsOf t = d.sz) {H : Type} {enc : TypeId × Value → H} {w : World} {base n o : Nat} {cs : List Value} {xs : List (DataW H × List MemPlace)} {i : Nat} (hi : i < xs.length)
  (h : DataW.trod enc Try.prog w base (fun _ => true) true n t ((cs.drop o).take (Try.prog.cellsOf t)) = xs[i]?) : ∃ v, d.K w v ((cs.drop o).take d.sz) := by
 rw [hz, List.getElem?_eq_getElem hi] at h
 exact hd H enc w base n _ _ h
theorem opens_37 : Opens k37 37 := by
 intro H enc w base fuel cs x h
 obtain ⟨xs, n, rfl, rfl, hl, hxl, hf⟩ := DataW.trod_struct Try.underlying37 h
 have hl' : cs.length = 2 := hl.trans (by kernel_rfl)
 have hx : xs.length = 2 := hxl
 obtain ⟨v0, e0⟩ := field_of opens_int (by kernel_rfl) (i := 0) (by omega) (hf 0 _ rfl)
 obtain ⟨v1, e1⟩ := field_of opens_int (by kernel_rfl) (i := 1) (by omega) (hf 1 _ rfl)
 exact ⟨⟨v0, v1⟩, K_pair (o := 0) e0 (K_last (o := 0 + 1) e1 hl')⟩
theorem opens_39 : Opens k39 39 := by
 intro H enc w base fuel cs x h
 obtain ⟨xs, n, rfl, rfl, hl, hxl, hf⟩ := DataW.trod_struct Try.underlying39 h
 have hl' : cs.length = 12 := hl.trans (by kernel_rfl)
 have hx : xs.length = 8 := hxl
 obtain ⟨v0, e0⟩ := field_of opens_37 (by kernel_rfl) (i := 0) (by omega) (hf 0 _ rfl)
 obtain ⟨v1, e1⟩ := field_of opens_37 (by kernel_rfl) (i := 1) (by omega) (hf 1 _ rfl)
 obtain ⟨v2, e2⟩ := field_of opens_37 (by kernel_rfl) (i := 2) (by omega) (hf 2 _ rfl)
 obtain ⟨v3, e3⟩ := field_of opens_int (by kernel_rfl) (i := 3) (by omega) (hf 3 _ rfl)
 obtain ⟨v4, e4⟩ := field_of opens_int (by kernel_rfl) (i := 4) (by omega) (hf 4 _ rfl)
 obtain ⟨v5, e5⟩ := field_of opens_int (by kernel_rfl) (i := 5) (by omega) (hf 5 _ rfl)
 obtain ⟨v6, e6⟩ := field_of opens_int (by kernel_rfl) (i := 6) (by omega) (hf 6 _ rfl)
 obtain ⟨v7, e7⟩ := field_of opens_37 (by kernel_rfl) (i := 7) (by omega) (hf 7 _ rfl)
 exact ⟨⟨v0, v1, v2, v3, v4, v5, v6, v7⟩, K_pair (o := 0) e0 (K_pair (o := 0 + 2) e1 (K_pair (o := 0 + 2 + 2) e2 (K_pair (o := 0 + 2 + 2 + 2) e3 (K_pair (o := 0 + 2 + 2 + 2 + 1) e4 (K_pair (o := 0 + 2 + 2 + 2 + 1 + 1) e5 (K_pair (o := 0 + 2 + 2 + 2 + 1 + 1 + 1) e6 (K_last (o := 0 + 2 + 2 + 2 + 1 + 1 + 1 + 1) e7 hl')))))))⟩
theorem opens_22 : Opens (Kd.slice 39 k39) 22 := opens_slice z39 Try.underlying22 (by kernel_rfl) opens_39
theorem opens_23 : Opens (Kd.slice 37 k37) 23 := opens_slice z37 Try.underlying23 (by kernel_rfl) opens_37
theorem opens_47 : Opens (Kd.slice 3 (Kd.int .i64)) 47 := opens_slice 0 Try.underlying47 (by kernel_rfl) opens_int
theorem opens_24 : Opens (Kd.slice 47 (Kd.slice 3 (Kd.int .i64))) 24 := opens_slice [] Try.underlying24 (by kernel_rfl) opens_47
theorem open_net {H : Type} {enc : TypeId × Value → H} {w : World} {b0 : Nat} {v : Value} {d : DataW H} {p : List MemPlace} (hv : Value.okWide Try.prog w .any b0 26 v) (h : DataW.Trod enc Try.prog w 0 (fun _ => true) true 26 v d p) :
  ∃ (A0 : Option Addr) (c0 : Nat) (l0 : List S39) (A1 : Option Addr) (c1 : Nat) (l1 : List S37) (A2 : Option Addr) (c2 : Nat) (l2 : List (List Int)), v = .agg #[.slice A0 l0.length c0, .slice A1 l1.length c1, .slice A2 l2.length c2] ∧
   Kd.C k39 w A0 l0.length l0 ∧ l0.length ≤ c0 ∧ Kd.C k37 w A1 l1.length l1 ∧ l1.length ≤ c1 ∧ Kd.C (Kd.slice 3 (Kd.int .i64)) w A2 l2.length l2 ∧ l2.length ≤ c2 := by
 obtain ⟨v0, v1, v2, y0, y1, y2, n, rfl, _, _, h0, h1, h2⟩ := Joins.open_agg3 Try.underlying26 (by kernel_rfl) (by kernel_rfl) hv h
 obtain ⟨l0, A0, c0, e0, f0, g0⟩ := opens_22 H enc w 0 n _ _ h0
 obtain ⟨l1, A1, c1, e1, f1, g1⟩ := opens_23 H enc w 0 n _ _ h1
 obtain ⟨l2, A2, c2, e2, f2, g2⟩ := opens_24 H enc w 0 n _ _ h2
 injection e0 with e0 _
 injection e1 with e1 _
 injection e2 with e2 _
 subst e0 e1 e2
 exact ⟨A0, c0, l0, A1, c1, l1, A2, c2, l2, rfl, g0, f0, g1, f1, g2, f2⟩
theorem open_nums {H : Type} {enc : TypeId × Value → H} {w : World} {b0 : Nat} {v : Value} {d : DataW H} {p : List MemPlace} (hv : Value.okWide Try.prog w .any b0 47 v) (h : DataW.Trod enc Try.prog w 0 (fun _ => true) true 47 v d p) :
  ∃ (A : Option Addr) (c : Nat) (l : List Int), v = .slice A l.length c ∧ Kd.C (Kd.int .i64) w A l.length l ∧ l.length ≤ c := by
 obtain ⟨a, len, cap, rfl⟩ := WideShapes.okWide_slice Try.underlying47 hv
 obtain ⟨n, hn⟩ := h
 obtain ⟨l, A, c, e, f, g⟩ := opens_47 H enc w 0 n _ _ hn
 simp [Value.cells] at e
 obtain ⟨rfl, rfl, rfl⟩ := e
 exact ⟨_, _, l, rfl, g, f⟩
end Go.Proofs.Ytipphcjgdebecaa.PA
namespace Go.Proofs.Ytipphcjgdebecaa.PA
open Go.RowKit Go.Proofs.YtipphcjgdebecaaW.PrintWords Go.Proofs.YtipphcjgdebecaaW.PrintLast Go.Proofs.YtipphcjgdebecaaW.PrintMore
attribute [local go_sem] qaw qay max_two min_two qas qat qax qaz
end Go.Proofs.Ytipphcjgdebecaa.PA
