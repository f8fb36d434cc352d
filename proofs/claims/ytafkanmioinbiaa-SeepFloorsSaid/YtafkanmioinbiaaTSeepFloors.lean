/- The law SeepFloors of the seat: whatever the input, the call returns true, and each argument reads afterwards as it did before. No condition. -/
import Derived.Test.YtafkanmioinbiaaRows
import Derived.Test.YtafkanmioinbiaaFoE
import Derived.Test.YtafkanmioinbiaaFoD
import Derived.WalkKit
import Derived.ProofKit
import Derived.OpenShut
import Derived.ShutString
import Derived.ChangeOld
import Derived.Below
import Derived.SizedLaws
import Derived.Test.YtafkanmioinbiaaSA
import Derived.Test.YtafkanmioinbiaaSB
import Derived.Test.YtafkanmioinbiaaSC
import Derived.Test.YtafkanmioinbiaaSD
import Derived.Test.YtafkanmioinbiaaSE
import Derived.Test.YtafkanmioinbiaaSF
import Derived.Test.YtafkanmioinbiaaSG
import Derived.Test.YtafkanmioinbiaaSH
import Derived.Test.YtafkanmioinbiaaSI
import Derived.Test.YtafkanmioinbiaaSJ
import Derived.Test.YtafkanmioinbiaaSK
import Derived.Test.YtafkanmioinbiaaSL
import Derived.Test.YtafkanmioinbiaaSM
import Derived.Test.YtafkanmioinbiaaSN
import Derived.Test.YtafkanmioinbiaaSO
import Derived.Test.YtafkanmioinbiaaSP
import Derived.Test.YtafkanmioinbiaaSQ
import Derived.Test.YtafkanmioinbiaaFoA
import Derived.Test.YtafkanmioinbiaaFoB
import Derived.Test.YtafkanmioinbiaaFoC
namespace Go.Proofs.Ytafkanmioinbiaa.seepFloors
open Go.ChangeShapes Go.WideShapes Go.ChangeAt Go.RowKit Go.Proofs.Ytafkanmioinbiaa.SA
open Go.ChangeMaps (open_string shut_string)
set_option linter.unusedVariables false
theorem own : ownKnob Try.prog.godebug = none := by kernel_rfl
theorem laidOut : laidOutB Try.prog = true := by kernel_rfl
set_option maxRecDepth 100000 in
theorem lifted (os : Os) (started : os.Started) (H : Type) (enc : TypeId × Value → H) :
    ReturnsInHanded {} Try.checked os 10 .any (Rows.seepFloorsSpec.pre6 enc Try.prog Try.f10 Rows.seepFloorsRow.domain false) (Rows.seepFloorsSpec.post enc Try.prog Try.f10 false true false false) := by
  refine returnsInHanded_of_change_sized (C := Try.checked) own started (by kernel_rfl) Try.func10
    (ChangeSpec.witness6 (enc := enc) (C := Try.checked) false ⟨#[], #[.agg #[.int .i64 0, .slice none 0 0, .slice none 0 0, .slice none 0 0, .slice none 0 0, .slice none 0 0], .slice none 0 0, .slice none 0 0], []⟩ 8 (by kernel_rfl) (by kernel_rfl) (by kernel_rfl) (by kernel_rfl)) ?_
  intro W base args ds gs before hval0 hW hcnd hsz0 _
  have hval : ∀ (j : Nat) t v, Try.f10.params[j]? = some t → args[j]? = some v → Value.okWide Try.prog W .any base t v := hval0
  have hW' := hW
  obtain ⟨p, q, hA0, hV, rfl, hfz, hnd⟩ := hW
  have hA : DataW.TrodAll enc Try.prog W 0 (fun _ => true) true Try.f10.params.toList args.toList ds p := hA0
  rw [Try.params10] at hA hval
  obtain ⟨v0, vs0, d0, ds0, p0, q0, hargs, rfl, rfl, h0, r0⟩ := trodAll_cons hA
  obtain ⟨v1, vs1, d1, ds1, p1, q1, rfl, rfl, rfl, h1, r1⟩ := trodAll_cons r0
  obtain ⟨v2, vs2, d2, ds2, p2, q2, rfl, rfl, rfl, h2, r2⟩ := trodAll_cons r1
  obtain ⟨rfl, rfl, rfl⟩ := trodAll_nil r2
  obtain rfl : args = #[v0, v1, v2] := by cases args; simp_all
  obtain ⟨rfl, rfl⟩ := trodVars_none hV
  have k0 := h0
  have lt0 : ∀ x ∈ p0, x.block < W.heap.size := by obtain ⟨m, hm⟩ := k0; exact DataW.trod_lt m _ _ _ hm
  obtain ⟨m0, A01, c01, l01, A02, c02, l02, A03, c03, l03, A04, c04, l04, A05, c05, l05, rfl, f01, g01, f02, g02, f03, g03, f04, g04, f05, g05⟩ := open_map (hval 0 27 v0 rfl rfl) h0
  have k1 := h1
  have lt1 : ∀ x ∈ p1, x.block < W.heap.size := by obtain ⟨m, hm⟩ := k1; exact DataW.trod_lt m _ _ _ hm
  obtain ⟨A1, c1, l1, rfl, f1, g1⟩ := open_rows (hval 1 58 v1 rfl rfl) h1
  have k2 := h2
  have lt2 : ∀ x ∈ p2, x.block < W.heap.size := by obtain ⟨m, hm⟩ := k2; exact DataW.trod_lt m _ _ _ hm
  obtain ⟨A2, c2, l2, rfl, f2, g2⟩ := open_nums (hval 2 23 v2 rfl rfl) h2
  clear hA0 hval0 hsz0
  refine (taliklaw07_SeepFloors.calls (499 + 1) m0 _ _ l01 _ _ l02 _ _ l03 _ _ l04 _ _ l05 _ _ l1 _ _ l2 true W f01 g01 f02 g02 f03 g03 f04 g04 f05 g05 f1 g1 f2 g2 (floors_true 499 (by decide) m0 l01 l02 l03 l04 l05 l1 l2)).mono fun e W' ⟨he, bel⟩ => ?_
  subst he
  exact ⟨_, rfl, _, _, _, [], _, [], hW', trodAll_mk1 (shut_bool Try.underlying4 _), (trodAll_cons_mk (Below.trod laidOut (by kernel_rfl) (of_decide_eq_true (by kernel_rfl)) k0 bel lt0) (trodAll_cons_mk (Below.trod laidOut (by kernel_rfl) (of_decide_eq_true (by kernel_rfl)) k1 bel lt1) (trodAll_cons_mk (Below.trod laidOut (by kernel_rfl) (of_decide_eq_true (by kernel_rfl)) k2 bel lt2) trodAll_mk0))), rfl, bel.frame _, fun h => by cases h⟩
theorem over : Rows.seepFloorsRow.holds Try.pinned (OpenSpec.ofChange Rows.seepFloorsSpec) :=
  OpenClaim.holds_of_wide 10 Try.f10 rfl rfl rfl rfl rfl rfl rfl ⟨rfl, rfl, rfl, rfl, rfl⟩ rfl rfl rfl rfl rfl (by kernel_rfl) Try.func10 (by kernel_rfl)
    (of_decide_eq_true (by kernel_rfl)) (by unfold Func.isWrapper; first | (rw [if_pos (by decide +kernel)]; kernel_rfl) | (rw [if_neg (by decide +kernel)]; exact ⟨rfl, rfl⟩))
    (fun os started H enc _ => lifted os started H enc)
theorem proved : Rows.SeepFloorsSaid := over
#print axioms proved
end Go.Proofs.Ytafkanmioinbiaa.seepFloors
namespace Go.Proofs.Ytafkanmioinbiaa
/-- The row, under a short name, for the claim. -/
theorem seepFloors_holds : Rows.SeepFloorsSaid := seepFloors.proved
end Go.Proofs.Ytafkanmioinbiaa
