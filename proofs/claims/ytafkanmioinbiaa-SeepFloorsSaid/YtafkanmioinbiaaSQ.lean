/- What functions of the program answer. No condition. -/
import Derived.Test.YtafkanmioinbiaaSC
import Derived.Test.YtafkanmioinbiaaSD
import Derived.Test.YtafkanmioinbiaaSF
import Derived.Test.YtafkanmioinbiaaSG
import Derived.Test.YtafkanmioinbiaaSH
import Derived.Test.YtafkanmioinbiaaSI
import Derived.Test.YtafkanmioinbiaaSJ
import Derived.Test.YtafkanmioinbiaaSL
import Derived.Test.YtafkanmioinbiaaSM
import Derived.Test.YtafkanmioinbiaaSO
import Derived.Test.YtafkanmioinbiaaSP
set_option linter.all false
set_option maxRecDepth 100000
set_option maxHeartbeats 8000000
namespace Go.Proofs.Ytafkanmioinbiaa.SA
open Go.RowKit Go.Proofs.YtafkanmioinbiaaW.PrintWords Go.Proofs.YtafkanmioinbiaaW.PrintLast Go.Proofs.YtafkanmioinbiaaW.PrintMore
attribute [local go_sem] qax qaz max_two min_two qao qap qay qba
structure MapC (l1 : List S44) (l2 l3 : List Int) (l4 : List S41) (l5 : List S95) (A1 : Option Addr) (c1 : Nat) (A2 : Option Addr) (c2 : Nat) (A3 : Option Addr) (c3 : Nat) (A4 : Option Addr) (c4 : Nat) (A5 : Option Addr) (c5 : Nat) (W : World) : Prop where
 r1 : Kd.C k44 W A1 l1.length l1
 h1 : l1.length ≤ c1
 r2 : Kd.C (Kd.int .i64) W A2 l2.length l2
 h2 : l2.length ≤ c2
 r3 : Kd.C (Kd.int .i64) W A3 l3.length l3
 h3 : l3.length ≤ c3
 r4 : Kd.C k41 W A4 l4.length l4
 h4 : l4.length ≤ c4
 r5 : Kd.C k95 W A5 l5.length l5
 h5 : l5.length ≤ c5
section
variable {l1 : List S44} {l2 l3 : List Int} {l4 : List S41} {l5 : List S95} {A1 A2 A3 A4 A5 : Option Addr} {c1 c2 c3 c4 c5 : Nat} {W W' : World}
theorem MapC.below (h : MapC l1 l2 l3 l4 l5 A1 c1 A2 c2 A3 c3 A4 c4 A5 c5 W) (hb : Below W.heap.size W W') : MapC l1 l2 l3 l4 l5 A1 c1 A2 c2 A3 c3 A4 c4 A5 c5 W' :=
 ⟨Kd.qai h.r1 hb, h.h1, Kd.qai h.r2 hb, h.h2, Kd.qai h.r3 hb, h.h3, Kd.qai h.r4 hb, h.h4, Kd.qai h.r5 hb, h.h5⟩
theorem map_known (hf : taliklaw07_M.f = some (5, l1, l2, l3, l4, l5)) (W : World) : Calls Try.prog 53 #[] W fun e w' => ∃ A1 c1 A2 c2 A3 c3 A4 c4 A5 c5, e = .returned (.agg #[.int .i64 5, .slice A1 l1.length c1, .slice A2 l2.length c2, .slice A3 l3.length c3, .slice A4 l4.length c4, .slice A5 l5.length c5]) ∧ MapC l1 l2 l3 l4 l5 A1 c1 A2 c2 A3 c3 A4 c4 A5 c5 w' ∧ Below W.heap.size W w' := by
 refine (taliklaw07_M.calls 5 l1 l2 l3 l4 l5 W hf).mono ?_
 rintro e w' ⟨v1, v2, v3, v4, v5, rfl, h1, h2, h3, h4, h5, hb⟩
 obtain ⟨A1, n1, d1, rfl⟩ := R_shape h1
 obtain ⟨A2, n2, d2, rfl⟩ := R_shape h2
 obtain ⟨A3, n3, d3, rfl⟩ := R_shape h3
 obtain ⟨A4, n4, d4, rfl⟩ := R_shape h4
 obtain ⟨A5, n5, d5, rfl⟩ := R_shape h5
 obtain ⟨rfl, e1, f1⟩ := Kd.R_reads' h1
 obtain ⟨rfl, e2, f2⟩ := Kd.R_reads' h2
 obtain ⟨rfl, e3, f3⟩ := Kd.R_reads' h3
 obtain ⟨rfl, e4, f4⟩ := Kd.R_reads' h4
 obtain ⟨rfl, e5, f5⟩ := Kd.R_reads' h5
 exact ⟨_, _, _, _, _, _, _, _, _, _, rfl, ⟨f1, e1, f2, e2, f3, e3, f4, e4, f5, e5⟩, hb⟩
theorem play_known (h : MapC l1 l2 l3 l4 l5 A1 c1 A2 c2 A3 c3 A4 c4 A5 c5 W) (hf : playV 5 l1 l2 l3 l4 l5 [] [600, 600, 720, 720] = ([0, 0, 0, 2, 0], 0)) :
  Calls Try.prog 18 #[.agg #[.int .i64 5, .slice A1 l1.length c1, .slice A2 l2.length c2, .slice A3 l3.length c3, .slice A4 l4.length c4, .slice A5 l5.length c5], .slice none 0 0, .slice (some ⟨W.heap.size, 0, none⟩) 4 4] (W.alloc (.cells #[.int .i64 600, .int .i64 600, .int .i64 720, .int .i64 720] 3)) fun e w' => ∃ b v, e = .returned (.tuple #[v, .int .i64 0]) ∧ Kd.R (Kd.int .i64) 3 w' b (fun _ => True) v [0, 0, 0, 2, 0] ∧ Below W.heap.size W w' := by
 have hb := qag (Below.refl W.heap.size W) (.cells #[.int .i64 600, .int .i64 600, .int .i64 720, .int .i64 720] 3)
 have h' := h.below hb
 refine (seep_Play.calls 5 A1 c1 l1 A2 c2 l2 A3 c3 l3 A4 c4 l4 A5 c5 l5 none 0 [] _ 4 [600, 600, 720, 720] _ _ _ h'.r1 h'.h1 h'.r2 h'.h2 h'.r3 h'.h3 h'.r4 h'.h4 h'.r5 h'.h5 (Kd.R_reads' (Kd.R_nil (Kd.int .i64) 3 _ 0 (fun _ => True))).2.2 (by decide) (new_ints W [600, 600, 720, 720] (by decide)) (by decide) (by unfold seep_Play.f; rw [hf])).mono ?_
 rintro e w' ⟨v, h1, h2, h3⟩
 exact ⟨_, v, h1, h2, qae hb h3⟩
theorem years_known (h : MapC l1 l2 l3 l4 l5 A1 c1 A2 c2 A3 c3 A4 c4 A5 c5 W) (ys : List S41) (hf : yearsV 5 l1 l2 l3 l4 l5 [2] = (ys, 0)) :
  Calls Try.prog 23 #[.agg #[.int .i64 5, .slice A1 l1.length c1, .slice A2 l2.length c2, .slice A3 l3.length c3, .slice A4 l4.length c4, .slice A5 l5.length c5], .slice (some ⟨W.heap.size, 0, none⟩) 1 1] (W.alloc (.cells #[.int .i64 2] 3)) fun e w' => ∃ b v, e = .returned (.tuple #[v, .int .i64 0]) ∧ Kd.R k41 41 w' b (fun _ => True) v ys ∧ Below W.heap.size W w' := by
 have hb := qag (Below.refl W.heap.size W) (.cells #[.int .i64 2] 3)
 have h' := h.below hb
 refine (seep_Years.calls 5 A1 c1 l1 A2 c2 l2 A3 c3 l3 A4 c4 l4 A5 c5 l5 _ 1 [2] _ _ _ h'.r1 h'.h1 h'.r2 h'.h2 h'.r3 h'.h3 h'.r4 h'.h4 h'.r5 h'.h5 (new_ints W [2] (by decide)) (by decide) (by unfold seep_Years.f; rw [hf])).mono ?_
 rintro e w' ⟨v, h1, h2, h3⟩
 exact ⟨_, v, h1, h2, qae hb h3⟩
theorem route_known (h : MapC l1 l2 l3 l4 l5 A1 c1 A2 c2 A3 c3 A4 c4 A5 c5 W) (hf : routeF 5 l1 l2 l3 l4 l5 [2] 3 = ([0, 5, 3], 0)) :
  Calls Try.prog 28 #[.agg #[.int .i64 5, .slice A1 l1.length c1, .slice A2 l2.length c2, .slice A3 l3.length c3, .slice A4 l4.length c4, .slice A5 l5.length c5], .slice (some ⟨W.heap.size, 0, none⟩) 1 1, .int .i64 3] (W.alloc (.cells #[.int .i64 2] 3)) fun e w' => ∃ b v, e = .returned (.tuple #[v, .int .i64 0]) ∧ Kd.R (Kd.int .i64) 3 w' b (fun _ => True) v [0, 5, 3] ∧ Below W.heap.size W w' := by
 have hb := qag (Below.refl W.heap.size W) (.cells #[.int .i64 2] 3)
 have h' := h.below hb
 refine (seep_Route.calls 5 A1 c1 l1 A2 c2 l2 A3 c3 l3 A4 c4 l4 A5 c5 l5 _ 1 [2] 3 _ _ _ h'.r1 h'.h1 h'.r2 h'.h2 h'.r3 h'.h3 h'.r4 h'.h4 h'.r5 h'.h5 (new_ints W [2] (by decide)) (by decide) (by unfold seep_Route.f; rw [hf])).mono ?_
 rintro e w' ⟨v, h1, h2, h3⟩
 exact ⟨_, v, h1, h2, qae hb h3⟩
theorem dykes_known (h' : MapC l1 l2 l3 l4 l5 A1 c1 A2 c2 A3 c3 A4 c4 A5 c5 W) (hf : dykesV 5 l1 l2 l3 l4 l5 = ([0, 2], 500, 0)) :
  Calls Try.prog 33 #[.agg #[.int .i64 5, .slice A1 l1.length c1, .slice A2 l2.length c2, .slice A3 l3.length c3, .slice A4 l4.length c4, .slice A5 l5.length c5]] W fun e w' => ∃ b v, e = .returned (.tuple #[v, .int .i64 500, .int .i64 0]) ∧ Kd.R (Kd.int .i64) 3 w' b (fun _ => True) v [0, 2] ∧ Below W.heap.size W w' := by
 refine (seep_Dykes.calls 5 A1 c1 l1 A2 c2 l2 A3 c3 l3 A4 c4 l4 A5 c5 l5 _ _ _ _ h'.r1 h'.h1 h'.r2 h'.h2 h'.r3 h'.h3 h'.r4 h'.h4 h'.r5 h'.h5 (by unfold seep_Dykes.f; rw [hf])).mono ?_
 rintro e w' ⟨v, h1, h2, h3⟩
 exact ⟨_, v, h1, h2, h3⟩
theorem drain_known (h' : MapC l1 l2 l3 l4 l5 A1 c1 A2 c2 A3 c3 A4 c4 A5 c5 W) (ys : List S41) (hf : drainV 5 l1 l2 l3 l4 l5 = (ys, 0)) :
  Calls Try.prog 45 #[.agg #[.int .i64 5, .slice A1 l1.length c1, .slice A2 l2.length c2, .slice A3 l3.length c3, .slice A4 l4.length c4, .slice A5 l5.length c5]] W fun e w' => ∃ b v, e = .returned (.tuple #[v, .int .i64 0]) ∧ Kd.R k41 41 w' b (fun _ => True) v ys ∧ Below W.heap.size W w' := by
 refine (seep_Drain.calls 5 A1 c1 l1 A2 c2 l2 A3 c3 l3 A4 c4 l4 A5 c5 l5 _ _ _ h'.r1 h'.h1 h'.r2 h'.h2 h'.r3 h'.h3 h'.r4 h'.h4 h'.r5 h'.h5 (by unfold seep_Drain.f; rw [hf])).mono ?_
 rintro e w' ⟨v, h1, h2, h3⟩
 exact ⟨_, v, h1, h2, h3⟩
theorem floor_rows (W : World) (a b : List Int) (n : a.length = 2) (m : b.length = 2) (p : List Int) (hp : p.length = 2) :
  let W4 := (((W.alloc (.cells (a.map (Value.int .i64)).toArray 3)).alloc (.cells (b.map (Value.int .i64)).toArray 3)).alloc (.cells #[.slice (some ⟨W.heap.size, 0, none⟩) 2 2, .slice (some ⟨W.heap.size + 1, 0, none⟩) 2 2] 23)).alloc (.cells (p.map (Value.int .i64)).toArray 3)
  Kd.C (Kd.slice 3 (Kd.int .i64)) W4 (some ⟨W.heap.size + 1 + 1, 0, none⟩) 2 [a, b] ∧ Kd.C (Kd.int .i64) W4 (some ⟨W.heap.size + 1 + 1 + 1, 0, none⟩) 2 p ∧ Below W.heap.size W W4 := by
 intro W4
 obtain ⟨W1, hW1⟩ : ∃ x, x = W.alloc (.cells (a.map (Value.int .i64)).toArray 3) := ⟨_, rfl⟩
 obtain ⟨W2, hW2⟩ : ∃ x, x = W1.alloc (.cells (b.map (Value.int .i64)).toArray 3) := ⟨_, rfl⟩
 obtain ⟨W3, hW3⟩ : ∃ x, x = W2.alloc (.cells #[.slice (some ⟨W.heap.size, 0, none⟩) 2 2, .slice (some ⟨W.heap.size + 1, 0, none⟩) 2 2] 23) := ⟨_, rfl⟩
 have e4 : W4 = W3.alloc (.cells (p.map (Value.int .i64)).toArray 3) := by rw [hW3, hW2, hW1]
 have s1 : W1.heap.size = W.heap.size + 1 := by rw [hW1]; simp
 have s2 : W2.heap.size = W.heap.size + 1 + 1 := by rw [hW2]; simp [s1]
 have s3 : W3.heap.size = W.heap.size + 1 + 1 + 1 := by rw [hW3]; simp [s2]
 have b1 : Below W.heap.size W W1 := by rw [hW1]; exact qag (Below.refl _ _) _
 have b2 : Below W1.heap.size W1 W2 := by rw [hW2]; exact qag (Below.refl _ _) _
 have b3 : Below W2.heap.size W2 W3 := by rw [hW3]; exact qag (Below.refl _ _) _
 have b4 : Below W3.heap.size W3 W4 := by rw [e4]; exact qag (Below.refl _ _) _
 have b24 := qae b3 b4
 have ra : Kd.C (Kd.int .i64) W4 (some ⟨W.heap.size, 0, none⟩) 2 a := by
  have h := new_ints W a (by omega)
  rw [n, ← hW1] at h
  exact Kd.qai (Kd.qai h b2) b24
 have rb : Kd.C (Kd.int .i64) W4 (some ⟨W.heap.size + 1, 0, none⟩) 2 b := by
  have h := new_ints W1 b (by omega)
  rw [m, ← hW2, s1] at h
  exact Kd.qai h b24
 have rp : Kd.C (Kd.int .i64) W4 (some ⟨W.heap.size + 1 + 1 + 1, 0, none⟩) 2 p := by
  have h := new_ints W3 p (by omega)
  rw [hp, ← e4, s3] at h
  exact h
 have hx : W4.heap[W.heap.size + 1 + 1]? = some (.cells #[.slice (some ⟨W.heap.size, 0, none⟩) 2 2, .slice (some ⟨W.heap.size + 1, 0, none⟩) 2 2] 23 (0, 0)) := by
  have h := blk_new W2 (.cells #[.slice (some ⟨W.heap.size, 0, none⟩) 2 2, .slice (some ⟨W.heap.size + 1, 0, none⟩) 2 2] 23)
  rw [← hW3, s2] at h
  exact qad h b4
 refine ⟨⟨rfl, by decide, fun _ => ⟨_, rfl, ?_⟩⟩, rp, qae (qae b1 b2) b24⟩
 intro j q hj
 match j, hj with
 | 0, hj =>
  have hj : a = q := Option.some.inj hj
  subst hj
  refine ⟨[.slice (some ⟨W.heap.size, 0, none⟩) 2 2], rfl, ⟨some ⟨W.heap.size, 0, none⟩, 2, by rw [n], by omega, by rw [n]; exact ra⟩, ?_⟩
  intro i u hi
  match i, hi with
  | 0, hi => exact (qaa hx 0).trans hi
 | 1, hj =>
  have hj : b = q := Option.some.inj hj
  subst hj
  refine ⟨[.slice (some ⟨W.heap.size + 1, 0, none⟩) 2 2], rfl, ⟨some ⟨W.heap.size + 1, 0, none⟩, 2, by rw [m], by omega, by rw [m]; exact rb⟩, ?_⟩
  intro i u hi
  match i, hi with
  | 0, hi => exact (qaa hx 1).trans hi
theorem floor_known (h : MapC l1 l2 l3 l4 l5 A1 c1 A2 c2 A3 c3 A4 c4 A5 c5 W) (hf : floorV 5 l1 l2 l3 l4 l5 [[0, 1], [2, 3]] [300, 200] = some (500, 0)) :
  Calls Try.prog 39 #[.agg #[.int .i64 5, .slice A1 l1.length c1, .slice A2 l2.length c2, .slice A3 l3.length c3, .slice A4 l4.length c4, .slice A5 l5.length c5], .slice (some ⟨W.heap.size + 1 + 1, 0, none⟩) 2 2, .slice (some ⟨W.heap.size + 1 + 1 + 1, 0, none⟩) 2 2] ((((W.alloc (.cells #[.int .i64 0, .int .i64 1] 3)).alloc (.cells #[.int .i64 2, .int .i64 3] 3)).alloc (.cells #[.slice (some ⟨W.heap.size, 0, none⟩) 2 2, .slice (some ⟨W.heap.size + 1, 0, none⟩) 2 2] 23)).alloc (.cells #[.int .i64 300, .int .i64 200] 3)) fun e w' => e = .returned (.tuple #[.int .i64 500, .int .i64 0]) ∧ Below W.heap.size W w' := by
 obtain ⟨hr, hp, hb⟩ := floor_rows W [0, 1] [2, 3] rfl rfl [300, 200] rfl
 have h' := h.below hb
 exact (seep_Floor.calls 5 A1 c1 l1 A2 c2 l2 A3 c3 l3 A4 c4 l4 A5 c5 l5 _ 2 [[0, 1], [2, 3]] _ 2 [300, 200] _ _ _ h'.r1 h'.h1 h'.r2 h'.h2 h'.r3 h'.h3 h'.r4 h'.h4 h'.r5 h'.h5 hr (by decide) hp (by decide) hf).mono fun e w' ⟨h1, h2⟩ => ⟨h1, qae hb h2⟩
theorem pour_known (h : MapC l1 l2 l3 l4 l5 A1 c1 A2 c2 A3 c3 A4 c4 A5 c5 W) (hf : pourR 5 l1 l2 l3 l4 l5 [500, 600, 640, 700] [110, 220, 400] [15, 100, 350] = ([2, 2, 4], 730, 0, 730, 0)) :
  Calls Try.prog 44 #[.agg #[.int .i64 5, .slice A1 l1.length c1, .slice A2 l2.length c2, .slice A3 l3.length c3, .slice A4 l4.length c4, .slice A5 l5.length c5], .agg #[.slice (some ⟨W.heap.size, 0, none⟩) 4 4, .slice (some ⟨W.heap.size + 1, 0, none⟩) 3 3, .slice (some ⟨W.heap.size + 1 + 1, 0, none⟩) 3 3]] (((W.alloc (.cells #[.int .i64 500, .int .i64 600, .int .i64 640, .int .i64 700] 3)).alloc (.cells #[.int .i64 110, .int .i64 220, .int .i64 400] 3)).alloc (.cells #[.int .i64 15, .int .i64 100, .int .i64 350] 3)) fun e w' => ∃ b v, e = .returned (.tuple #[v, .agg #[.int .i64 730, .int .i64 0, .int .i64 730], .int .i64 0]) ∧ Kd.R (Kd.int .i64) 3 w' b (fun _ => True) v [2, 2, 4] ∧ Below W.heap.size W w' := by
 have b1 := qag (Below.refl W.heap.size W) (.cells #[.int .i64 500, .int .i64 600, .int .i64 640, .int .i64 700] 3)
 have b2 := qag (Below.refl (W.alloc (.cells #[.int .i64 500, .int .i64 600, .int .i64 640, .int .i64 700] 3)).heap.size (W.alloc (.cells #[.int .i64 500, .int .i64 600, .int .i64 640, .int .i64 700] 3))) (.cells #[.int .i64 110, .int .i64 220, .int .i64 400] 3)
 have b3 := qag (Below.refl ((W.alloc (.cells #[.int .i64 500, .int .i64 600, .int .i64 640, .int .i64 700] 3)).alloc (.cells #[.int .i64 110, .int .i64 220, .int .i64 400] 3)).heap.size ((W.alloc (.cells #[.int .i64 500, .int .i64 600, .int .i64 640, .int .i64 700] 3)).alloc (.cells #[.int .i64 110, .int .i64 220, .int .i64 400] 3))) (.cells #[.int .i64 15, .int .i64 100, .int .i64 350] 3)
 have h0 := Kd.qai (Kd.qai (new_ints W [500, 600, 640, 700] (by decide)) b2) b3
 have h1 := Kd.qai (new_ints (W.alloc (.cells #[.int .i64 500, .int .i64 600, .int .i64 640, .int .i64 700] 3)) [110, 220, 400] (by decide)) b3
 have h2 := new_ints ((W.alloc (.cells #[.int .i64 500, .int .i64 600, .int .i64 640, .int .i64 700] 3)).alloc (.cells #[.int .i64 110, .int .i64 220, .int .i64 400] 3)) [15, 100, 350] (by decide)
 simp only [World.size_alloc] at h1 h2
 have hb := qae (qae b1 b2) b3
 have h' := h.below hb
 refine (seep_Pour.calls 5 A1 c1 l1 A2 c2 l2 A3 c3 l3 A4 c4 l4 A5 c5 l5 _ 4 [500, 600, 640, 700] _ 3 [110, 220, 400] _ 3 [15, 100, 350] _ _ _ _ _ _ h'.r1 h'.h1 h'.r2 h'.h2 h'.r3 h'.h3 h'.r4 h'.h4 h'.r5 h'.h5 h0 (by decide) h1 (by decide) h2 (by decide) (by unfold seep_Pour.f; rw [hf])).mono ?_
 rintro e w' ⟨v, h1, h2, h3⟩
 exact ⟨_, v, h1, h2, qae hb h3⟩
theorem same_known {base : Nat} {ok : Nat → Prop} {v : Value} (xs : List Int) (h : Kd.R (Kd.int .i64) 3 W base ok v xs) (hx : xs.length ≤ 9223372036854775807) (hs : talikref07_Same.f (xs.length + 1) xs xs = some true) :
  Calls Try.prog 21 #[v, .slice (some ⟨W.heap.size, 0, none⟩) xs.length xs.length] (W.alloc (.cells (xs.map (Value.int .i64)).toArray 3)) fun e w' => e = .returned (.bool true) ∧ Below W.heap.size W w' := by
 have hb := qag (Below.refl W.heap.size W) (.cells (xs.map (Value.int .i64)).toArray 3)
 obtain ⟨A, n, c, rfl⟩ := R_shape h
 obtain ⟨rfl, hc, hC⟩ := Kd.R_reads' h
 exact (talikref07_Same.calls (xs.length + 1) A c xs _ xs.length xs true _ (Kd.qai hC hb) hc (new_ints W xs hx) (Nat.le_refl _) hs).mono fun e w' ⟨h1, h2⟩ => ⟨h1, qae hb h2.below⟩
def spCells (xs : List S41) : List Value := xs.flatMap fun x => [.int .i64 x.f0, .int .i64 x.f1]
theorem sp_reps (W : World) (b : Nat) (ok : Nat → Prop) : ∀ xs : List S41, Reps (k41.M W b ok) k41.sz xs (spCells xs)
 | [] => Reps.none _ _
 | x :: xs => Reps.front (k41_mkM W b ok x) rfl (sp_reps W b ok xs) rfl
theorem spans_known {base : Nat} {ok : Nat → Prop} {v : Value} (xs : List S41) (h : Kd.R k41 41 W base ok v xs) (hx : xs.length ≤ 9223372036854775807) (hs : talikref07_SameSpans.f (xs.length + 1) xs xs = some true) :
  Calls Try.prog 46 #[v, .slice (some ⟨W.heap.size, 0, none⟩) xs.length xs.length] (W.alloc (.cells (spCells xs).toArray 41)) fun e w' => e = .returned (.bool true) ∧ Below W.heap.size W w' := by
 have hb := qag (Below.refl W.heap.size W) (.cells (spCells xs).toArray 41)
 obtain ⟨A, n, c, rfl⟩ := R_shape h
 obtain ⟨rfl, hc, hC⟩ := Kd.R_reads' h
 have hr := new_row k41 41 W xs (spCells xs) (sp_reps W _ _ xs) hx
 exact (talikref07_SameSpans.calls (xs.length + 1) A c xs _ xs.length xs true _ (Kd.qai hC hb) hc (Kd.R_reads' hr).2.2 (Nat.le_refl _) hs).mono fun e w' ⟨h1, h2⟩ => ⟨h1, qae hb h2.below⟩
theorem span_known (a b : Int) (W : World) : Calls Try.prog 50 #[.int .i64 a, .int .i64 b] W fun e w' => e = .returned (.agg #[.int .i64 a, .int .i64 b]) ∧ Below W.heap.size W w' := taliklaw07_span.calls a b a b W rfl
end
def KL1 : List S44 := [⟨0, 1, 0, 300⟩, ⟨1, 3, 900, 500⟩, ⟨0, 2, 600, 200⟩, ⟨2, 3, 700, 250⟩, ⟨2, 4, 0, -1⟩, ⟨1, 2, 800, 100⟩]
def KL2 : List Int := [0]
def KL3 : List Int := [3]
def KL4 : List S41 := [⟨500, 650⟩, ⟨550, 750⟩, ⟨600, 850⟩, ⟨650, 950⟩]
def KL5 : List S95 := [⟨1, 620, ⟨100, 120⟩, ⟨10, 20⟩⟩, ⟨2, 5000, ⟨200, 250⟩, ⟨90, 130⟩⟩, ⟨-1, 5000, ⟨400, 400⟩, ⟨300, 400⟩⟩]
theorem kM : taliklaw07_M.f = some (5, KL1, KL2, KL3, KL4, KL5) := by kernel_rfl
theorem kPlay : playV 5 KL1 KL2 KL3 KL4 KL5 [] [600, 600, 720, 720] = ([0, 0, 0, 2, 0], 0) := by kernel_rfl
theorem kYears : yearsV 5 KL1 KL2 KL3 KL4 KL5 [2] = ([⟨0, 0⟩, ⟨0, 0⟩, ⟨2, 4⟩, ⟨2, 4⟩, ⟨2, 4⟩], 0) := by kernel_rfl
theorem kRoute : routeF 5 KL1 KL2 KL3 KL4 KL5 [2] 3 = ([0, 5, 3], 0) := by kernel_rfl
theorem kDykes : dykesV 5 KL1 KL2 KL3 KL4 KL5 = ([0, 2], 500, 0) := by kernel_rfl
theorem kFloor : floorV 5 KL1 KL2 KL3 KL4 KL5 [[0, 1], [2, 3]] [300, 200] = some (500, 0) := by kernel_rfl
theorem kPour : pourR 5 KL1 KL2 KL3 KL4 KL5 [500, 600, 640, 700] [110, 220, 400] [15, 100, 350] = ([2, 2, 4], 730, 0, 730, 0) := by kernel_rfl
theorem kDrain : drainV 5 KL1 KL2 KL3 KL4 KL5 = ([⟨0, 3⟩, ⟨0, 4⟩, ⟨0, 4⟩], 0) := by kernel_rfl
def taliklaw07_known.f  : Option (Bool) := some true
theorem taliklaw07_known.calls  (r : Bool) (w : World) (h : taliklaw07_known.f  = some r) :
  Calls Try.prog 17 #[] w fun e w' => e = .returned (.bool r) ∧ Below w.heap.size w w' := by
 obtain rfl := Option.some.inj h
 clear h
 have hu27 := Try.underlying27
 have hu41 := Try.underlying41
 have hu67 := Try.underlying67
 have hu70 := Try.underlying70
 have HB := qab.mk (Below.refl w.heap.size w)
 have hM := map_known kM
 have hplay : ∀ A1 c1 A2 c2 A3 c3 A4 c4 A5 c5 W, MapC KL1 KL2 KL3 KL4 KL5 A1 c1 A2 c2 A3 c3 A4 c4 A5 c5 W → _ := fun A1 c1 A2 c2 A3 c3 A4 c4 A5 c5 W h => play_known h kPlay
 have hyears : ∀ A1 c1 A2 c2 A3 c3 A4 c4 A5 c5 W, MapC KL1 KL2 KL3 KL4 KL5 A1 c1 A2 c2 A3 c3 A4 c4 A5 c5 W → _ := fun A1 c1 A2 c2 A3 c3 A4 c4 A5 c5 W h => years_known h _ kYears
 have hroute : ∀ A1 c1 A2 c2 A3 c3 A4 c4 A5 c5 W, MapC KL1 KL2 KL3 KL4 KL5 A1 c1 A2 c2 A3 c3 A4 c4 A5 c5 W → _ := fun A1 c1 A2 c2 A3 c3 A4 c4 A5 c5 W h => route_known h kRoute
 have hdykes : ∀ A1 c1 A2 c2 A3 c3 A4 c4 A5 c5 W, MapC KL1 KL2 KL3 KL4 KL5 A1 c1 A2 c2 A3 c3 A4 c4 A5 c5 W → _ := fun A1 c1 A2 c2 A3 c3 A4 c4 A5 c5 W h => dykes_known h kDykes
 have hfloor : ∀ A1 c1 A2 c2 A3 c3 A4 c4 A5 c5 W, MapC KL1 KL2 KL3 KL4 KL5 A1 c1 A2 c2 A3 c3 A4 c4 A5 c5 W → _ := fun A1 c1 A2 c2 A3 c3 A4 c4 A5 c5 W h => floor_known h kFloor
 have hpour : ∀ A1 c1 A2 c2 A3 c3 A4 c4 A5 c5 W, MapC KL1 KL2 KL3 KL4 KL5 A1 c1 A2 c2 A3 c3 A4 c4 A5 c5 W → _ := fun A1 c1 A2 c2 A3 c3 A4 c4 A5 c5 W h => pour_known h kPour
 have hdrain : ∀ A1 c1 A2 c2 A3 c3 A4 c4 A5 c5 W, MapC KL1 KL2 KL3 KL4 KL5 A1 c1 A2 c2 A3 c3 A4 c4 A5 c5 W → _ := fun A1 c1 A2 c2 A3 c3 A4 c4 A5 c5 W h => drain_known h _ kDrain
 have HSA : qab (∀ base ok v W, Kd.R (Kd.int .i64) 3 W base ok v [0, 0, 0, 2, 0] → Calls Try.prog 21 #[v, .slice (some ⟨W.heap.size, 0, none⟩) 5 5] (W.alloc (.cells #[.int .i64 0, .int .i64 0, .int .i64 0, .int .i64 2, .int .i64 0] 3)) fun e w' => e = .returned (.bool true) ∧ Below W.heap.size W w') := ⟨fun base ok v W h => same_known [0, 0, 0, 2, 0] h (by decide) (by kernel_rfl)⟩
 have HSC : qab (∀ base ok v W, Kd.R (Kd.int .i64) 3 W base ok v [0, 5, 3] → Calls Try.prog 21 #[v, .slice (some ⟨W.heap.size, 0, none⟩) 3 3] (W.alloc (.cells #[.int .i64 0, .int .i64 5, .int .i64 3] 3)) fun e w' => e = .returned (.bool true) ∧ Below W.heap.size W w') := ⟨fun base ok v W h => same_known [0, 5, 3] h (by decide) (by kernel_rfl)⟩
 have HSD : qab (∀ base ok v W, Kd.R (Kd.int .i64) 3 W base ok v [0, 2] → Calls Try.prog 21 #[v, .slice (some ⟨W.heap.size, 0, none⟩) 2 2] (W.alloc (.cells #[.int .i64 0, .int .i64 2] 3)) fun e w' => e = .returned (.bool true) ∧ Below W.heap.size W w') := ⟨fun base ok v W h => same_known [0, 2] h (by decide) (by kernel_rfl)⟩
 have HSW : qab (∀ base ok v W, Kd.R (Kd.int .i64) 3 W base ok v [2, 2, 4] → Calls Try.prog 21 #[v, .slice (some ⟨W.heap.size, 0, none⟩) 3 3] (W.alloc (.cells #[.int .i64 2, .int .i64 2, .int .i64 4] 3)) fun e w' => e = .returned (.bool true) ∧ Below W.heap.size W w') := ⟨fun base ok v W h => same_known [2, 2, 4] h (by decide) (by kernel_rfl)⟩
 have HSY : qab (∀ base ok v W, Kd.R k41 41 W base ok v [⟨0, 0⟩, ⟨0, 0⟩, ⟨2, 4⟩, ⟨2, 4⟩, ⟨2, 4⟩] → Calls Try.prog 46 #[v, .slice (some ⟨W.heap.size, 0, none⟩) 5 5] (W.alloc (.cells #[.int .i64 0, .int .i64 0, .int .i64 0, .int .i64 0, .int .i64 2, .int .i64 4, .int .i64 2, .int .i64 4, .int .i64 2, .int .i64 4] 41)) fun e w' => e = .returned (.bool true) ∧ Below W.heap.size W w') := ⟨fun base ok v W h => spans_known [⟨0, 0⟩, ⟨0, 0⟩, ⟨2, 4⟩, ⟨2, 4⟩, ⟨2, 4⟩] h (by decide) (by kernel_rfl)⟩
 have HSL : qab (∀ base ok v W, Kd.R k41 41 W base ok v [⟨0, 3⟩, ⟨0, 4⟩, ⟨0, 4⟩] → Calls Try.prog 46 #[v, .slice (some ⟨W.heap.size, 0, none⟩) 3 3] (W.alloc (.cells #[.int .i64 0, .int .i64 3, .int .i64 0, .int .i64 4, .int .i64 0, .int .i64 4] 41)) fun e w' => e = .returned (.bool true) ∧ Below W.heap.size W w') := ⟨fun base ok v W h => spans_known [⟨0, 3⟩, ⟨0, 4⟩, ⟨0, 4⟩] h (by decide) (by kernel_rfl)⟩
 have HSP := qab.mk @span_known
 have HM := qab.mk hM
 have HPLAY := qab.mk hplay
 have HYEARS := qab.mk hyears
 have HROUTE := qab.mk hroute
 have HDYKES := qab.mk hdykes
 have HFLOOR := qab.mk hfloor
 have HPOUR := qab.mk hpour
 have HDRAIN := qab.mk hdrain
 clear hM hplay hyears hroute hdykes hfloor hpour hdrain
 generalize KL1 = l1 at *
 generalize KL2 = l2 at *
 generalize KL3 = l3 at *
 generalize KL4 = l4 at *
 generalize KL5 = l5 at *
 go_enter Try.func17, Try.ntmps17
 go_upto_region 7 with (first | (go_at_call 53; with_reducible refine (HM.out _).mono ?_; rintro e w2 ⟨A1, c1, A2, c2, A3, c3, A4, c4, A5, c5, rfl, hn, hb⟩; have HN := qab.mk hn; clear hn; (try (replace HA := qab.mk (Kd.qal HA.out hb))); (try (replace HY := qab.mk (Kd.qal HY.out hb))); (try (replace HC := qab.mk (Kd.qal HC.out hb))); (try (replace HD := qab.mk (Kd.qal HD.out hb))); (try (replace HW := qab.mk (Kd.qal HW.out hb))); (try (replace HL := qab.mk (Kd.qal HL.out hb))); (try (replace BKgx := qab.mk (qad BKgx.out hb))); replace HB := qab.mk (qae HB.out hb); clear hb) | (go_at_call 18; with_reducible refine (HPLAY.out _ _ _ _ _ _ _ _ _ _ _ HN.out).mono ?_; rintro e w3 ⟨_, va, rfl, ho, hb⟩; (try (replace HA := qab.mk (Kd.qal HA.out hb))); (try (replace HY := qab.mk (Kd.qal HY.out hb))); (try (replace HC := qab.mk (Kd.qal HC.out hb))); (try (replace HD := qab.mk (Kd.qal HD.out hb))); (try (replace HW := qab.mk (Kd.qal HW.out hb))); (try (replace HL := qab.mk (Kd.qal HL.out hb))); (try (replace BKgx := qab.mk (qad BKgx.out hb))); replace HB := qab.mk (qae HB.out hb); clear hb; have HA := qab.mk ho; clear ho; clear HN) | (go_at_call 23; with_reducible refine (HYEARS.out _ _ _ _ _ _ _ _ _ _ _ HN.out).mono ?_; rintro e w3 ⟨_, vy, rfl, ho, hb⟩; (try (replace HA := qab.mk (Kd.qal HA.out hb))); (try (replace HY := qab.mk (Kd.qal HY.out hb))); (try (replace HC := qab.mk (Kd.qal HC.out hb))); (try (replace HD := qab.mk (Kd.qal HD.out hb))); (try (replace HW := qab.mk (Kd.qal HW.out hb))); (try (replace HL := qab.mk (Kd.qal HL.out hb))); (try (replace BKgx := qab.mk (qad BKgx.out hb))); replace HB := qab.mk (qae HB.out hb); clear hb; have HY := qab.mk ho; clear ho; clear HN) | (go_at_call 28; with_reducible refine (HROUTE.out _ _ _ _ _ _ _ _ _ _ _ HN.out).mono ?_; rintro e w3 ⟨_, vc, rfl, ho, hb⟩; (try (replace HA := qab.mk (Kd.qal HA.out hb))); (try (replace HY := qab.mk (Kd.qal HY.out hb))); (try (replace HC := qab.mk (Kd.qal HC.out hb))); (try (replace HD := qab.mk (Kd.qal HD.out hb))); (try (replace HW := qab.mk (Kd.qal HW.out hb))); (try (replace HL := qab.mk (Kd.qal HL.out hb))); (try (replace BKgx := qab.mk (qad BKgx.out hb))); replace HB := qab.mk (qae HB.out hb); clear hb; have HC := qab.mk ho; clear ho; clear HN) | (go_at_call 33; with_reducible refine (HDYKES.out _ _ _ _ _ _ _ _ _ _ _ HN.out).mono ?_; rintro e w3 ⟨_, vd, rfl, ho, hb⟩; (try (replace HA := qab.mk (Kd.qal HA.out hb))); (try (replace HY := qab.mk (Kd.qal HY.out hb))); (try (replace HC := qab.mk (Kd.qal HC.out hb))); (try (replace HD := qab.mk (Kd.qal HD.out hb))); (try (replace HW := qab.mk (Kd.qal HW.out hb))); (try (replace HL := qab.mk (Kd.qal HL.out hb))); (try (replace BKgx := qab.mk (qad BKgx.out hb))); replace HB := qab.mk (qae HB.out hb); clear hb; have HD := qab.mk ho; clear ho; clear HN) | (go_at_call 39; with_reducible refine (HFLOOR.out _ _ _ _ _ _ _ _ _ _ _ HN.out).mono ?_; rintro e w3 ⟨rfl, hb⟩; (try (replace HA := qab.mk (Kd.qal HA.out hb))); (try (replace HY := qab.mk (Kd.qal HY.out hb))); (try (replace HC := qab.mk (Kd.qal HC.out hb))); (try (replace HD := qab.mk (Kd.qal HD.out hb))); (try (replace HW := qab.mk (Kd.qal HW.out hb))); (try (replace HL := qab.mk (Kd.qal HL.out hb))); (try (replace BKgx := qab.mk (qad BKgx.out hb))); replace HB := qab.mk (qae HB.out hb); clear hb; clear HN) | (go_at_call 44; with_reducible refine (HPOUR.out _ _ _ _ _ _ _ _ _ _ _ HN.out).mono ?_; rintro e w3 ⟨_, vw, rfl, ho, hb⟩; (try (replace HA := qab.mk (Kd.qal HA.out hb))); (try (replace HY := qab.mk (Kd.qal HY.out hb))); (try (replace HC := qab.mk (Kd.qal HC.out hb))); (try (replace HD := qab.mk (Kd.qal HD.out hb))); (try (replace HW := qab.mk (Kd.qal HW.out hb))); (try (replace HL := qab.mk (Kd.qal HL.out hb))); (try (replace BKgx := qab.mk (qad BKgx.out hb))); replace HB := qab.mk (qae HB.out hb); clear hb; have HW := qab.mk ho; clear ho; clear HN) | ((with_reducible refine qam (N := 13) rfl ?_); refine ze 13 #[.int .i64 0, .int .i64 0, .int .i64 0] 70 ?_; intro gx hg_gx w4 hbox hb; have BKgx := qab.mk hbox; have n_HB := qab.mk (qae HB.out hb); have GEgx : w.heap.size ≤ gx := (by rw [hg_gx]; exact HB.out.size); clear HB; have HB := n_HB; clear n_HB; obtain ⟨hfgx, hcgx_0, hcgx_1, hcgx_2⟩ := qz3 BKgx.out; replace HA := qab.mk (Kd.qal HA.out hb); replace HY := qab.mk (Kd.qal HY.out hb); replace HC := qab.mk (Kd.qal HC.out hb); replace HD := qab.mk (Kd.qal HD.out hb); replace HW := qab.mk (Kd.qal HW.out hb); clear hbox hb hg_gx))
 clear hfgx hcgx_0 hcgx_1 hcgx_2
 have he_ : setAll w4 gx [.int .i64 730, .int .i64 0, .int .i64 730] 0 = (((w4.setCell ⟨gx, 0, none⟩ (.int .i64 730)).setCell ⟨gx, 1, none⟩ (.int .i64 0)).setCell ⟨gx, 2, none⟩ (.int .i64 730)) := rfl; have hbl := setAll_below GEgx [.int .i64 730, .int .i64 0, .int .i64 730] 0 _ HB.out; have hbx : (setAll w4 gx [.int .i64 730, .int .i64 0, .int .i64 730] 0).heap[gx]? = some (.cells #[.int .i64 730, .int .i64 0, .int .i64 730] 70 (0, 0)) := setAll_new [.int .i64 730, .int .i64 0, .int .i64 730] [.int .i64 0, .int .i64 0, .int .i64 0] BKgx.out rfl; have hy_HA := setAll_R (g := gx) (by decide) [.int .i64 730, .int .i64 0, .int .i64 730] 0 w4 _ BKgx.out HA.out; have hy_HY := setAll_R (g := gx) (by decide) [.int .i64 730, .int .i64 0, .int .i64 730] 0 w4 _ BKgx.out HY.out; have hy_HC := setAll_R (g := gx) (by decide) [.int .i64 730, .int .i64 0, .int .i64 730] 0 w4 _ BKgx.out HC.out; have hy_HD := setAll_R (g := gx) (by decide) [.int .i64 730, .int .i64 0, .int .i64 730] 0 w4 _ BKgx.out HD.out; have hy_HW := setAll_R (g := gx) (by decide) [.int .i64 730, .int .i64 0, .int .i64 730] 0 w4 _ BKgx.out HW.out; rw [he_] at hy_HA hy_HY hy_HC hy_HD hy_HW hbl hbx ; clear he_; generalize (((w4.setCell ⟨gx, 0, none⟩ (.int .i64 730)).setCell ⟨gx, 1, none⟩ (.int .i64 0)).setCell ⟨gx, 2, none⟩ (.int .i64 730)) = w5 at hy_HA hy_HY hy_HC hy_HD hy_HW hbl hbx  ⊢; clear HB BKgx; have HB := qab.mk hbl; have BKgx := qab.mk hbx; clear hbl hbx; clear HA; have HA := qab.mk hy_HA; clear hy_HA; clear HY; have HY := qab.mk hy_HY; clear hy_HY; clear HC; have HC := qab.mk hy_HC; clear hy_HC; clear HD; have HD := qab.mk hy_HD; clear hy_HD; clear HW; have HW := qab.mk hy_HW; clear hy_HW
 go_upto_region 10 with (first | (go_at_call 53; with_reducible refine (HM.out _).mono ?_; rintro e w6 ⟨A1, c1, A2, c2, A3, c3, A4, c4, A5, c5, rfl, hn, hb⟩; have HN := qab.mk hn; clear hn; (try (replace HA := qab.mk (Kd.qal HA.out hb))); (try (replace HY := qab.mk (Kd.qal HY.out hb))); (try (replace HC := qab.mk (Kd.qal HC.out hb))); (try (replace HD := qab.mk (Kd.qal HD.out hb))); (try (replace HW := qab.mk (Kd.qal HW.out hb))); (try (replace HL := qab.mk (Kd.qal HL.out hb))); (try (replace BKgx := qab.mk (qad BKgx.out hb))); replace HB := qab.mk (qae HB.out hb); clear hb) | (go_at_call 45; with_reducible refine (HDRAIN.out _ _ _ _ _ _ _ _ _ _ _ HN.out).mono ?_; rintro e w7 ⟨_, vl, rfl, ho, hb⟩; (try (replace HA := qab.mk (Kd.qal HA.out hb))); (try (replace HY := qab.mk (Kd.qal HY.out hb))); (try (replace HC := qab.mk (Kd.qal HC.out hb))); (try (replace HD := qab.mk (Kd.qal HD.out hb))); (try (replace HW := qab.mk (Kd.qal HW.out hb))); (try (replace HL := qab.mk (Kd.qal HL.out hb))); (try (replace BKgx := qab.mk (qad BKgx.out hb))); replace HB := qab.mk (qae HB.out hb); clear hb; have HL := qab.mk ho; clear ho; clear HN))
 go_upto_region 12 with (first | (go_at_call 50; with_reducible refine (HSP.out _ _ _).mono ?_; rintro e w8 ⟨rfl, hb⟩; (try (replace HA := qab.mk (Kd.qal HA.out hb))); (try (replace HY := qab.mk (Kd.qal HY.out hb))); (try (replace HC := qab.mk (Kd.qal HC.out hb))); (try (replace HD := qab.mk (Kd.qal HD.out hb))); (try (replace HW := qab.mk (Kd.qal HW.out hb))); (try (replace HL := qab.mk (Kd.qal HL.out hb))); (try (replace BKgx := qab.mk (qad BKgx.out hb))); replace HB := qab.mk (qae HB.out hb); clear hb) | (go_at_call 46; with_reducible refine (HSY.out _ _ _ _ HY.out).mono ?_; rintro e w9 ⟨rfl, hb⟩; clear HY; (try (replace HA := qab.mk (Kd.qal HA.out hb))); (try (replace HY := qab.mk (Kd.qal HY.out hb))); (try (replace HC := qab.mk (Kd.qal HC.out hb))); (try (replace HD := qab.mk (Kd.qal HD.out hb))); (try (replace HW := qab.mk (Kd.qal HW.out hb))); (try (replace HL := qab.mk (Kd.qal HL.out hb))); (try (replace BKgx := qab.mk (qad BKgx.out hb))); replace HB := qab.mk (qae HB.out hb); clear hb) | (go_at_call 46; with_reducible refine (HSL.out _ _ _ _ HL.out).mono ?_; rintro e w9 ⟨rfl, hb⟩; clear HL; (try (replace HA := qab.mk (Kd.qal HA.out hb))); (try (replace HY := qab.mk (Kd.qal HY.out hb))); (try (replace HC := qab.mk (Kd.qal HC.out hb))); (try (replace HD := qab.mk (Kd.qal HD.out hb))); (try (replace HW := qab.mk (Kd.qal HW.out hb))); (try (replace HL := qab.mk (Kd.qal HL.out hb))); (try (replace BKgx := qab.mk (qad BKgx.out hb))); replace HB := qab.mk (qae HB.out hb); clear hb))
 obtain ⟨hfgx, hcgx_0, hcgx_1, hcgx_2⟩ := qz3 BKgx.out
 go_wp2_with (first | (go_at_call 21; with_reducible refine (HSA.out _ _ _ _ HA.out).mono ?_; rintro e w10 ⟨rfl, hb⟩; clear HA; (try (replace HA := qab.mk (Kd.qal HA.out hb))); (try (replace HY := qab.mk (Kd.qal HY.out hb))); (try (replace HC := qab.mk (Kd.qal HC.out hb))); (try (replace HD := qab.mk (Kd.qal HD.out hb))); (try (replace HW := qab.mk (Kd.qal HW.out hb))); (try (replace HL := qab.mk (Kd.qal HL.out hb))); (try (replace BKgx := qab.mk (qad BKgx.out hb))); replace HB := qab.mk (qae HB.out hb); clear hb) | (go_at_call 21; with_reducible refine (HSC.out _ _ _ _ HC.out).mono ?_; rintro e w11 ⟨rfl, hb⟩; clear HC; (try (replace HA := qab.mk (Kd.qal HA.out hb))); (try (replace HY := qab.mk (Kd.qal HY.out hb))); (try (replace HC := qab.mk (Kd.qal HC.out hb))); (try (replace HD := qab.mk (Kd.qal HD.out hb))); (try (replace HW := qab.mk (Kd.qal HW.out hb))); (try (replace HL := qab.mk (Kd.qal HL.out hb))); (try (replace BKgx := qab.mk (qad BKgx.out hb))); replace HB := qab.mk (qae HB.out hb); clear hb) | (go_at_call 21; with_reducible refine (HSD.out _ _ _ _ HD.out).mono ?_; rintro e w12 ⟨rfl, hb⟩; clear HD; (try (replace HA := qab.mk (Kd.qal HA.out hb))); (try (replace HY := qab.mk (Kd.qal HY.out hb))); (try (replace HC := qab.mk (Kd.qal HC.out hb))); (try (replace HD := qab.mk (Kd.qal HD.out hb))); (try (replace HW := qab.mk (Kd.qal HW.out hb))); (try (replace HL := qab.mk (Kd.qal HL.out hb))); (try (replace BKgx := qab.mk (qad BKgx.out hb))); replace HB := qab.mk (qae HB.out hb); clear hb) | (go_at_call 21; with_reducible refine (HSW.out _ _ _ _ HW.out).mono ?_; rintro e w13 ⟨rfl, hb⟩; clear HW; (try (replace HA := qab.mk (Kd.qal HA.out hb))); (try (replace HY := qab.mk (Kd.qal HY.out hb))); (try (replace HC := qab.mk (Kd.qal HC.out hb))); (try (replace HD := qab.mk (Kd.qal HD.out hb))); (try (replace HW := qab.mk (Kd.qal HW.out hb))); (try (replace HL := qab.mk (Kd.qal HL.out hb))); (try (replace BKgx := qab.mk (qad BKgx.out hb))); replace HB := qab.mk (qae HB.out hb); clear hb; obtain ⟨hfgx, hcgx_0, hcgx_1, hcgx_2⟩ := qz3 BKgx.out))
 go_ret
 exact ⟨rfl, HB.out⟩
end Go.Proofs.Ytafkanmioinbiaa.SA
