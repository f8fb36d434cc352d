/- What functions of the program answer. No condition. -/
import Derived.Test.YtipphcjgdebecaaSC
import Derived.Test.YtipphcjgdebecaaSF
import Derived.Test.YtipphcjgdebecaaSE
import Derived.Test.YtipphcjgdebecaaSJ
import Derived.Test.YtipphcjgdebecaaSK
import Derived.Test.YtipphcjgdebecaaSH
set_option linter.all false
set_option maxRecDepth 100000
set_option maxHeartbeats 8000000
namespace Go.Proofs.Ytipphcjgdebecaa.PA
open Go.RowKit Go.Proofs.YtipphcjgdebecaaW.PrintWords Go.Proofs.YtipphcjgdebecaaW.PrintLast Go.Proofs.YtipphcjgdebecaaW.PrintMore
attribute [local go_sem] qaw qay max_two min_two qas qat qax qaz
theorem weak_some (l0 : List S39) (l1 : List S37) (l2 : List (List Int)) (wp from_ : Int) (fs : List Int) (ho : ∀ f ∈ fs, ∃ r, pipe_net_order.f l0 l1 l2 wp from_ f = some r) :
  ∀ (k j : Nat) (s : Int), fs.length - j < k → j ≤ fs.length → fs.length ≤ 1000 → ∃ r, pipe_net_weak.l0 k from_ s fs (fs.length : Int) (j : Int) l0 l1 l2 wp = some r := by
 intro k
 induction k with
 | zero => intro j s h; omega
 | succ k ih =>
  intro j s h hj hn
  unfold pipe_net_weak.l0
  by_cases hlt : j < fs.length
  ·
   rw [if_pos (by omega), if_pos (by omega), if_pos (by omega)]
   obtain ⟨r, hr⟩ := ho (rd fs j) (by unfold rd; simp [hlt])
   rw [hr]
   simp only [Option.bind_some]
   split
   ·
    have hw : wrap64 ((j : Int) + 1) = ((j + 1 : Nat) : Int) := by unfold wrap64; omega
    rw [hw]
    exact ih (j + 1) _ (by omega) (by omega) hn
   ·
    exact ⟨_, rfl⟩
  ·
   rw [if_neg (by omega)]
   exact ⟨_, rfl⟩
def weakV (l0 : List S39) (l1 : List S37) (l2 : List (List Int)) (wp from_ : Int) (fs : List Int) : Int × Int := (pipe_net_weak.f 14 l0 l1 l2 wp from_ fs).getD (0, 0)
theorem weakV_some (l0 : List S39) (l1 : List S37) (l2 : List (List Int)) (wp from_ : Int) (fs : List Int) (hl : fs.length ≤ 12) (ho : ∀ f ∈ fs, ∃ r, pipe_net_order.f l0 l1 l2 wp from_ f = some r) :
  pipe_net_weak.f 14 l0 l1 l2 wp from_ fs = some ((weakV l0 l1 l2 wp from_ fs).1, (weakV l0 l1 l2 wp from_ fs).2) := by
 obtain ⟨r, hr⟩ := weak_some l0 l1 l2 wp from_ fs ho 14 0 (l1.length : Int) (by omega) (by omega) (by omega)
 have h : pipe_net_weak.f 14 l0 l1 l2 wp from_ fs = some r := hr
 unfold weakV
 rw [h]
 rfl
theorem shl_pow (n : Nat) (h : n ≤ 5) : shl .i64 1 (n : Int) = 2 ^ n := by
 match n, h with
 | 0, _ => rfl
 | 1, _ => rfl
 | 2, _ => rfl
 | 3, _ => rfl
 | 4, _ => rfl
 | 5, _ => rfl
theorem given_ok {l0 : List S39} {l1 : List S37} {l2 : List (List Int)} {a1 : Int} {fs : List Int} (h : givenV l0 l1 l2 a1 fs = 0) : fs.length ≤ 12 ∧ validB l0 l1 l2 = true ∧ 0 ≤ a1 ∧ a1 ≤ l0.length ∧ ∀ f ∈ fs, 0 ≤ f ∧ f < 2 ^ l0.length := by
 unfold givenV at h
 split at h
 ·
  cases h
 ·
  rename_i hl
  split at h
  ·
   cases h
  ·
   rename_i hc
   simp only [Bool.or_eq_true, Bool.not_eq_true', not_or, Bool.not_eq_false] at hc
   obtain ⟨hv, hp, ha⟩ := hc
   have hlen := valid_lens hv
   unfold inB at hp
   simp only [Bool.and_eq_true, decide_eq_true_eq] at hp
   refine ⟨by omega, hv, hp.1, hp.2, fun f hf => ?_⟩
   rw [Bool.not_eq_true, List.any_eq_false] at ha
   have h1 := ha f hf
   simp only [Bool.not_eq_true', Bool.not_eq_false] at h1
   unfold faultB inB at h1
   simp only [Bool.and_eq_true, decide_eq_true_eq] at h1
   rw [shl_pow _ hlen.2.2.1] at h1
   have h32 : (2 : Int) ^ l0.length ≤ 32 := by
    have h := Nat.pow_le_pow_right (n := 2) (by decide) hlen.2.2.1
    have : ((2 ^ l0.length : Nat) : Int) ≤ ((2 ^ 5 : Nat) : Int) := Int.ofNat_le.2 h
    simpa using this
   have h0 : (0 : Int) < 2 ^ l0.length := Int.pow_pos (by decide)
   unfold wrap64 at h1
   exact ⟨h1.1, by omega⟩
theorem order_some {l0 : List S39} {l1 : List S37} {l2 : List (List Int)} {wp a1 f : Int} (hv : validB l0 l1 l2 = true) (hw : 0 ≤ wp) (h0 : 0 ≤ a1) (h1 : a1 ≤ l0.length) (f0 : 0 ≤ f) (f1 : f < 2 ^ l0.length) : ∃ r, pipe_net_order.f l0 l1 l2 wp a1 f = some r := by
 unfold pipe_net_order.f
 rw [if_pos ⟨hv, hw, h0, h1, f0, f1⟩]
 exact ⟨_, rfl⟩
structure Inv73 (w0 : World) (gn gf : Nat) (cn cf : Value) (cs : Array Value) (A : Nat → Prop) (W : World) : Prop where
 an : ¬ A gn
 af : ¬ A gf
 lo : ∀ k, A k → w0.heap.size ≤ k
 xn : W.heap[gn]? = some (.cells cs 26 (0, 0))
 xf : W.heap[gf]? = some (.cells #[cf] 47 (0, 0))
 hb : Below w0.heap.size w0 W
theorem Inv73.held {w0 : World} {gn gf : Nat} {cn cf : Value} {cs : Array Value} {B : Nat} (hB : w0.heap.size ≤ B) : Held B (Inv73 w0 gn gf cn cf cs) where
 mono A A' W hA h := ⟨fun hk => h.an (hA _ hk), fun hk => h.af (hA _ hk), fun k hk => h.lo k (hA k hk), h.xn, h.xf, h.hb⟩
 fresh A W h := ⟨fun hk => hk.elim h.an (fun e => by have := blk_lt h.xn; omega), fun hk => hk.elim h.af (fun e => by have := blk_lt h.xf; omega), fun k hk => hk.elim (h.lo k) (fun e => Nat.le_trans h.hb.size e), h.xn, h.xf, h.hb⟩
 step A W W' h hk := ⟨h.an, h.af, h.lo, hk.blk h.xn h.an, hk.blk h.xf h.af, ⟨hk.os.trans h.hb.os, hk.tape.trans h.hb.tape, hk.output.trans h.hb.output, Nat.le_trans h.hb.size hk.size, fun k hlt => (hk.block k (Nat.lt_of_lt_of_le hlt h.hb.size) (fun ha => by have := h.lo k ha; omega)).trans (h.hb.block k hlt)⟩⟩
 own A W W' row h hg hr := ⟨h.an, h.af, h.lo, blk_own h.xn hg hr, blk_own h.xf hg hr, ⟨hg.os.trans h.hb.os, hg.tape.trans h.hb.tape, hg.output.trans h.hb.output, Nat.le_trans h.hb.size hg.size, fun k hlt => (hg.block k (Nat.lt_of_lt_of_le hlt h.hb.size) (fun e => by have := (hr k e.symm).1; omega)).trans (h.hb.block k hlt)⟩⟩
def ofPost (l0 : List S39) (l1 : List S37) (l2 : List (List Int)) (fs : List Int) (p : Int) : Int × Bool := ((weakV l0 l1 l2 0 p fs).2, decide ((weakV l0 l1 l2 0 p fs).1 < 0))
theorem of73_calls (A0 : Option Addr) (c0 : Nat) (l0 : List S39) (A1 : Option Addr) (c1 : Nat) (l1 : List S37) (A2 : Option Addr) (c2 : Nat) (l2 : List (List Int)) (A3 : Option Addr) (c3 : Nat) (fs : List Int) (w0 : World) (gn gf : Nat) (cn : Value)
  (hr0 : Kd.C k39 w0 A0 l0.length l0) (hc0 : l0.length ≤ c0) (hr1 : Kd.C k37 w0 A1 l1.length l1) (hc1 : l1.length ≤ c1) (hr2 : Kd.C (Kd.slice 3 (Kd.int .i64)) w0 A2 l2.length l2) (hc2 : l2.length ≤ c2) (hr3 : Kd.C (Kd.int .i64) w0 A3 fs.length fs) (hc3 : fs.length ≤ c3)
  (x : Int) (hok : pipe_net_weak.f 14 l0 l1 l2 0 x fs = some ((weakV l0 l1 l2 0 x fs).1, (weakV l0 l1 l2 0 x fs).2)) (A : Nat → Prop) (w : World) (hinv : Inv73 w0 gn gf cn (.slice A3 fs.length c3) #[.slice A0 l0.length c0, .slice A1 l1.length c1, .slice A2 l2.length c2] A w) :
  Calls Try.prog 73 #[.int .i64 x, .pointer (some ⟨gn, 0, none⟩), .pointer (some ⟨gf, 0, none⟩)] w fun e w' => e = .returned (.tuple #[.int .i64 (ofPost l0 l1 l2 fs x).1, .bool (ofPost l0 l1 l2 fs x).2]) ∧ Inv73 w0 gn gf cn (.slice A3 fs.length c3) #[.slice A0 l0.length c0, .slice A1 l1.length c1, .slice A2 l2.length c2] A w' ∧ KB (fun _ => False) w w' := by
 have hu26 := Try.underlying26
 have hu99 := Try.underlying99
 have H := qab.mk (pipe_net_weak.calls 14 _ _ l0 _ _ l1 _ _ l2 0 x _ _ fs _ _ w (Kd.qaj hr0 hinv.hb) hc0 (Kd.qaj hr1 hinv.hb) hc1 (Kd.qaj hr2 hinv.hb) hc2 (Kd.qaj hr3 hinv.hb) hc3 hok)
 have k0 : w.cell? ⟨gn, 0, none⟩ = some (.slice A0 l0.length c0) := qaa hinv.xn 0
 have k1 : w.cell? ⟨gn, 1, none⟩ = some (.slice A1 l1.length c1) := qaa hinv.xn 1
 have k2 : w.cell? ⟨gn, 2, none⟩ = some (.slice A2 l2.length c2) := qaa hinv.xn 2
 have k3 : w.cell? ⟨gf, 0, none⟩ = some (.slice A3 fs.length c3) := qaa hinv.xf 0
 have HI := qab.mk hinv
 unfold ofPost
 clear hr0 hc0 hr1 hc1 hr2 hc2 hr3 hc3 hok hinv
 generalize weakV l0 l1 l2 0 x fs = ws at H ⊢
 obtain ⟨i, sl⟩ := ws
 try dsimp only at H ⊢
 go_enter Try.func73, Try.ntmps73
 go_wp2_with (go_at_call 74; refine H.out.mono ?_; rintro e w2 ⟨rfl, hb⟩; have HB := qab.mk hb; clear hb)
 go_ret2
 exact ⟨rfl, (Inv73.held (Nat.le_refl _)).step A w _ HI.out (KB.of_below HB.out A), KB.of_below HB.out _⟩
def postV (l0 : List S39) (l1 : List S37) (l2 : List (List Int)) (fs : List Int) : Int × Int × Int :=
 if givenV l0 l1 l2 0 fs ≠ 0 then (0, 0, givenV l0 l1 l2 0 fs) else
  if (g1 (ofPost l0 l1 l2 fs) (numsOf (l0.length + 1))).2.2 = true then ((g1 (ofPost l0 l1 l2 fs) (numsOf (l0.length + 1))).1, (g1 (ofPost l0 l1 l2 fs) (numsOf (l0.length + 1))).2.1, 0) else (0, 0, 5)
def pipe_Post.f (l0_0 : List (S39)) (l0_1 : List (S37)) (l0_2 : List (List Int)) (l1 : List Int) : Option (Int × Int × Int) := some (postV l0_0 l0_1 l0_2 l1)
theorem pipe_Post.calls (A0_0 : Option Addr) (c0_0 : Nat) (l0_0 : List (S39)) (A0_1 : Option Addr) (c0_1 : Nat) (l0_1 : List (S37)) (A0_2 : Option Addr) (c0_2 : Nat) (l0_2 : List (List Int)) (A1 : Option Addr) (c1 : Nat) (l1 : List Int) (r1 : Int) (r2 : Int) (r3 : Int) (w : World) (hr0_0 : Kd.C k39 w A0_0 l0_0.length l0_0) (hc0_0 : l0_0.length ≤ c0_0) (hr0_1 : Kd.C k37 w A0_1 l0_1.length l0_1) (hc0_1 : l0_1.length ≤ c0_1) (hr0_2 : Kd.C (Kd.slice 3 (Kd.int .i64)) w A0_2 l0_2.length l0_2) (hc0_2 : l0_2.length ≤ c0_2) (hr1 : Kd.C (Kd.int .i64) w A1 l1.length l1) (hc1 : l1.length ≤ c1) (h : pipe_Post.f l0_0 l0_1 l0_2 l1 = some (r1, r2, r3)) :
  Calls Try.prog 37 #[.agg #[.slice A0_0 l0_0.length c0_0, .slice A0_1 l0_1.length c0_1, .slice A0_2 l0_2.length c0_2], .slice A1 l1.length c1] w fun e w' => e = .returned (.tuple #[.int .i64 r1, .int .i64 r2, .int .i64 r3]) ∧ Below w.heap.size w w' := by
 have h' := Option.some.inj h
 clear h
 have HF := qab.mk h'
 clear h'
 have hu26 := Try.underlying26
 have HB := qab.mk (Below.refl w.heap.size w)
 have HR0 := qab.mk hr0_0
 have HR1 := qab.mk hr0_1
 have HR2 := qab.mk hr0_2
 have HR3 := qab.mk hr1
 clear hr0_0 hr0_1 hr0_2 hr1
 have hmf : ∀ (fn : Fn) (first cap : Array Value) (w : World), (Instr.makeFunc fn first cap).run Try.prog w = .ok (.func fn first cap) w := fun _ _ _ _ => rfl
 have hgiven : ∀ W, Below w.heap.size w W → Calls Try.prog 70 #[.agg #[.slice A0_0 l0_0.length c0_0, .slice A0_1 l0_1.length c0_1, .slice A0_2 l0_2.length c0_2], .int .i64 0, .slice A1 l1.length c1] W fun e w' => e = .returned (.int .i64 (givenV l0_0 l0_1 l0_2 0 l1)) ∧ Below W.heap.size W w' := fun W hW =>
  pipe_given.calls _ _ _ _ _ _ _ _ _ 0 _ _ l1 _ W (Kd.qaj HR0.out hW) hc0_0 (Kd.qaj HR1.out hW) hc0_1 (Kd.qaj HR2.out hW) hc0_2 (Kd.qaj HR3.out hW) hc1 rfl
 have HGIV := qab.mk hgiven
 clear hgiven
 obtain ⟨gv, hgv⟩ : ∃ gv, gv = givenV l0_0 l0_1 l0_2 0 l1 := ⟨_, rfl⟩
 rw [← hgv] at HGIV
 by_cases hz : gv = 0
 ·
  have hgo := given_ok (hgv.symm.trans hz)
  have hlen := valid_lens hgo.2.1
  have hweak : ∀ x, x ∈ numsOf (l0_0.length + 1) → pipe_net_weak.f 14 l0_0 l0_1 l0_2 0 x l1 = some ((weakV l0_0 l0_1 l0_2 0 x l1).1, (weakV l0_0 l0_1 l0_2 0 x l1).2) := fun x hx => by
   unfold numsOf at hx
   simp only [List.mem_map, List.mem_range] at hx
   obtain ⟨k, hk, rfl⟩ := hx
   exact weakV_some _ _ _ _ _ _ hgo.1 (fun f hf => order_some hgo.2.1 (by omega) (by omega) (by omega) (hgo.2.2.2.2 f hf).1 (hgo.2.2.2.2 f hf).2)
  have HW := qab.mk hweak
  have HLN : qab (l0_0.length ≤ 5) := ⟨hlen.2.2.1⟩
  have hPV : postV l0_0 l0_1 l0_2 l1 = (if (g1 (ofPost l0_0 l0_1 l0_2 l1) (numsOf (l0_0.length + 1))).2.2 = true then ((g1 (ofPost l0_0 l0_1 l0_2 l1) (numsOf (l0_0.length + 1))).1, (g1 (ofPost l0_0 l0_1 l0_2 l1) (numsOf (l0_0.length + 1))).2.1, 0) else (0, 0, 5)) := by
   unfold postV
   rw [if_neg (by rw [← hgv]; simp [hz])]
  have HPV := qab.mk (hPV.symm.trans HF.out)
  clear hPV hweak hlen hgo hgv
  subst hz
  have hw1 : IntKind.i64.wrap ((l0_0.length : Int) + 1) = (l0_0.length : Int) + 1 := by rw [i64_w]; unfold wrap64; have := HLN.out; omega
  go_enter Try.func37, Try.ntmps37
  go_wp2_with (first | ((with_reducible refine qan (N := 2) rfl ?_); refine qam ?hg (N := 2) ?hd (cs := #[.slice A0_0 l0_0.length c0_0, .slice A0_1 l0_1.length c0_1, .slice A0_2 l0_2.length c0_2]) (t := 26) ?hr ?_; (case hd => rfl); (case hg => rfl); (case hr => first | (go_simp; done) | (go_simp; rfl)); intro gb hg_gb w2 hbox hb; have BKgb := qab.mk hbox; have n_HB := qab.mk (qad HB.out hb); have GEgb : w.heap.size ≤ gb := (by rw [hg_gb]; exact HB.out.size); clear HB; have HB := n_HB; clear n_HB; clear hbox hb hg_gb) | ((with_reducible refine qan (N := 3) rfl ?_); refine qam ?hg (N := 3) ?hd (cs := #[.slice A1 l1.length c1]) (t := 47) ?hr ?_; (case hd => rfl); (case hg => rfl); (case hr => first | (go_simp; done) | (go_simp; rfl)); intro gf hg_gf w3 hbox hb; have BKgf := qab.mk hbox; replace BKgb := qab.mk (qag BKgb.out hb); have n_HB := qab.mk (qad HB.out hb); have GEgf : w.heap.size ≤ gf := (by rw [hg_gf]; exact HB.out.size); clear HB; have HB := n_HB; clear n_HB; clear hbox hb hg_gf; obtain ⟨hfgb, hcgb_0, hcgb_1, hcgb_2⟩ := qz3 BKgb.out; obtain ⟨hfgf, hcgf_0⟩ := qz1 BKgf.out) | (go_at_call 70; refine (HGIV.out _ HB.out).mono ?_; rintro e w4 ⟨rfl, hb⟩; replace BKgb := qab.mk (qag BKgb.out hb); replace BKgf := qab.mk (qag BKgf.out hb); replace HB := qab.mk (qad HB.out hb); clear hb; obtain ⟨hfgb, hcgb_0, hcgb_1, hcgb_2⟩ := qz3 BKgb.out) | (go_at_call 72; refine (numbers_calls _ _).mono ?_; rintro e w5 ⟨BB, rfl, hBB, hge, hb⟩; replace BKgb := qab.mk (qag BKgb.out hb); replace BKgf := qab.mk (qag BKgf.out hb); replace HB := qab.mk (qad HB.out hb); clear hb))
  have hcall := greatest73_calls (p := fun x => x ∈ numsOf (l0_0.length + 1)) (gf := 96) (lb := #[.pointer (some ⟨BB, 0, none⟩)]) (enters_of Try.func96 (by kernel_rfl) rfl) (Bn := BB) (w := w5) (blk_lt hBB) (fun n hn => numbers_stops n hn (l0_0.length + 1) (by have := HLN.out; omega) BB w5 hBB) (numsOf (l0_0.length + 1)) (fun xs h => h)
   (Inv73.held (w0 := w) (gn := gb) (gf := gf) (cn := .nilIface) (cf := .slice A1 l1.length c1) (cs := #[.slice A0_0 l0_0.length c0_0, .slice A0_1 l0_1.length c0_1, .slice A0_2 l0_2.length c0_2]) (B := w5.heap.size) HB.out.size) (fun _ => False) (fun k hk => hk.elim)
   (fun _ => False) (.pointer (some ⟨gb, 0, none⟩)) (.pointer (some ⟨gf, 0, none⟩)) (ofPost l0_0 l0_1 l0_2 l1)
   (fun A' W' x hx hA' hi' => of73_calls _ _ l0_0 _ _ l0_1 _ _ l0_2 _ _ l1 w gb gf .nilIface HR0.out hc0_0 HR1.out hc0_1 HR2.out hc0_2 HR3.out hc1 x (HW.out x hx) A' W' hi')
   ⟨fun h => h, fun h => h, fun k h => h.elim, BKgb.out, BKgf.out, HB.out⟩ (fun k hk => hk.elim)
  refine hcall.mono ?_
  rintro e w7 ⟨rfl, i7, k7⟩
  have hb7 := HB.out.trans (k7.toBelow (fun k h => h.elim) |>.mono HB.out.size)
  clear hcall i7 k7 hBB hge
  generalize g1 (ofPost l0_0 l0_1 l0_2 l1) (numsOf (l0_0.length + 1)) = g at HPV ⊢
  obtain ⟨ga, gc, gd⟩ := g
  try dsimp only at HPV ⊢
  have HB7 := qab.mk hb7
  clear hb7
  cases gd with
  | false =>
   have he := HPV.out
   cases he
   go_wp2_with fail
   go_ret3
   exact ⟨rfl, HB7.out⟩
  | true =>
   have he := HPV.out
   cases he
   go_wp2_with fail
   go_ret3
   exact ⟨rfl, HB7.out⟩
 ·
  have hzb : (gv != 0) = true := by simp [hz]
  have hv : (r1, r2, r3) = (0, 0, gv) := by rw [← HF.out]; unfold postV; rw [← hgv, if_pos hz]
  cases hv
  clear hgv
  go_enter Try.func37, Try.ntmps37
  go_wp2_with (first | ((with_reducible refine qan (N := 2) rfl ?_); refine qam ?hg (N := 2) ?hd (cs := #[.slice A0_0 l0_0.length c0_0, .slice A0_1 l0_1.length c0_1, .slice A0_2 l0_2.length c0_2]) (t := 26) ?hr ?_; (case hd => rfl); (case hg => rfl); (case hr => first | (go_simp; done) | (go_simp; rfl)); intro gb hg_gb w2 hbox hb; have BKgb := qab.mk hbox; have n_HB := qab.mk (qad HB.out hb); have GEgb : w.heap.size ≤ gb := (by rw [hg_gb]; exact HB.out.size); clear HB; have HB := n_HB; clear n_HB; clear hbox hb hg_gb) | ((with_reducible refine qan (N := 3) rfl ?_); refine qam ?hg (N := 3) ?hd (cs := #[.slice A1 l1.length c1]) (t := 47) ?hr ?_; (case hd => rfl); (case hg => rfl); (case hr => first | (go_simp; done) | (go_simp; rfl)); intro gf hg_gf w3 hbox hb; have BKgf := qab.mk hbox; replace BKgb := qab.mk (qag BKgb.out hb); have n_HB := qab.mk (qad HB.out hb); have GEgf : w.heap.size ≤ gf := (by rw [hg_gf]; exact HB.out.size); clear HB; have HB := n_HB; clear n_HB; clear hbox hb hg_gf; obtain ⟨hfgb, hcgb_0, hcgb_1, hcgb_2⟩ := qz3 BKgb.out; obtain ⟨hfgf, hcgf_0⟩ := qz1 BKgf.out) | (go_at_call 70; refine (HGIV.out _ HB.out).mono ?_; rintro e w4 ⟨rfl, hb⟩; replace HB := qab.mk (qad HB.out hb); clear hb))
  go_ret3
  exact ⟨rfl, HB.out⟩
end Go.Proofs.Ytipphcjgdebecaa.PA
namespace Go.Proofs.Ytipphcjgdebecaa.PA
open Go.RowKit Go.Proofs.YtipphcjgdebecaaW.PrintWords Go.Proofs.YtipphcjgdebecaaW.PrintLast Go.Proofs.YtipphcjgdebecaaW.PrintMore
attribute [local go_sem] qaw qay max_two min_two qas qat qax qaz
attribute [local go_sem] Oper.semAt_some
def costS (l0 : List S39) (a : Int) (i : Int) : Int := wrap64 (a + (qal l0 i).f3)
def costV (l0 : List S39) (s : List Int) : Int := s.foldl (costS l0) 0
theorem costV_snoc (l0 : List S39) (s : List Int) (x : Int) : costV l0 (s ++ [x]) = wrap64 (costV l0 s + (qal l0 x).f3) := by simp [costV, costS]
structure Inv75 (w0 : World) (gn gf gm : Nat) (cf cm : Value) (cs : Array Value) (A : Nat → Prop) (W : World) : Prop where
 an : ¬ A gn
 af : ¬ A gf
 am : ¬ A gm
 lo : ∀ k, A k → w0.heap.size ≤ k
 xn : W.heap[gn]? = some (.cells cs 26 (0, 0))
 xf : W.heap[gf]? = some (.cells #[cf] 47 (0, 0))
 xm : W.heap[gm]? = some (.cells #[cm] 3 (0, 0))
 hb : Below w0.heap.size w0 W
theorem Inv75.held {w0 : World} {gn gf gm : Nat} {cf cm : Value} {cs : Array Value} {B : Nat} (hB : w0.heap.size ≤ B) : Held B (Inv75 w0 gn gf gm cf cm cs) where
 mono A A' W hA h := ⟨fun hk => h.an (hA _ hk), fun hk => h.af (hA _ hk), fun hk => h.am (hA _ hk), fun k hk => h.lo k (hA k hk), h.xn, h.xf, h.xm, h.hb⟩
 fresh A W h := ⟨fun hk => hk.elim h.an (fun e => by have := blk_lt h.xn; omega), fun hk => hk.elim h.af (fun e => by have := blk_lt h.xf; omega), fun hk => hk.elim h.am (fun e => by have := blk_lt h.xm; omega), fun k hk => hk.elim (h.lo k) (fun e => Nat.le_trans h.hb.size e), h.xn, h.xf, h.xm, h.hb⟩
 step A W W' h hk := ⟨h.an, h.af, h.am, h.lo, hk.blk h.xn h.an, hk.blk h.xf h.af, hk.blk h.xm h.am, ⟨hk.os.trans h.hb.os, hk.tape.trans h.hb.tape, hk.output.trans h.hb.output, Nat.le_trans h.hb.size hk.size, fun k hlt => (hk.block k (Nat.lt_of_lt_of_le hlt h.hb.size) (fun ha => by have := h.lo k ha; omega)).trans (h.hb.block k hlt)⟩⟩
 own A W W' row h hg hr := ⟨h.an, h.af, h.am, h.lo, blk_own h.xn hg hr, blk_own h.xf hg hr, blk_own h.xm hg hr, ⟨hg.os.trans h.hb.os, hg.tape.trans h.hb.tape, hg.output.trans h.hb.output, Nat.le_trans h.hb.size hg.size, fun k hlt => (hg.block k (Nat.lt_of_lt_of_le hlt h.hb.size) (fun e => by have := (hr k e.symm).1; omega)).trans (h.hb.block k hlt)⟩⟩
def ofWrap (l0 : List S39) (l1 : List S37) (l2 : List (List Int)) (from_ : Int) (fs : List Int) (x : Int) : Int × Bool := (wrap64 (-(costV l0 (qar x 5))), decide ((weakV l0 l1 l2 x from_ fs).1 < 0))
theorem of75_calls (A0 : Option Addr) (c0 : Nat) (l0 : List S39) (A1 : Option Addr) (c1 : Nat) (l1 : List S37) (A2 : Option Addr) (c2 : Nat) (l2 : List (List Int)) (A3 : Option Addr) (c3 : Nat) (fs : List Int) (from_ : Int) (w0 : World) (gn gf gm : Nat)
  (hr0 : Kd.C k39 w0 A0 l0.length l0) (hc0 : l0.length ≤ c0) (hr1 : Kd.C k37 w0 A1 l1.length l1) (hc1 : l1.length ≤ c1) (hr2 : Kd.C (Kd.slice 3 (Kd.int .i64)) w0 A2 l2.length l2) (hc2 : l2.length ≤ c2) (hr3 : Kd.C (Kd.int .i64) w0 A3 fs.length fs) (hc3 : fs.length ≤ c3)
  (x : Int) (hx0 : 0 ≤ x) (hlp : ∀ i ∈ qar x 5, i < l0.length) (hok : pipe_net_weak.f 14 l0 l1 l2 x from_ fs = some ((weakV l0 l1 l2 x from_ fs).1, (weakV l0 l1 l2 x from_ fs).2)) (A : Nat → Prop) (w : World) (hinv : Inv75 w0 gn gf gm (.slice A3 fs.length c3) (.int .i64 from_) #[.slice A0 l0.length c0, .slice A1 l1.length c1, .slice A2 l2.length c2] A w) :
  Calls Try.prog 75 #[.int .i64 x, .pointer (some ⟨gn, 0, none⟩), .pointer (some ⟨gm, 0, none⟩), .pointer (some ⟨gf, 0, none⟩)] w fun e w' => e = .returned (.tuple #[.int .i64 (ofWrap l0 l1 l2 from_ fs x).1, .bool (ofWrap l0 l1 l2 from_ fs x).2]) ∧ Inv75 w0 gn gf gm (.slice A3 fs.length c3) (.int .i64 from_) #[.slice A0 l0.length c0, .slice A1 l1.length c1, .slice A2 l2.length c2] A w' ∧ KB (fun _ => False) w w' := by
 have hu26 := Try.underlying26
 have hu39 := Try.underlying39
 have hu99 := Try.underlying99
 have HI := qab.mk hinv
 refine (callsIn_wide (n := 8)).1 ?_
 refine callsIn_of_wp_marks Try.func75 rfl trivial ?_ rfl
 refine wpIn_wide.2 ?_
 simp only [Try.ntmps75, List.size_toArray, List.length_cons, List.length_nil, Nat.reduceAdd, Nat.reduceSub, Array.replicate_succ, Array.replicate_zero, List.push_toArray, List.append_toArray, List.nil_append, List.cons_append]
 go_wp2_with (go_at_call 76; refine (loops_calls x _).mono ?_; rintro e w2 ⟨BB, rfl, hBB, hge, hb⟩)
 refine (wpIn_wide (n := 8)).1 ?_
 have hbw := blk_new w (.cells #[.int .i64 0] 3)
 have hba := qaf (Below.refl w.heap.size w) (.cells #[.int .i64 0] 3)
 have h7 := qag hbw hb
 have hb2 := qad hba hb
 have hl2 : w.heap.size < w2.heap.size := by have := hb.size; simp at this; omega
 have hBl := blk_lt hBB
 have hBne : BB ≠ w.heap.size := by simp at hge; omega
 have hi2 : Inv75 w0 gn gf gm (.slice A3 fs.length c3) (.int .i64 from_) #[.slice A0 l0.length c0, .slice A1 l1.length c1, .slice A2 l2.length c2] (fun k => A k ∨ k = w.heap.size) w2 := by
  have hh := Inv75.held (w0 := w0) (gn := gn) (gf := gf) (gm := gm) (cf := .slice A3 fs.length c3) (cm := .int .i64 from_) (cs := #[.slice A0 l0.length c0, .slice A1 l1.length c1, .slice A2 l2.length c2]) (B := w0.heap.size) (Nat.le_refl _)
  exact hh.step _ w _ (hh.mono _ _ _ (fun k hk => hk.elim .inl (fun e => .inr (by omega))) (hh.fresh _ _ hinv)) (KB.of_below hb2 _)
 have hw0 : w0.heap.size ≤ w2.heap.size := hi2.hb.size
 refine wpIn_rangeFunc_ownG rfl (by omega) (gf := 97) (lb := #[.pointer (some ⟨BB, 0, none⟩)]) rfl trivial (enters_of Try.func97 (by kernel_rfl) rfl) (loops_stops _ (by omega) x hx0 BB w2 hBB) (fun h k => KeptAt.trans h k) (keptAt_put hBl) (Below.refl _ _) (fun _ => rfl)
  (fun (pre : List (LoopOf x)) W => Inv75 w0 gn gf gm (.slice A3 fs.length c3) (.int .i64 from_) #[.slice A0 l0.length c0, .slice A1 l1.length c1, .slice A2 l2.length c2] (fun k => A k ∨ k = w.heap.size) W ∧ W.heap[w.heap.size]? = some (.cells #[.int .i64 (costV l0 (pre.map (fun y : LoopOf x => y.1)))] 3 (0, 0)) ∧ KB (fun k => k = w.heap.size) w2 W)
  (fun _ _ _ => False)
  (fun s A' B row hs hg hr => ⟨(Inv75.held hw0).own _ _ _ row hs.1 hg hr, blk_own hs.2.1 hg hr, hs.2.2.trans (KB.of_grown hg) (fun k e => .inr (by have := (hr k e).1; omega))⟩)
  (fun _ _ _ _ _ hs _ _ => hs)
  ⟨hi2, h7, KB.refl _ _⟩
  (fun y => { tmps := #[.int .i64 x, .pointer (some ⟨gn, 0, none⟩), .pointer (some ⟨gm, 0, none⟩), .pointer (some ⟨gf, 0, none⟩), undef, .int .i64 0, .bool false, .pointer (some ⟨w.heap.size, 0, none⟩), .int .i64 y.1, undef, undef, .int .i64 x, .func (.func 97) #[] #[.pointer (some ⟨BB, 0, none⟩)], .int .i64 y.1, undef, undef, undef, undef, undef, undef, undef, undef, undef, undef, undef, undef, undef, undef, undef, undef, undef, undef, undef, undef, undef], defers := [] }) ?assign ?body ?done ?stop
 case assign =>
  intro l y W K hK
  gi_wp2
  exact hK
 case body =>
  rintro l pre ⟨y, hy⟩ W ⟨hi, h7', hk⟩ _
  obtain ⟨k, rfl, hk5, _⟩ := (mem_loopsOf x 5 y).1 hy
  have hyl := hlp _ hy
  obtain ⟨ad, e, hl0, hl1, hl2, hl3, hl4, hl5, hl6, hl7, hl8, hl9, hl10, hl11⟩ := at_T39 (Kd.qaj hr0 hi.hb) (k : Int) (by omega) hyl
  cases e
  clear hl0 hl1 hl2 hl3 hl4 hl5 hl7 hl8 hl9 hl10 hl11
  simp only [Int.toNat_natCast] at hl6
  have hmx : Try.prog.follows .mixedOrders = true := by kernel_rfl
  have j0 : W.drew.cell? ⟨gn, 0, none⟩ = some (.slice (some ad) l0.length c0) := qaa hi.xn 0
  have j1 : W.drew.cell? ⟨w.heap.size, 0, none⟩ = some (.int .i64 (costV l0 (pre.map (fun y : LoopOf x => y.1)))) := qaa h7' 0
  have j2 : W.drew.frozen? ⟨w.heap.size, 0, none⟩ = false := qac h7' 0
  have j3 : W.drew.cell? ⟨(ad.add (k * 12)).block, (ad.add (k * 12)).off + 6, none⟩ = some (.int .i64 (qal l0 k).f3) := hl6
  have hk0 : (0 : Int) ≤ k := by omega
  have HH := qab.mk (And.intro hi (And.intro h7' hk))
  clear hi h7' hk hl6 hlp hok hr0 hr1 hr2 hr3 hinv hi2 h7
  have FIN : ∀ a : Act, ownPostG w2.heap.size (KeptAt BB) (fun (pre : List (LoopOf x)) W => Inv75 w0 gn gf gm (.slice A3 fs.length c3) (.int .i64 from_) #[.slice (some ad) l0.length c0, .slice A1 l1.length c1, .slice A2 l2.length c2] (fun k => A k ∨ k = w.heap.size) W ∧ W.heap[w.heap.size]? = some (.cells #[.int .i64 (costV l0 (pre.map (fun y : LoopOf x => y.1)))] 3 (0, 0)) ∧ KB (fun k => k = w.heap.size) w2 W)
    (fun _ _ _ => False) (pre ++ [(⟨(k : Int), hy⟩ : LoopOf x)]) W .normal a ((W.setCell ⟨w.heap.size, 0, none⟩ (.int .i64 (IntKind.i64.wrap (costV l0 (pre.map (fun y : LoopOf x => y.1)) + (qal l0 k).f3)))).drew) := by
   intro a
   have hK : ∀ v, KB (fun k => k = w.heap.size) W ((W.setCell ⟨w.heap.size, 0, none⟩ v).drew) := fun v => by
    have h := (KB.refl (fun k => k = w.heap.size) W).set (p := ⟨w.heap.size, 0, none⟩) (.inl rfl) v
    exact ⟨h.os, h.tape, h.output, h.size, h.block⟩
   have hsz := HH.out.2.2.size
   refine ⟨(hK _).from (fun k e => by omega), (hK _).block BB (by omega) (fun e => hBne e), (Inv75.held hw0).step _ _ _ HH.out.1 ((hK _).mono (fun k e => .inr e)), ?_, HH.out.2.2.trans (hK _) (fun k e => .inl e)⟩
   rw [List.map_append, List.map_cons, List.map_nil, costV_snoc, ← i64_w]
   exact qba HH.out.2.1 0 _
  gi_wp2
  gi_region
  all_goals gi_wp2
  all_goals exact FIN _
 case done =>
  rintro D xs W hD hSx ⟨hi, h7', hk⟩ hK
  have hcall : ∀ W', Below W.heap.size W W' → _ := fun W' hW => pipe_net_weak.calls 14 _ _ l0 _ _ l1 _ _ l2 x from_ _ _ fs _ _ W' (Kd.qaj (Kd.qaj hr0 hi.hb) hW) hc0 (Kd.qaj (Kd.qaj hr1 hi.hb) hW) hc1 (Kd.qaj (Kd.qaj hr2 hi.hb) hW) hc2 (Kd.qaj (Kd.qaj hr3 hi.hb) hW) hc3 hok
  have HC := qab.mk hcall
  clear hcall
  have k0 : W.cell? ⟨gn, 0, none⟩ = some (.slice A0 l0.length c0) := qaa hi.xn 0
  have k1 : W.cell? ⟨gn, 1, none⟩ = some (.slice A1 l1.length c1) := qaa hi.xn 1
  have k2 : W.cell? ⟨gn, 2, none⟩ = some (.slice A2 l2.length c2) := qaa hi.xn 2
  have k3 : W.cell? ⟨gf, 0, none⟩ = some (.slice A3 fs.length c3) := qaa hi.xf 0
  have k4 : W.cell? ⟨gm, 0, none⟩ = some (.int .i64 from_) := qaa hi.xm 0
  have k5 : W.cell? ⟨w.heap.size, 0, none⟩ = some (.int .i64 (costV l0 (xs.map (fun y : LoopOf x => y.1)))) := qaa h7' 0
  have H1 := qab.mk hi
  have H6 := qab.mk hk
  have H7 := qab.mk h7'
  have HK := qab.mk hK
  have HSX := qab.mk hSx
  clear hi hk h7' hK hSx hr0 hr1 hr2 hr3 hok hlp hinv hi2 h7
  gi_wp2
  go_wp2_with (go_at_call 74; refine (HC.out _ (Below.refl _ _)).mono ?_; rintro e w3 ⟨rfl, hb⟩; have k6 : w3.cell? ⟨w.heap.size, 0, none⟩ = some (.int .i64 (costV l0 (xs.map (fun y : LoopOf x => y.1)))) := (hb.cell (World.block_lt_of_cell? _ _ k5)).trans k5; have HB3 : qab (Below W.heap.size W w3) := ⟨hb⟩; clear hb k0 k1 k2 k3 k4 k5)
  have hD3 : w3.heap[D]? = some (.deferred (some [])) := (HB3.out.block D (blk_lt HK.out)).trans HK.out
  refine ⟨by simp, .inl ⟨_, _, rfl, run_takeDeferred hD3, ?_⟩⟩
  have hput := grownBy_putObj' w3 D (.deferred none)
  have hrow : ∀ r, some D = some r → w0.heap.size ≤ r ∧ ∃ o : Obj, w3.heap[r]? = some o ∧ o.isCells = false := fun r e => by
   injection e with e
   subst e
   exact ⟨by omega, _, hD3, rfl⟩
  have hl0 := Inv75.held (w0 := w0) (gn := gn) (gf := gf) (gm := gm) (cf := .slice A3 fs.length c3) (cm := .int .i64 from_) (cs := #[.slice A0 l0.length c0, .slice A1 l1.length c1, .slice A2 l2.length c2]) (B := w0.heap.size) (Nat.le_refl _)
  have hi3 := hl0.step _ W w3 H1.out (KB.of_below HB3.out _)
  have hi4 := hl0.own _ w3 _ (some D) hi3 hput hrow
  refine ⟨_, results_tmp2 rfl _ _ _, ?_, hl0.mono _ _ _ (fun k hk => .inl hk) hi4, ?_⟩
  ·
   have hx : xs.unattach = qar x 5 := HSX.out
   rw [hx]
   rfl
  ·
   exact (((KB.of_below hb2 (fun _ => False)).trans H6.out (fun k e => .inr (by omega))).trans (KB.of_below HB3.out (fun _ => False)) (fun k e => .inl e)).trans (KB.of_grown hput) (fun k e => .inr (by injection e with e; omega))
 case stop =>
  rintro D c pre W _ _ h _
  exact h.elim
end Go.Proofs.Ytipphcjgdebecaa.PA
namespace Go.Proofs.Ytipphcjgdebecaa.PA
open Go.RowKit Go.Proofs.YtipphcjgdebecaaW.PrintWords Go.Proofs.YtipphcjgdebecaaW.PrintLast Go.Proofs.YtipphcjgdebecaaW.PrintMore
attribute [local go_sem] qaw qay max_two min_two qas qat qax qaz
def wrapV (l0 : List S39) (l1 : List S37) (l2 : List (List Int)) (from_ : Int) (fs : List Int) : Int × Int × Int :=
 if givenV l0 l1 l2 from_ fs ≠ 0 then (0, 0, givenV l0 l1 l2 from_ fs) else
  if (g1 (ofWrap l0 l1 l2 from_ fs) (numsOf (2 ^ l0.length))).2.2 = true then ((g1 (ofWrap l0 l1 l2 from_ fs) (numsOf (2 ^ l0.length))).1, wrap64 (-(g1 (ofWrap l0 l1 l2 from_ fs) (numsOf (2 ^ l0.length))).2.1), 0) else (0, 0, 5)
theorem pow_le32 {n : Nat} (h : n ≤ 5) : 2 ^ n ≤ 32 := Nat.pow_le_pow_right (n := 2) (by decide) h
theorem loops_low {n : Nat} (h5 : n ≤ 5) {x : Nat} (hx : x < 2 ^ n) : ∀ i ∈ qar (x : Int) 5, i < n := fun i hi => by
 have h32 := pow_le32 h5
 obtain ⟨k, rfl, hk, hb⟩ := (mem_loopsOf _ 5 i).1 hi
 have h1 := bit_le (x : Int) (by omega) (by omega) k hk hb
 rcases Nat.lt_or_ge k n with h2 | h2
 ·
  omega
 ·
  exfalso
  have h3 := Nat.pow_le_pow_right (n := 2) (by decide) h2
  have h4 : ((2 ^ n : Nat) : Int) ≤ ((2 ^ k : Nat) : Int) := Int.ofNat_le.2 h3
  simp at h4
  have h5 : ((x : Nat) : Int) < ((2 ^ n : Nat) : Int) := Int.ofNat_lt.2 hx
  simp at h5
  omega
theorem shl_powN (n : Nat) (h : n ≤ 5) : shl .i64 1 (n : Int) = ((2 ^ n : Nat) : Int) := by rw [shl_pow n h]; simp
def pipe_Wrap.f (l0_0 : List (S39)) (l0_1 : List (S37)) (l0_2 : List (List Int)) (a1 : Int) (l2 : List Int) : Option (Int × Int × Int) := some (wrapV l0_0 l0_1 l0_2 a1 l2)
theorem pipe_Wrap.calls (A0_0 : Option Addr) (c0_0 : Nat) (l0_0 : List (S39)) (A0_1 : Option Addr) (c0_1 : Nat) (l0_1 : List (S37)) (A0_2 : Option Addr) (c0_2 : Nat) (l0_2 : List (List Int)) (a1 : Int) (A2 : Option Addr) (c2 : Nat) (l2 : List Int) (r1 : Int) (r2 : Int) (r3 : Int) (w : World) (hr0_0 : Kd.C k39 w A0_0 l0_0.length l0_0) (hc0_0 : l0_0.length ≤ c0_0) (hr0_1 : Kd.C k37 w A0_1 l0_1.length l0_1) (hc0_1 : l0_1.length ≤ c0_1) (hr0_2 : Kd.C (Kd.slice 3 (Kd.int .i64)) w A0_2 l0_2.length l0_2) (hc0_2 : l0_2.length ≤ c0_2) (hr2 : Kd.C (Kd.int .i64) w A2 l2.length l2) (hc2 : l2.length ≤ c2) (h : pipe_Wrap.f l0_0 l0_1 l0_2 a1 l2 = some (r1, r2, r3)) :
  Calls Try.prog 39 #[.agg #[.slice A0_0 l0_0.length c0_0, .slice A0_1 l0_1.length c0_1, .slice A0_2 l0_2.length c0_2], .int .i64 a1, .slice A2 l2.length c2] w fun e w' => e = .returned (.tuple #[.int .i64 r1, .int .i64 r2, .int .i64 r3]) ∧ Below w.heap.size w w' := by
 have h' := Option.some.inj h
 clear h
 have HF := qab.mk h'
 clear h'
 have hu26 := Try.underlying26
 have HB := qab.mk (Below.refl w.heap.size w)
 have HR0 := qab.mk hr0_0
 have HR1 := qab.mk hr0_1
 have HR2 := qab.mk hr0_2
 have HR3 := qab.mk hr2
 clear hr0_0 hr0_1 hr0_2 hr2
 have hmf : ∀ (fn : Fn) (first cap : Array Value) (w : World), (Instr.makeFunc fn first cap).run Try.prog w = .ok (.func fn first cap) w := fun _ _ _ _ => rfl
 have hgiven : ∀ W, Below w.heap.size w W → Calls Try.prog 70 #[.agg #[.slice A0_0 l0_0.length c0_0, .slice A0_1 l0_1.length c0_1, .slice A0_2 l0_2.length c0_2], .int .i64 a1, .slice A2 l2.length c2] W fun e w' => e = .returned (.int .i64 (givenV l0_0 l0_1 l0_2 a1 l2)) ∧ Below W.heap.size W w' := fun W hW =>
  pipe_given.calls _ _ _ _ _ _ _ _ _ a1 _ _ l2 _ W (Kd.qaj HR0.out hW) hc0_0 (Kd.qaj HR1.out hW) hc0_1 (Kd.qaj HR2.out hW) hc0_2 (Kd.qaj HR3.out hW) hc2 rfl
 have HGIV := qab.mk hgiven
 clear hgiven
 obtain ⟨gv, hgv⟩ : ∃ gv, gv = givenV l0_0 l0_1 l0_2 a1 l2 := ⟨_, rfl⟩
 rw [← hgv] at HGIV
 by_cases hz : gv = 0
 ·
  have hgo := given_ok (hgv.symm.trans hz)
  have hlen := valid_lens hgo.2.1
  have hweak : ∀ x, x ∈ numsOf (2 ^ l0_0.length) → pipe_net_weak.f 14 l0_0 l0_1 l0_2 x a1 l2 = some ((weakV l0_0 l0_1 l0_2 x a1 l2).1, (weakV l0_0 l0_1 l0_2 x a1 l2).2) := fun x hx => by
   unfold numsOf at hx
   simp only [List.mem_map, List.mem_range] at hx
   obtain ⟨k, hk, rfl⟩ := hx
   exact weakV_some _ _ _ _ _ _ hgo.1 (fun f hf => order_some hgo.2.1 (by omega) hgo.2.2.1 hgo.2.2.2.1 (hgo.2.2.2.2 f hf).1 (hgo.2.2.2.2 f hf).2)
  have hx01 : ∀ x, x ∈ numsOf (2 ^ l0_0.length) → 0 ≤ x ∧ ∀ i ∈ qar x 5, i < l0_0.length := fun x hx => by
   unfold numsOf at hx
   simp only [List.mem_map, List.mem_range] at hx
   obtain ⟨k, hk, rfl⟩ := hx
   exact ⟨by omega, loops_low hlen.2.2.1 hk⟩
  have hsh0 : wrap64 (2 ^ min l0_0.length 64) = ((2 ^ l0_0.length : Nat) : Int) := by
   have h32 := pow_le32 hlen.2.2.1
   rw [Nat.min_eq_left (by have := hlen.2.2.1; omega)]
   have : ((2 : Int) ^ l0_0.length) = ((2 ^ l0_0.length : Nat) : Int) := by simp
   rw [this]
   generalize 2 ^ l0_0.length = m at h32 ⊢
   unfold wrap64
   omega
  have hm32 := pow_le32 hlen.2.2.1
  obtain ⟨M, hM⟩ : ∃ M : Nat, M = 2 ^ l0_0.length := ⟨_, rfl⟩
  rw [← hM] at hweak hx01 hsh0 hm32
  have HX := qab.mk hx01
  have HSH := qab.mk hsh0
  clear hsh0
  have HM32 := qab.mk hm32
  have HW := qab.mk hweak
  have HLN : qab (l0_0.length ≤ 5) := ⟨hlen.2.2.1⟩
  have hPV : wrapV l0_0 l0_1 l0_2 a1 l2 = (if (g1 (ofWrap l0_0 l0_1 l0_2 a1 l2) (numsOf M)).2.2 = true then ((g1 (ofWrap l0_0 l0_1 l0_2 a1 l2) (numsOf M)).1, wrap64 (-(g1 (ofWrap l0_0 l0_1 l0_2 a1 l2) (numsOf M)).2.1), 0) else (0, 0, 5)) := by
   unfold wrapV
   rw [if_neg (by rw [← hgv]; simp [hz]), ← hM]
  have HPV := qab.mk (hPV.symm.trans HF.out)
  clear hPV hweak hlen hgo hgv hx01 hm32 hM
  subst hz
  have hnn : ((l0_0.length : Int) < 0) = False := by simp
  go_enter Try.func39, Try.ntmps39
  go_wp2_with (first | ((with_reducible refine qan (N := 3) rfl ?_); refine qam ?hg (N := 3) ?hd (cs := #[.slice A0_0 l0_0.length c0_0, .slice A0_1 l0_1.length c0_1, .slice A0_2 l0_2.length c0_2]) (t := 26) ?hr ?_; (case hd => rfl); (case hg => rfl); (case hr => first | (go_simp; done) | (go_simp; rfl)); intro gb hg_gb w2 hbox hb; have BKgb := qab.mk hbox; have n_HB := qab.mk (qad HB.out hb); have GEgb : w.heap.size ≤ gb := (by rw [hg_gb]; exact HB.out.size); clear HB; have HB := n_HB; clear n_HB; clear hbox hb hg_gb) | ((with_reducible refine qan (N := 4) rfl ?_); refine qam ?hg (N := 4) ?hd (cs := #[.int .i64 a1]) (t := 3) ?hr ?_; (case hd => rfl); (case hg => rfl); (case hr => first | (go_simp; done) | (go_simp; rfl)); intro gm hg_gm w2b hbox hb; have BKgm := qab.mk hbox; replace BKgb := qab.mk (qag BKgb.out hb); have n_HB := qab.mk (qad HB.out hb); have GEgm : w.heap.size ≤ gm := (by rw [hg_gm]; exact HB.out.size); clear HB; have HB := n_HB; clear n_HB; clear hbox hb hg_gm) | ((with_reducible refine qan (N := 5) rfl ?_); refine qam ?hg (N := 5) ?hd (cs := #[.slice A2 l2.length c2]) (t := 47) ?hr ?_; (case hd => rfl); (case hg => rfl); (case hr => first | (go_simp; done) | (go_simp; rfl)); intro gf hg_gf w3 hbox hb; have BKgf := qab.mk hbox; replace BKgb := qab.mk (qag BKgb.out hb); replace BKgm := qab.mk (qag BKgm.out hb); have n_HB := qab.mk (qad HB.out hb); have GEgf : w.heap.size ≤ gf := (by rw [hg_gf]; exact HB.out.size); clear HB; have HB := n_HB; clear n_HB; clear hbox hb hg_gf; obtain ⟨hfgb, hcgb_0, hcgb_1, hcgb_2⟩ := qz3 BKgb.out; obtain ⟨hfgm, hcgm_0⟩ := qz1 BKgm.out; obtain ⟨hfgf, hcgf_0⟩ := qz1 BKgf.out) | (go_at_call 70; refine (HGIV.out _ HB.out).mono ?_; rintro e w4 ⟨rfl, hb⟩; replace BKgb := qab.mk (qag BKgb.out hb); replace BKgm := qab.mk (qag BKgm.out hb); replace BKgf := qab.mk (qag BKgf.out hb); replace HB := qab.mk (qad HB.out hb); clear hb; obtain ⟨hfgb, hcgb_0, hcgb_1, hcgb_2⟩ := qz3 BKgb.out) | (go_at_call 72; refine (numbers_calls _ _).mono ?_; rintro e w5 ⟨BB, rfl, hBB, hge, hb⟩; replace BKgb := qab.mk (qag BKgb.out hb); replace BKgm := qab.mk (qag BKgm.out hb); replace BKgf := qab.mk (qag BKgf.out hb); replace HB := qab.mk (qad HB.out hb); clear hb))
  rw [HSH.out] at hBB
  have hcall := greatest75_calls (p := fun x => x ∈ numsOf M) (gf := 96) (lb := #[.pointer (some ⟨BB, 0, none⟩)]) (enters_of Try.func96 (by kernel_rfl) rfl) (Bn := BB) (w := w5) (blk_lt hBB) (fun n hn => numbers_stops n hn M (by have := HM32.out; omega) BB w5 hBB) (numsOf M) (fun xs h => h)
   (Inv75.held (w0 := w) (gn := gb) (gf := gf) (gm := gm) (cf := .slice A2 l2.length c2) (cm := .int .i64 a1) (cs := #[.slice A0_0 l0_0.length c0_0, .slice A0_1 l0_1.length c0_1, .slice A0_2 l0_2.length c0_2]) (B := w5.heap.size) HB.out.size) (fun _ => False) (fun k hk => hk.elim)
   (fun _ => False) (.pointer (some ⟨gb, 0, none⟩)) (.pointer (some ⟨gm, 0, none⟩)) (.pointer (some ⟨gf, 0, none⟩)) (ofWrap l0_0 l0_1 l0_2 a1 l2)
   (fun A' W' x hx hA' hi' => of75_calls _ _ l0_0 _ _ l0_1 _ _ l0_2 _ _ l2 a1 w gb gf gm HR0.out hc0_0 HR1.out hc0_1 HR2.out hc0_2 HR3.out hc2 x (HX.out x hx).1 (HX.out x hx).2 (HW.out x hx) A' W' hi')
   ⟨fun h => h, fun h => h, fun h => h, fun k h => h.elim, BKgb.out, BKgf.out, BKgm.out, HB.out⟩ (fun k hk => hk.elim)
  refine hcall.mono ?_
  rintro e w7 ⟨rfl, i7, k7⟩
  have hb7 := HB.out.trans (k7.toBelow (fun k h => h.elim) |>.mono HB.out.size)
  clear hcall i7 k7 hBB hge
  generalize g1 (ofWrap l0_0 l0_1 l0_2 a1 l2) (numsOf M) = g at HPV ⊢
  obtain ⟨ga, gc, gd⟩ := g
  try dsimp only at HPV ⊢
  have HB7 := qab.mk hb7
  clear hb7
  cases gd with
  | false =>
   have he := HPV.out
   cases he
   go_wp2_with fail
   go_ret3
   exact ⟨rfl, HB7.out⟩
  | true =>
   have he := HPV.out
   cases he
   go_wp2_with fail
   go_ret3
   exact ⟨rfl, HB7.out⟩
 ·
  have hzb : (gv != 0) = true := by simp [hz]
  have hv : (r1, r2, r3) = (0, 0, gv) := by rw [← HF.out]; unfold wrapV; rw [← hgv, if_pos hz]
  cases hv
  clear hgv
  go_enter Try.func39, Try.ntmps39
  go_wp2_with (first | ((with_reducible refine qan (N := 3) rfl ?_); refine qam ?hg (N := 3) ?hd (cs := #[.slice A0_0 l0_0.length c0_0, .slice A0_1 l0_1.length c0_1, .slice A0_2 l0_2.length c0_2]) (t := 26) ?hr ?_; (case hd => rfl); (case hg => rfl); (case hr => first | (go_simp; done) | (go_simp; rfl)); intro gb hg_gb w2 hbox hb; have BKgb := qab.mk hbox; have n_HB := qab.mk (qad HB.out hb); have GEgb : w.heap.size ≤ gb := (by rw [hg_gb]; exact HB.out.size); clear HB; have HB := n_HB; clear n_HB; clear hbox hb hg_gb) | ((with_reducible refine qan (N := 4) rfl ?_); refine qam ?hg (N := 4) ?hd (cs := #[.int .i64 a1]) (t := 3) ?hr ?_; (case hd => rfl); (case hg => rfl); (case hr => first | (go_simp; done) | (go_simp; rfl)); intro gm hg_gm w2b hbox hb; have BKgm := qab.mk hbox; replace BKgb := qab.mk (qag BKgb.out hb); have n_HB := qab.mk (qad HB.out hb); have GEgm : w.heap.size ≤ gm := (by rw [hg_gm]; exact HB.out.size); clear HB; have HB := n_HB; clear n_HB; clear hbox hb hg_gm) | ((with_reducible refine qan (N := 5) rfl ?_); refine qam ?hg (N := 5) ?hd (cs := #[.slice A2 l2.length c2]) (t := 47) ?hr ?_; (case hd => rfl); (case hg => rfl); (case hr => first | (go_simp; done) | (go_simp; rfl)); intro gf hg_gf w3 hbox hb; have BKgf := qab.mk hbox; replace BKgb := qab.mk (qag BKgb.out hb); replace BKgm := qab.mk (qag BKgm.out hb); have n_HB := qab.mk (qad HB.out hb); have GEgf : w.heap.size ≤ gf := (by rw [hg_gf]; exact HB.out.size); clear HB; have HB := n_HB; clear n_HB; clear hbox hb hg_gf; obtain ⟨hfgb, hcgb_0, hcgb_1, hcgb_2⟩ := qz3 BKgb.out; obtain ⟨hfgm, hcgm_0⟩ := qz1 BKgm.out; obtain ⟨hfgf, hcgf_0⟩ := qz1 BKgf.out) | (go_at_call 70; refine (HGIV.out _ HB.out).mono ?_; rintro e w4 ⟨rfl, hb⟩; replace HB := qab.mk (qad HB.out hb); clear hb))
  go_ret3
  exact ⟨rfl, HB.out⟩
def pipe_Freezes.f (l0_0 : List (S39)) (l0_1 : List (S37)) (l0_2 : List (List Int)) (a1 : Int) : Option (Int × Int × Int) := if (validB l0_0 l0_1 l0_2 && inB a1 0 (wrap64 ((l0_0.length : Int) - 1))) = true then (pipe_net_freezes.f l0_0 l0_1 l0_2 0 a1).bind fun x => some (x.1, x.2, 0) else some (0, 0, 2)
theorem pipe_Freezes.calls (A0_0 : Option Addr) (c0_0 : Nat) (l0_0 : List (S39)) (A0_1 : Option Addr) (c0_1 : Nat) (l0_1 : List (S37)) (A0_2 : Option Addr) (c0_2 : Nat) (l0_2 : List (List Int)) (a1 : Int) (r1 : Int) (r2 : Int) (r3 : Int) (w : World) (hr0_0 : Kd.C k39 w A0_0 l0_0.length l0_0) (hc0_0 : l0_0.length ≤ c0_0) (hr0_1 : Kd.C k37 w A0_1 l0_1.length l0_1) (hc0_1 : l0_1.length ≤ c0_1) (hr0_2 : Kd.C (Kd.slice 3 (Kd.int .i64)) w A0_2 l0_2.length l0_2) (hc0_2 : l0_2.length ≤ c0_2) (h : pipe_Freezes.f l0_0 l0_1 l0_2 a1 = some (r1, r2, r3)) :
  Calls Try.prog 43 #[.agg #[.slice A0_0 l0_0.length c0_0, .slice A0_1 l0_1.length c0_1, .slice A0_2 l0_2.length c0_2], .int .i64 a1] w fun e w' => e = .returned (.tuple #[.int .i64 r1, .int .i64 r2, .int .i64 r3]) ∧ Below w.heap.size w w' := by
 unfold pipe_Freezes.f at h
 have hu26 := Try.underlying26
 have hu99 := Try.underlying99
 have HB := qab.mk (Below.refl w.heap.size w)
 have HR0 := qab.mk hr0_0
 have HR1 := qab.mk hr0_1
 have HR2 := qab.mk hr0_2
 clear hr0_0 hr0_1 hr0_2
 have HVAL : qab (∀ W, Below w.heap.size w W → Calls Try.prog 54 #[.agg #[.slice A0_0 l0_0.length c0_0, .slice A0_1 l0_1.length c0_1, .slice A0_2 l0_2.length c0_2]] W fun e w' => e = .returned (.bool (validB l0_0 l0_1 l0_2)) ∧ Below W.heap.size W w') := ⟨fun W hW =>
  pipe_valid.calls _ _ _ _ _ _ _ _ _ _ W (Kd.qaj HR0.out hW) hc0_0 (Kd.qaj HR1.out hW) hc0_1 (Kd.qaj HR2.out hW) hc0_2 rfl⟩
 have HIN := qab.mk (in_calls a1 0 (wrap64 ((l0_0.length : Int) - 1)))
 have hw1 : IntKind.i64.wrap ((l0_0.length : Int) - 1) = wrap64 ((l0_0.length : Int) - 1) := by rw [i64_w]
 obtain ⟨b1, e1⟩ : ∃ b, b = validB l0_0 l0_1 l0_2 := ⟨_, rfl⟩
 obtain ⟨b2, e2⟩ : ∃ b, b = inB a1 0 (wrap64 ((l0_0.length : Int) - 1)) := ⟨_, rfl⟩
 rw [← e1] at HVAL h
 rw [← e2] at HIN h
 clear e1 e2
 cases b1 with
 | false =>
  rw [if_neg (by simp)] at h
  cases h
  go_enter Try.func43, Try.ntmps43
  go_wp2_with (first | (with_reducible refine qan (N := 2) rfl ?_); refine qam ?hg (N := 2) ?hd (cs := #[.slice A0_0 l0_0.length c0_0, .slice A0_1 l0_1.length c0_1, .slice A0_2 l0_2.length c0_2]) (t := 26) ?hr ?_; (case hd => rfl); (case hg => rfl); (case hr => first | (go_simp; done) | (go_simp; rfl)); intro gb hg_gb w2 hbox hb; have BKgb := qab.mk hbox; have n_HB := qab.mk (qad HB.out hb); have GEgb : w.heap.size ≤ gb := (by rw [hg_gb]; exact HB.out.size); clear HB; have HB := n_HB; clear n_HB; obtain ⟨hfgb, hcgb_0, hcgb_1, hcgb_2⟩ := qz3 BKgb.out; clear hbox hb hg_gb | (go_at_call 54; with_reducible refine (HVAL.out _ HB.out).mono ?_; rintro e w3 ⟨rfl, hb⟩; replace BKgb := qab.mk (qag BKgb.out hb); replace HB := qab.mk (qad HB.out hb); clear hb; obtain ⟨hfgb, hcgb_0, hcgb_1, hcgb_2⟩ := qz3 BKgb.out))
  go_ret3
  exact ⟨rfl, HB.out⟩
 | true =>
  cases b2 with
  | false =>
   rw [if_neg (by simp)] at h
   cases h
   go_enter Try.func43, Try.ntmps43
   go_wp2_with (first | (with_reducible refine qan (N := 2) rfl ?_); refine qam ?hg (N := 2) ?hd (cs := #[.slice A0_0 l0_0.length c0_0, .slice A0_1 l0_1.length c0_1, .slice A0_2 l0_2.length c0_2]) (t := 26) ?hr ?_; (case hd => rfl); (case hg => rfl); (case hr => first | (go_simp; done) | (go_simp; rfl)); intro gb hg_gb w2 hbox hb; have BKgb := qab.mk hbox; have n_HB := qab.mk (qad HB.out hb); have GEgb : w.heap.size ≤ gb := (by rw [hg_gb]; exact HB.out.size); clear HB; have HB := n_HB; clear n_HB; obtain ⟨hfgb, hcgb_0, hcgb_1, hcgb_2⟩ := qz3 BKgb.out; clear hbox hb hg_gb | (go_at_call 54; with_reducible refine (HVAL.out _ HB.out).mono ?_; rintro e w3 ⟨rfl, hb⟩; replace BKgb := qab.mk (qag BKgb.out hb); replace HB := qab.mk (qad HB.out hb); clear hb; obtain ⟨hfgb, hcgb_0, hcgb_1, hcgb_2⟩ := qz3 BKgb.out) | (go_at_call 55; with_reducible refine (HIN.out _).mono ?_; rintro e w4 ⟨rfl, hb⟩; replace BKgb := qab.mk (qag BKgb.out hb); replace HB := qab.mk (qad HB.out hb); clear hb; obtain ⟨hfgb, hcgb_0, hcgb_1, hcgb_2⟩ := qz3 BKgb.out))
   go_ret3
   exact ⟨rfl, HB.out⟩
  | true =>
   rw [if_pos (by decide)] at h
   obtain ⟨o, ho, h⟩ := Option.bind_eq_some_iff.1 h
   obtain ⟨o1, o2⟩ := o
   cases h
   have HFR : qab (∀ W, Below w.heap.size w W → _) := ⟨fun W hW => pipe_net_freezes.calls _ _ l0_0 _ _ l0_1 _ _ l0_2 0 a1 _ _ W (Kd.qaj HR0.out hW) hc0_0 (Kd.qaj HR1.out hW) hc0_1 (Kd.qaj HR2.out hW) hc0_2 ho⟩
   go_enter Try.func43, Try.ntmps43
   go_wp2_with (first | (with_reducible refine qan (N := 2) rfl ?_); refine qam ?hg (N := 2) ?hd (cs := #[.slice A0_0 l0_0.length c0_0, .slice A0_1 l0_1.length c0_1, .slice A0_2 l0_2.length c0_2]) (t := 26) ?hr ?_; (case hd => rfl); (case hg => rfl); (case hr => first | (go_simp; done) | (go_simp; rfl)); intro gb hg_gb w2 hbox hb; have BKgb := qab.mk hbox; have n_HB := qab.mk (qad HB.out hb); have GEgb : w.heap.size ≤ gb := (by rw [hg_gb]; exact HB.out.size); clear HB; have HB := n_HB; clear n_HB; obtain ⟨hfgb, hcgb_0, hcgb_1, hcgb_2⟩ := qz3 BKgb.out; clear hbox hb hg_gb | (go_at_call 54; with_reducible refine (HVAL.out _ HB.out).mono ?_; rintro e w3 ⟨rfl, hb⟩; replace BKgb := qab.mk (qag BKgb.out hb); replace HB := qab.mk (qad HB.out hb); clear hb; obtain ⟨hfgb, hcgb_0, hcgb_1, hcgb_2⟩ := qz3 BKgb.out) | (go_at_call 55; with_reducible refine (HIN.out _).mono ?_; rintro e w4 ⟨rfl, hb⟩; replace BKgb := qab.mk (qag BKgb.out hb); replace HB := qab.mk (qad HB.out hb); clear hb; obtain ⟨hfgb, hcgb_0, hcgb_1, hcgb_2⟩ := qz3 BKgb.out) | (go_at_call 77; refine (HFR.out _ HB.out).mono ?_; rintro e w5 ⟨rfl, hb⟩; replace BKgb := qab.mk (qag BKgb.out hb); replace HB := qab.mk (qad HB.out hb); clear hb; obtain ⟨hfgb, hcgb_0, hcgb_1, hcgb_2⟩ := qz3 BKgb.out))
   go_ret3
   exact ⟨rfl, HB.out⟩
end Go.Proofs.Ytipphcjgdebecaa.PA
