/- What functions of the program answer. No condition. -/
import Derived.Test.YtafkanmioinbiaaSC
import Derived.Test.YtafkanmioinbiaaSD
import Derived.Test.YtafkanmioinbiaaSE
set_option linter.all false
set_option maxRecDepth 100000
set_option maxHeartbeats 8000000
namespace Go.Proofs.Ytafkanmioinbiaa.SA
open Go.RowKit Go.Proofs.YtafkanmioinbiaaW.PrintWords Go.Proofs.YtafkanmioinbiaaW.PrintLast Go.Proofs.YtafkanmioinbiaaW.PrintMore
attribute [local go_sem] qax qaz max_two min_two qao qap qay qba
def goB (d : Int) (l1 : List S44) (l4 : List S41) (n y : Nat) : Bool := !dykeV d n && decide ((rd_T41 l4 y).f1 ≥ (qav l1 n).f2)
def goesN (d : Int) (l1 : List S44) (l4 : List S41) (n year : Nat) : Option Nat := ((List.range l4.length).drop year).find? (goB d l1 l4 n)
def goesV (d : Int) (l1 : List S44) (l4 : List S41) (n year : Nat) : Int × Bool := match goesN d l1 l4 n year with | some y => ((y : Int), true) | none => (0, false)
theorem goesN_step (d : Int) (l1 : List S44) (l4 : List S41) (n y : Nat) (hy : y < l4.length) : goesN d l1 l4 n y = if goB d l1 l4 n y = true then some y else goesN d l1 l4 n (y + 1) := by
 unfold goesN
 have hl : y < (List.range l4.length).length := by simpa using hy
 rw [List.drop_eq_getElem_cons hl, List.find?_cons]
 simp only [List.getElem_range]
 cases goB d l1 l4 n y <;> simp
theorem goesN_end (d : Int) (l1 : List S44) (l4 : List S41) (n y : Nat) (hy : l4.length ≤ y) : goesN d l1 l4 n y = none := by
 unfold goesN
 rw [List.drop_eq_nil_of_le (by simpa using hy)]
 rfl
theorem goes_calls (g : Nat) (v0 v2 v3 v5 : Value) (A1 : Option Addr) (c1 : Nat) (l1 : List S44) (A4 : Option Addr) (c4 : Nat) (l4 : List S41) (d : Int) (n year : Nat) (w : World) (hr1 : Kd.C k44 w A1 l1.length l1) (hr4 : Kd.C k41 w A4 l4.length l4) (h15 : l4.length ≤ 100000) (hn : n < l1.length) (hn2 : n < 64) (hy : year ≤ 100000)
  (hb : w.heap[g]? = some (.cells #[v0, .slice A1 l1.length c1, v2, v3, .slice A4 l4.length c4, v5, .int .i64 d] 123 (0, 0))) :
  Calls Try.prog 63 #[.pointer (some ⟨g, 0, none⟩), .int .i64 (n : Int), .int .i64 (year : Int)] w fun e w' => e = .returned (.tuple #[.int .i64 (goesV d l1 l4 n year).1, .bool (goesV d l1 l4 n year).2]) ∧ Below w.heap.size w w' := by
 have hu123 := Try.underlying123
 have hu27 := Try.underlying27
 have hu41 := Try.underlying41
 have hu44 := Try.underlying44
 have HR1 := qab.mk hr1
 have HR4 := qab.mk hr4
 have HB := qab.mk (Below.refl w.heap.size w)
 have BK := qab.mk hb
 clear hr1 hr4 hb
 go_enter Try.func63, Try.ntmps63
 go_wp2
 go_loopw [8] (fun s8 wr => ∃ (y : Nat), y ≤ 100000 ∧ s8 = .int .i64 y ∧ qab (goesN d l1 l4 n year = goesN d l1 l4 n y) ∧ qab (Below w.heap.size w wr)) (fun s _ => 100001 - (intOf s).toNat)
 case atStart => exact ⟨year, hy, rfl, ⟨rfl⟩, HB⟩
 case round =>
  clear HB hy
  obtain ⟨y, hy, rfl, HN, HB⟩ := hrel
  have q4 : wr.cell? ⟨g, 4, none⟩ = some (.slice A4 l4.length c4) := (qaa (qad BK.out HB.out) 4).trans rfl
  by_cases hlt : y < l4.length
  ·
   obtain ⟨a4, e, _, t1⟩ := at_T41 HR4.out y (by omega) (by omega)
   cases e
   obtain ⟨a1, e, _, _, t2, _⟩ := at_T44 HR1.out n (by omega) (by omega)
   cases e
   simp only [Int.toNat_natCast] at t1 t2
   obtain ⟨th, hth⟩ : ∃ x, x = (rd_T41 l4 y).f1 := ⟨_, rfl⟩
   obtain ⟨dp, hdp⟩ : ∃ x, x = (qav l1 n).f2 := ⟨_, rfl⟩
   rw [← hth] at t1
   rw [← hdp] at t2
   have T1 := qab.mk t1
   have T2 := qab.mk t2
   have HT : qab (∀ W, Below w.heap.size w W → (W.cell? ⟨g, 4, none⟩ = some (.slice (some a4) l4.length c4) ∧ W.cell? ⟨g, 1, none⟩ = some (.slice (some a1) l1.length c1) ∧ W.cell? ⟨(a4.add (y * 2)).block, (a4.add (y * 2)).off + 1, none⟩ = some (.int .i64 th) ∧ W.cell? ⟨(a1.add (n * 4)).block, (a1.add (n * 4)).off + 2, none⟩ = some (.int .i64 dp) ∧ qab (Below w.heap.size w W))) := ⟨fun W h => ⟨(qaa (qad BK.out h) 4).trans rfl, (qaa (qad BK.out h) 1).trans rfl, (h.cell (World.block_lt_of_cell? w _ T1.out)).trans T1.out, (h.cell (World.block_lt_of_cell? w _ T2.out)).trans T2.out, ⟨h⟩⟩⟩
   obtain ⟨dy, hdy⟩ : ∃ b, b = dykeV d n := ⟨_, rfl⟩
   have HDY : qab (∀ W, Below w.heap.size w W → Calls Try.prog 92 #[.pointer (some ⟨g, 0, none⟩), .int .i64 (n : Int)] W fun e w' => e = .returned (.bool dy) ∧ Below W.heap.size W w') := ⟨fun W h => by rw [hdy]; exact dyke_calls g _ _ _ _ _ _ d n W (qad BK.out h) (by omega) (by omega)⟩
   have HG : qab (goB d l1 l4 n y = (!dy && decide (th ≥ dp))) := ⟨by rw [hdy, hth, hdp]; rfl⟩
   clear t1 t2 hth hdp hdy
   go_upto_region 4 with fail
   clear q4
   cases dy with
   | true =>
    have HS : qab (goesN d l1 l4 n year = goesN d l1 l4 n (y + 1)) := ⟨by rw [HN.out, goesN_step d l1 l4 n y hlt, HG.out]; rfl⟩
    refine start_ (n := 25) (S := (fun w' => (w'.cell? ⟨g, 4, none⟩ = some (.slice (some a4) l4.length c4) ∧ w'.cell? ⟨g, 1, none⟩ = some (.slice (some a1) l1.length c1) ∧ w'.cell? ⟨(a4.add (y * 2)).block, (a4.add (y * 2)).off + 1, none⟩ = some (.int .i64 th) ∧ w'.cell? ⟨(a1.add (n * 4)).block, (a1.add (n * 4)).off + 2, none⟩ = some (.int .i64 dp) ∧ qab (Below w.heap.size w w')))) (ds := []) (msk 25 0) (by kernel_rfl) rfl rfl (HT.out _ (qaq HB.out)) (fun hHeld => ?_)
    refine zq 0 1 20 ?_
    refine zq 1 2 21 ?_
    refine one_ (i := 2) (N := some 22) (msk 25 3) rfl rfl (by kernel_rfl) (by decide) (fun K hK => ?_)
    refine zg Try.func92 #[.pointer (some ⟨g, 0, none⟩), .int .i64 (n : Int)] ?_
    refine (HDY.out _ hHeld.2.2.2.2.out).mono ?_; rintro e w5 ⟨rfl, hb⟩; have HP5 := qab.mk (HT.out w5 (qae hHeld.2.2.2.2.out hb)); clear hb; refine ⟨_, rfl, ?_⟩; refine hK.out _ _ HP5.out (fun hHeld => ?_); clear hK K; refine zn 22 ?_
    refine zq 3 4 23 ?_
    refine zq 4 5 24 ?_
    refine zo 5 6 25 ?_
    refine zo 6 7 26 ?_
    refine zo 7 8 27 ?_
    refine zo 8 9 28 ?_
    refine zo 9 10 29 ?_
    refine zo 10 11 30 ?_
    refine zo 11 12 31 ?_
    refine zo 12 13 32 ?_
    refine zo 13 14 33 ?_
    refine zo 14 15 34 ?_
    refine zo 15 16 35 ?_
    refine zo 16 17 36 ?_
    refine zo 17 18 37 ?_
    refine zo 18 19 38 ?_
    refine zo 19 20 39 ?_
    refine zo 20 21 40 ?_
    refine zo 21 22 41 ?_
    refine zo 22 23 42 ?_
    refine zo 23 24 43 ?_
    refine zq 24 25 44 ?_
    refine done_ (by kernel_rfl) ?_
    clear hHeld
    go_wp2
    go_roundw
    case rel => exact ⟨y + 1, by omega, by go_num, HS, HP5.out.2.2.2.2⟩
    case measure => simp [intOf]; omega
   | false =>
    by_cases hc : th ≥ dp
    ·
     have hcd : decide (dp ≤ th) = true := decide_eq_true hc
     have HS : qab (goesV d l1 l4 n year = ((y : Int), true)) := ⟨by unfold goesV; rw [HN.out, goesN_step d l1 l4 n y hlt, HG.out, decide_eq_true hc]; rfl⟩
     clear hc
     refine start_ (n := 25) (S := (fun w' => (w'.cell? ⟨g, 4, none⟩ = some (.slice (some a4) l4.length c4) ∧ w'.cell? ⟨g, 1, none⟩ = some (.slice (some a1) l1.length c1) ∧ w'.cell? ⟨(a4.add (y * 2)).block, (a4.add (y * 2)).off + 1, none⟩ = some (.int .i64 th) ∧ w'.cell? ⟨(a1.add (n * 4)).block, (a1.add (n * 4)).off + 2, none⟩ = some (.int .i64 dp) ∧ qab (Below w.heap.size w w')))) (ds := []) (msk 25 0) (by kernel_rfl) rfl rfl (HT.out _ (qaq HB.out)) (fun hHeld => ?_)
     refine zq 0 1 20 ?_
     refine zq 1 2 21 ?_
     refine one_ (i := 2) (N := some 22) (msk 25 3) rfl rfl (by kernel_rfl) (by decide) (fun K hK => ?_)
     refine zg Try.func92 #[.pointer (some ⟨g, 0, none⟩), .int .i64 (n : Int)] ?_
     refine (HDY.out _ hHeld.2.2.2.2.out).mono ?_; rintro e w5 ⟨rfl, hb⟩; have HP5 := qab.mk (HT.out w5 (qae hHeld.2.2.2.2.out hb)); clear hb; refine ⟨_, rfl, ?_⟩; refine hK.out _ _ HP5.out (fun hHeld => ?_); clear hK K; refine zn 22 ?_
     refine zq 3 4 23 ?_
     refine zq 4 5 24 ?_
     refine zq 5 6 25 ?_
     refine zq 6 7 26 ?_
     refine zq 7 8 27 ?_
     refine zq 8 9 28 ?_
     refine zt5 9 10 29 hHeld ?_
     refine zq 10 11 30 ?_
     refine zq 11 12 31 ?_
     refine zq 12 13 32 ?_
     refine zt5 13 14 33 hHeld ?_
     refine zq 14 15 34 ?_
     refine zq 15 16 35 ?_
     refine zq 16 17 36 ?_
     refine zq 17 18 37 ?_
     refine zt5 18 19 38 hHeld ?_
     refine zq 19 20 39 ?_
     refine zq 20 21 40 ?_
     refine zq 21 22 41 ?_
     refine zt5 22 23 42 hHeld ?_
     refine zq 23 24 43 ?_
     refine zq 24 25 44 ?_
     refine done_ (by kernel_rfl) ?_
     clear hHeld
     go_wp2
     go_ret2
     exact ⟨by rw [HS.out]; rfl, HP5.out.2.2.2.2.out⟩
    ·
     have hcd : decide (dp ≤ th) = false := decide_eq_false hc
     have HS : qab (goesN d l1 l4 n year = goesN d l1 l4 n (y + 1)) := ⟨by rw [HN.out, goesN_step d l1 l4 n y hlt, HG.out, decide_eq_false hc]; rfl⟩
     clear hc
     refine start_ (n := 25) (S := (fun w' => (w'.cell? ⟨g, 4, none⟩ = some (.slice (some a4) l4.length c4) ∧ w'.cell? ⟨g, 1, none⟩ = some (.slice (some a1) l1.length c1) ∧ w'.cell? ⟨(a4.add (y * 2)).block, (a4.add (y * 2)).off + 1, none⟩ = some (.int .i64 th) ∧ w'.cell? ⟨(a1.add (n * 4)).block, (a1.add (n * 4)).off + 2, none⟩ = some (.int .i64 dp) ∧ qab (Below w.heap.size w w')))) (ds := []) (msk 25 0) (by kernel_rfl) rfl rfl (HT.out _ (qaq HB.out)) (fun hHeld => ?_)
     refine zq 0 1 20 ?_
     refine zq 1 2 21 ?_
     refine one_ (i := 2) (N := some 22) (msk 25 3) rfl rfl (by kernel_rfl) (by decide) (fun K hK => ?_)
     refine zg Try.func92 #[.pointer (some ⟨g, 0, none⟩), .int .i64 (n : Int)] ?_
     refine (HDY.out _ hHeld.2.2.2.2.out).mono ?_; rintro e w5 ⟨rfl, hb⟩; have HP5 := qab.mk (HT.out w5 (qae hHeld.2.2.2.2.out hb)); clear hb; refine ⟨_, rfl, ?_⟩; refine hK.out _ _ HP5.out (fun hHeld => ?_); clear hK K; refine zn 22 ?_
     refine zq 3 4 23 ?_
     refine zq 4 5 24 ?_
     refine zq 5 6 25 ?_
     refine zq 6 7 26 ?_
     refine zq 7 8 27 ?_
     refine zq 8 9 28 ?_
     refine zt5 9 10 29 hHeld ?_
     refine zq 10 11 30 ?_
     refine zq 11 12 31 ?_
     refine zq 12 13 32 ?_
     refine zt5 13 14 33 hHeld ?_
     refine zq 14 15 34 ?_
     refine zq 15 16 35 ?_
     refine zq 16 17 36 ?_
     refine zq 17 18 37 ?_
     refine zt5 18 19 38 hHeld ?_
     refine zq 19 20 39 ?_
     refine zq 20 21 40 ?_
     refine zq 21 22 41 ?_
     refine zt5 22 23 42 hHeld ?_
     refine zq 23 24 43 ?_
     refine zq 24 25 44 ?_
     refine done_ (by kernel_rfl) ?_
     clear hHeld
     go_wp2
     go_roundw
     case rel => exact ⟨y + 1, by omega, by go_num, HS, HP5.out.2.2.2.2⟩
     case measure => simp [intOf]; omega
  ·
   have HS : qab (goesV d l1 l4 n year = (0, false)) := ⟨by unfold goesV; rw [HN.out, goesN_end d l1 l4 n y (by omega)]⟩
   go_wp2
   go_ret2
   exact ⟨by rw [HS.out]; rfl, HB.out⟩
structure Sp where
 p : Int
 h : Int
 r : Int
 deriving DecidableEq
def spV (s : Sp) : Value := .agg #[.int .i64 s.p, .int .i64 s.h, .int .i64 s.r]
theorem eqA99 (d : Nat) (w : World) (a b : Sp) : (Op.equalIn (d + 2) 99 (spV a) (spV b)).run Try.prog w = .ok (a.p == b.p && (a.h == b.h && (a.r == b.r))) w := by
 refine eqA_of Try.underlying99 (by kernel_rfl) ?_
 refine eqf_cons (by rfl) (by go_simp; rfl) (by go_simp; rfl) (by go_simp) ?_
 refine eqf_cons (by rfl) (by go_simp; rfl) (by go_simp; rfl) (by go_simp) ?_
 exact eqf_last (by rfl) (by go_simp; rfl) (by go_simp; rfl) (by go_simp)
theorem eq99 (w : World) (a b : Sp) : (Op.equal 99 (spV a) (spV b)).run Try.prog w = .ok (decide (a = b)) w := by
 have h := eqA99 9998 w a b
 have e : (a.p == b.p && (a.h == b.h && (a.r == b.r))) = decide (a = b) := by
  rw [Bool.eq_iff_iff]
  simp only [Bool.and_eq_true, beq_iff_eq, decide_eq_true_eq]
  constructor
  ·
   rintro ⟨h1, h2, h3⟩
   cases a; cases b; simp_all
  ·
   rintro rfl
   exact ⟨rfl, rfl, rfl⟩
 rw [e] at h
 exact h
structure KeyKind (κ : Type) [DecidableEq κ] where
 t : TypeId
 enc : κ → Value
 inj : ∀ a b, enc a = enc b → a = b
 check : ∀ (w : World) (em : Bool) (a : κ), (Instr.checkKey em 10000 t (enc a)).run Try.prog w = .ok () w
 find : ∀ (w : World) (a : κ) (es : List MapEntry) (ks : List κ), es.map (·.key) = ks.map enc → (Instr.findKey t (enc a) es).run Try.prog w = .ok ((ks.findIdx? (· == a)).bind fun i => (es[i]?).map fun e => (i, e.val)) w
 stays : ∀ (w : World) (a : κ), (Instr.keyThatStays (enc a) (enc a)).run Try.prog w = .ok (enc a) w
theorem findAsking_run {κ : Type} [DecidableEq κ] (t : TypeId) (enc : κ → Value) (hEq : ∀ (w : World) (a b : κ), (Op.equal t (enc a) (enc b)).run Try.prog w = .ok (decide (a = b)) w) (w : World) (a : κ) :
  ∀ (es : List MapEntry) (ks : List κ) (j : Nat), es.map (·.key) = ks.map enc → (Instr.findAsking t (enc a) es j).run Try.prog w = .ok ((ks.findIdx? (· == a)).bind fun i => (es[i]?).map fun e => (i + j, e.val)) w := by
 intro es
 induction es with
 | nil =>
  intro ks j h
  cases ks with
  | nil => rfl
  | cons k t => cases h
 | cons e es ih =>
  intro ks j h
  cases ks with
  | nil => cases h
  | cons k ks =>
   simp only [List.map_cons, List.cons.injEq] at h
   unfold Instr.findAsking
   have hrun := hEq w a k
   rw [← h.1] at hrun
   simp only [Sem.run_bind, hrun, Result.andThen_ok]
   by_cases hk : a = k
   ·
    subst hk
    simp [List.findIdx?_cons]
   ·
    have hk' : (k == a) = false := by simp [Ne.symm hk]
    simp only [hk, decide_false, Bool.false_eq_true, if_false, ih ks (j + 1) h.2, List.findIdx?_cons, hk', cond_false]
    cases List.findIdx? (· == a) ks with
    | none => rfl
    | some i => simp [Nat.add_assoc, Nat.add_comm 1 j]
theorem check99 (w : World) (em : Bool) (p h r : Int) : (Instr.checkKey em 10000 99 (.agg #[.int .i64 p, .int .i64 h, .int .i64 r])).run Try.prog w = .ok () w := by kernel_rfl
def spotKey : KeyKind Sp where
 t := 99
 enc := spV
 inj a b h := by
  cases a; cases b
  simp only [spV, Value.agg.injEq, Array.mk.injEq, List.cons.injEq, Value.int.injEq, true_and, and_true] at h
  simp [h]
 check w em a := by
  obtain ⟨p, h, r⟩ := a
  exact check99 w em p h r
 find w a es ks h := by
  unfold Instr.findKey
  have hu := Try.underlying99
  have hF := findAsking_run 99 spV eq99 w a es ks 0 h
  cases es with
  | nil =>
   cases ks with
   | nil => simp [go_sem, hu, Instr.findNow]
   | cons k t => cases h
  | cons e es =>
   have : Instr.findNow (.struct #[{ name := "point", type := 3, offset := 0, embedded := false, tag := "", pkgPath := "talik/seep", byteOffset := 0 }, { name := "year", type := 3, offset := 1, embedded := false, tag := "", pkgPath := "talik/seep", byteOffset := 8 }, { name := "left", type := 3, offset := 2, embedded := false, tag := "", pkgPath := "talik/seep", byteOffset := 16 }]) (spV a) (e :: es) 0 = none := rfl
   simp only [Sem.run_bind, run_underlying hu, Result.andThen_ok, this]
   exact hF
 stays w a := by
  have : Instr.sameBits 10000 (spV a) (spV a) = true := by simp [Instr.sameBits, spV]
  simp [Instr.keyThatStays, this]
def MapIs {κ : Type} [DecidableEq κ] (K : KeyKind κ) (W : World) (b : Nat) (I : κ → Value → Prop) (has : κ → Prop) : Prop :=
 ∃ (es : Array MapEntry) (clock : Nat) (ks : List κ), W.heap[b]? = some (.map es clock) ∧ es.toList.map (·.key) = ks.map K.enc ∧ ks.Nodup ∧ (∀ (i : Nat) (k : κ) (e : MapEntry), ks[i]? = some k → es.toList[i]? = some e → I k e.val) ∧ (∀ k, has k → k ∈ ks)
section
variable {κ : Type} [DecidableEq κ] {K : KeyKind κ} {W W' : World} {b : Nat} {I I' : κ → Value → Prop} {has has' : κ → Prop}
theorem MapIs.imp (h : MapIs K W b I has) (hI : ∀ k v, I k v → I' k v) (hh : ∀ k, has' k → has k) : MapIs K W b I' has' := by
 obtain ⟨es, clock, ks, h1, h2, h3, h4, h5⟩ := h
 exact ⟨es, clock, ks, h1, h2, h3, fun i k e a c => hI _ _ (h4 i k e a c), fun k hk => h5 k (hh k hk)⟩
theorem MapIs.at (h : MapIs K W b I has) (hb : W'.heap[b]? = W.heap[b]?) : MapIs K W' b I has := by
 obtain ⟨es, clock, ks, h1, h2⟩ := h
 exact ⟨es, clock, ks, hb.trans h1, h2⟩
theorem MapIs.lt (h : MapIs K W b I has) : b < W.heap.size := by
 obtain ⟨es, clock, ks, h1, h2⟩ := h
 exact blk_lt h1
theorem MapIs.noCells (h : MapIs K W b I has) {cs : Array Value} {t : TypeId} {g : Nat} (hg : W.heap[g]? = some (.cells cs t (0, 0))) : g ≠ b := by
 obtain ⟨es, clock, ks, h1, h2⟩ := h
 rintro rfl
 rw [hg] at h1
 cases h1
theorem MapIs.looks1 (h : MapIs K W b I has) {t el : TypeId} (ht : Try.prog.underlying t = some (.map K.t el)) {z : Value} (hz : ∀ W', (zeroValue el).run Try.prog W' = .ok z W') (a : κ) :
  (∃ v, I a v ∧ ∀ W' : World, W'.heap[b]? = W.heap[b]? → (Instr.lookup t (.map (some b)) (K.enc a) false).run Try.prog W' = .ok v W') ∨
  (∀ W' : World, W'.heap[b]? = W.heap[b]? → (Instr.lookup t (.map (some b)) (K.enc a) false).run Try.prog W' = .ok z W') := by
 obtain ⟨es, clock, ks, h1, h2, h3, h4, h5⟩ := h
 have hf := fun W' => K.find W' a es.toList ks h2
 have hlen : es.size = ks.length := by have := congrArg List.length h2; simpa using this
 have hg := fun (W' : World) (e : W'.heap[b]? = W.heap[b]?) => MapKept.run_getObj_map (P := Try.prog) (e.trans h1)
 cases hx : ks.findIdx? (· == a) with
 | none =>
  rw [hx] at hf
  right
  intro W' e
  have hf' := hf W'
  rw [Option.bind_none] at hf'
  simp [Instr.lookup, run_underlying ht, hg W' e, K.check, hf', hz]
 | some i =>
  have hx2 := hx
  rw [List.findIdx?_eq_some_iff_getElem] at hx
  obtain ⟨hi, hk, _⟩ := hx
  have hk' : ks[i] = a := by simpa using hk
  have hi' : i < es.toList.length := by simpa [hlen] using hi
  left
  refine ⟨es.toList[i].val, h4 i a _ (by rw [List.getElem?_eq_getElem hi, hk']) (List.getElem?_eq_getElem hi'), fun W' e => ?_⟩
  have hf' := hf W'
  rw [hx2, Option.bind_some, List.getElem?_eq_getElem hi', Option.map_some] at hf'
  simp [Instr.lookup, run_underlying ht, hg W' e, K.check, hf']
theorem MapIs.update (h : MapIs K W b I has) {t el : TypeId} (ht : Try.prog.underlying t = some (.map K.t el)) (a : κ) (v : Value) :
  ∃ W', (Instr.mapUpdate t (.map (some b)) (K.enc a) v).run Try.prog W = .ok () W' ∧ W.grownBy W' (some b) ∧ MapIs K W' b (fun k u => (k = a ∧ u = v) ∨ (k ≠ a ∧ I k u)) (fun k => k = a ∨ has k) := by
 obtain ⟨es, clock, ks, h1, h2, h3, h4, h5⟩ := h
 have hf := K.find W a es.toList ks h2
 have hlen : es.size = ks.length := by have := congrArg List.length h2; simpa using this
 have hg := MapKept.run_getObj_map (P := Try.prog) h1
 have hgrow : ∀ o, W.grownBy (ChangeMaps.setBlock W b o) (some b) := fun o => ⟨rfl, rfl, rfl, by simp [ChangeMaps.setBlock], fun i _ hi => ChangeMaps.heap_setBlock_other h1 _ (fun e => hi (by rw [e]))⟩
 cases hx : ks.findIdx? (· == a) with
 | none =>
  rw [hx, Option.bind_none] at hf
  have hna : a ∉ ks := by
   intro ha
   rw [List.findIdx?_eq_none_iff] at hx
   have := hx a ha
   simp at this
  refine ⟨ChangeMaps.setBlock W b (.map (es.push { key := K.enc a, val := v, born := clock }) (clock + 1)), ?_, hgrow _, es.push { key := K.enc a, val := v, born := clock }, clock + 1, ks ++ [a], ChangeMaps.heap_setBlock_same h1 _, by simp [h2], ?_, ?_, ?_⟩
  ·
   simp [Instr.mapUpdate, run_underlying ht, hg, K.check, hf, MapKept.run_setObj_map _ h1, ChangeMaps.setBlock]
  ·
   rw [List.nodup_append]
   exact ⟨h3, by simp, fun x hxm y hy => by simp at hy; subst hy; intro e; exact hna (e ▸ hxm)⟩
  ·
   intro i k e hk he
   rcases Nat.lt_or_ge i ks.length with hi | hi
   ·
    rw [List.getElem?_append_left hi] at hk
    rw [Array.toList_push, List.getElem?_append_left (by simpa [hlen] using hi)] at he
    exact .inr ⟨fun e => hna (e ▸ List.mem_of_getElem? hk), h4 i k e hk he⟩
   ·
    rw [List.getElem?_append_right hi] at hk
    rw [Array.toList_push, List.getElem?_append_right (by simpa [hlen] using hi)] at he
    simp only [Array.length_toList, hlen] at he
    cases hd : i - ks.length with
    | zero =>
     rw [hd] at hk he
     simp at hk he
     exact .inl ⟨hk.symm, by rw [← he]⟩
    | succ n =>
     rw [hd] at hk
     simp at hk
  ·
   rintro k (rfl | hk)
   ·
    simp
   ·
    exact List.mem_append_left _ (h5 k hk)
 | some i =>
  have hx2 := hx
  rw [List.findIdx?_eq_some_iff_getElem] at hx
  obtain ⟨hi, hk, _⟩ := hx
  have hk' : ks[i] = a := by simpa using hk
  have hi' : i < es.toList.length := by simpa [hlen] using hi
  have hi2 : i < es.size := by simpa using hi'
  rw [hx2, Option.bind_some, List.getElem?_eq_getElem hi', Option.map_some] at hf
  have hkey : (es[i]?.map (·.key)).getD (K.enc a) = K.enc a := by
   have e1 : (es.toList.map (·.key))[i]? = (ks.map K.enc)[i]? := by rw [h2]
   rw [List.getElem?_map, List.getElem?_map, List.getElem?_eq_getElem hi, hk'] at e1
   rw [← Array.getElem?_toList, e1]
   rfl
  refine ⟨ChangeMaps.setBlock W b (.map (es.modify i fun e => { e with key := K.enc a, val := v }) clock), ?_, hgrow _, es.modify i fun e => { e with key := K.enc a, val := v }, clock, ks, ChangeMaps.heap_setBlock_same h1 _, ?_, h3, ?_, ?_⟩
  ·
   simp [Instr.mapUpdate, run_underlying ht, hg, K.check, hf, MapKept.run_setObj_map _ h1, ChangeMaps.setBlock, hkey, K.stays]
  ·
   rw [Array.toList_modify, ← h2]
   apply List.ext_getElem?
   intro j
   rw [List.getElem?_map, List.getElem?_map, List.getElem?_modify]
   split
   ·
    rename_i hj
    subst hj
    rw [List.getElem?_eq_getElem hi']
    have e1 : (es.toList.map (·.key))[i]? = (ks.map K.enc)[i]? := by rw [h2]
    rw [List.getElem?_map, List.getElem?_map, List.getElem?_eq_getElem hi, hk', List.getElem?_eq_getElem hi'] at e1
    simp only [Option.map_some, Option.some.injEq] at e1
    simpa using e1.symm
   ·
    simp
  ·
   intro j k e hkj he
   rw [Array.toList_modify, List.getElem?_modify] at he
   split at he
   ·
    rename_i hj
    subst hj
    rw [List.getElem?_eq_getElem hi] at hkj
    rw [List.getElem?_eq_getElem hi'] at he
    simp only [Option.map_eq_map, Option.map_some, Option.some.injEq] at he hkj
    exact .inl ⟨by rw [← hkj, hk'], by rw [← he]⟩
   ·
    rename_i hj
    have he2 : es.toList[j]? = some e := by simpa using he
    refine .inr ⟨fun e1 => hj ?_, h4 j k e hkj he2⟩
    subst e1
    have hjl : j < ks.length := (List.getElem?_eq_some_iff.1 hkj).1
    have e2 : ks[j] = ks[i] := by rw [hk']; rw [List.getElem?_eq_getElem hjl] at hkj; injection hkj
    have hp := List.nodup_iff_pairwise_ne.1 h3
    rw [List.pairwise_iff_getElem] at hp
    rcases Nat.lt_trichotomy i j with h | h | h
    ·
     exact absurd e2.symm (hp i j hi hjl h)
    ·
     exact h
    ·
     exact absurd e2 (hp j i hjl hi h)
  ·
   rintro k (rfl | hk)
   ·
    rw [← hk']; exact List.getElem_mem _
   ·
    exact h5 k hk
end
theorem goesN_lt (d : Int) (l1 : List S44) (l4 : List S41) (n y : Nat) (y' : Nat) (h : goesN d l1 l4 n y = some y') : y' < l4.length ∧ y ≤ y' := by
 unfold goesN at h
 have h1 := List.mem_of_find?_eq_some h
 rw [List.mem_drop_iff_getElem] at h1
 obtain ⟨i, hi, e⟩ := h1
 simp only [List.length_range] at hi
 rw [List.getElem_range] at e
 omega
structure RE where
 w0 : World
 gd : Nat
 Bp : Nat
 Bk : Nat
 Bm : Nat
 Bd : Nat
 Bl : Nat
 Br : Nat
 Bs : Nat
 mm : Nat
 v0 : Value
 v2 : Value
 v3 : Value
 v5 : Value
 A1 : Option Addr
 c1 : Nat
 l1 : List S44
 A4 : Option Addr
 c4 : Nat
 l4 : List S41
 d : Int
 pt : Int
 last : Int
structure RE.Fit (E : RE) : Prop where
 r1 : Kd.C k44 E.w0 E.A1 E.l1.length E.l1
 r4 : Kd.C k41 E.w0 E.A4 E.l4.length E.l4
 n1 : E.l1.length ≤ 12
 n4 : E.l4.length ≤ 10
 br : E.w0.heap.size ≤ E.Br
 bm : E.w0.heap.size ≤ E.mm
def pathS (d : Int) (l1 : List S44) (l4 : List S41) (last : Int) (f : Int → Nat → Option (List Int)) (p : Int) (y i : Nat) : Option (List Int) :=
 if (qav l1 (i : Nat)).f0 = p then
  match goesN d l1 l4 i y with
  | some y' => if (y' : Int) ≤ last then (f (qav l1 (i : Nat)).f1 y').map ((i : Int) :: ·) else none
  | none => none
 else none
def pathV (d : Int) (l1 : List S44) (l4 : List S41) (last pt : Int) : Nat → Int → Nat → Option (List Int)
 | 0, p, _ => if p = pt then some [] else none
 | k + 1, p, y => (List.range l1.length).findSome? (pathS d l1 l4 last (pathV d l1 l4 last pt k) p y)
def RE.path (E : RE) : Nat → Int → Nat → Option (List Int) := pathV E.d E.l1 E.l4 E.last E.pt
def RE.from_ (E : RE) (k : Nat) (p : Int) (y i : Nat) : Option (List Int) := ((List.range E.l1.length).drop i).findSome? (pathS E.d E.l1 E.l4 E.last (E.path k) p y)
theorem RE.path_from (E : RE) (k : Nat) (p : Int) (y : Nat) : E.path (k + 1) p y = E.from_ k p y 0 := rfl
theorem RE.from_step (E : RE) (k : Nat) (p : Int) (y i : Nat) (hi : i < E.l1.length) : E.from_ k p y i = (pathS E.d E.l1 E.l4 E.last (E.path k) p y i).or (E.from_ k p y (i + 1)) := by
 unfold RE.from_
 have hl : i < (List.range E.l1.length).length := by simpa using hi
 rw [List.drop_eq_getElem_cons hl, List.findSome?_cons]
 simp only [List.getElem_range]
 cases pathS E.d E.l1 E.l4 E.last (E.path k) p y i <;> simp
theorem RE.from_end (E : RE) (k : Nat) (p : Int) (y i : Nat) (hi : E.l1.length ≤ i) : E.from_ k p y i = none := by
 unfold RE.from_
 rw [List.drop_eq_nil_of_le (by simpa using hi)]
 rfl
abbrev RMC (E : RE) : Array Value := #[E.v0, .slice E.A1 E.l1.length E.c1, E.v2, E.v3, .slice E.A4 E.l4.length E.c4, E.v5]
abbrev RDC (E : RE) : Array Value := #[E.v0, .slice E.A1 E.l1.length E.c1, E.v2, E.v3, .slice E.A4 E.l4.length E.c4, E.v5, .int .i64 E.d]
abbrev RCAP (E : RE) : Array Value := #[.pointer (some ⟨E.Bp, 0, none⟩), .pointer (some ⟨E.Bk, 0, none⟩), .pointer (some ⟨E.Bm, 0, none⟩), .pointer (some ⟨E.Bd, 0, none⟩), .pointer (some ⟨E.Bl, 0, none⟩), .pointer (some ⟨E.Br, 0, none⟩), .pointer (some ⟨E.Bs, 0, none⟩)]
abbrev RSF (E : RE) : Value := .func (.func 62) #[] (RCAP E)
def RE.Dead (E : RE) (s : Sp) (u : Value) : Prop := u = .bool true ∧ ∃ k y : Nat, s.r = k ∧ s.h = y ∧ E.path k s.p y = none
abbrev RE.Row (E : RE) (W : World) (v : Value) (r : List Int) : Prop := Kd.R (Kd.int .i64) 3 W E.w0.heap.size (fun k => k ≠ E.Bp ∧ k ≠ E.Bl) v r
structure RInv (E : RE) (W : World) (v : Value) (r : List Int) : Prop where
 hb : Below E.w0.heap.size E.w0 W
 xd : W.heap[E.gd]? = some (.cells (RDC E) 123 (0, 0))
 xp : W.heap[E.Bp]? = some (.cells #[.int .i64 E.pt] 3 (0, 0))
 xk : W.heap[E.Bk]? = some (.cells #[.map (some E.mm)] 96 (0, 0))
 xm : W.heap[E.Bm]? = some (.cells (RMC E) 27 (0, 0))
 xb : W.heap[E.Bd]? = some (.cells #[.pointer (some ⟨E.gd, 0, none⟩)] 84 (0, 0))
 xl : W.heap[E.Bl]? = some (.cells #[.int .i64 E.last] 3 (0, 0))
 xr : W.heap[E.Br]? = some (.cells #[v] 23 (0, 0))
 xs : W.heap[E.Bs]? = some (.cells #[RSF E] 97 (0, 0))
 row : E.Row W v r
 map : MapIs spotKey W E.mm E.Dead (fun _ => False)
structure KC (E : RE) (W W' : World) : Prop where
 size : W.heap.size ≤ W'.heap.size
 own : ∀ (k : Nat) (cs : Array Value) (t : TypeId), W.heap[k]? = some (.cells cs t (0, 0)) → t ≠ 3 → k ≠ E.Br → W'.heap[k]? = some (.cells cs t (0, 0))
section
variable {E : RE} {W W' W2 : World} {v v' : Value} {r r' : List Int}
theorem KC.refl (E : RE) (W : World) : KC E W W := ⟨Nat.le_refl _, fun _ _ _ h _ _ => h⟩
theorem KC.trans (h : KC E W W') (k : KC E W' W2) : KC E W W2 := ⟨Nat.le_trans h.size k.size, fun i cs t hi h3 hr => k.own i cs t (h.own i cs t hi h3 hr) h3 hr⟩
theorem KC.of_below (h : Below W.heap.size W W') : KC E W W' := ⟨h.size, fun _ _ _ hi _ _ => qad hi h⟩
theorem KC.of_grown (hr : E.Row W v r) (hg : W.grownBy W' v.ownBlock) : KC E W W' := ⟨hg.size, fun _ _ _ hi h3 _ => blk_grown hi hg (Kd.R_ne hr hi (fun e => h3 e.symm))⟩
theorem KC.of_map {b : Nat} {K : KeyKind Sp} {I : Sp → Value → Prop} {has : Sp → Prop} (hm : MapIs K W b I has) (hg : W.grownBy W' (some b)) : KC E W W' := ⟨hg.size, fun _ _ _ hi _ _ => blk_grown hi hg (fun e => hm.noCells hi (by injection e))⟩
theorem KC.of_set (E : RE) (W : World) (u : Value) : KC E W (W.setCell ⟨E.Br, 0, none⟩ u) := ⟨by simp, fun k _ _ hi _ hr => (Below.heap_setCell W ⟨E.Br, 0, none⟩ u k hr).trans hi⟩
theorem RInv.below (h : RInv E W v r) (hb : Below W.heap.size W W') : RInv E W' v r :=
 ⟨qae h.hb hb, qad h.xd hb, qad h.xp hb, qad h.xk hb, qad h.xm hb, qad h.xb hb, qad h.xl hb, qad h.xr hb, qad h.xs hb, Kd.qal h.row hb, h.map.at (hb.block _ h.map.lt)⟩
theorem RInv.setR (h : RInv E W v r) (hE : E.w0.heap.size ≤ E.Br) (hr : E.Row W v' r') : RInv E (W.setCell ⟨E.Br, 0, none⟩ v') v' r' := by
 have f : ∀ {g : Nat} {cs : Array Value} {t : TypeId}, W.heap[g]? = some (.cells cs t (0, 0)) → t ≠ 23 → (W.setCell ⟨E.Br, 0, none⟩ v').heap[g]? = some (.cells cs t (0, 0)) := fun hg ht => blk_far hg (blk_ne hg h.xr ht) v'
 exact ⟨qaj h.hb hE, f h.xd (by decide), f h.xp (by decide), f h.xk (by decide), f h.xm (by decide), f h.xb (by decide), f h.xl (by decide), blk_set h.xr 0 v', f h.xs (by decide),
  Kd.R_set hr h.xr (by decide) 0 v', h.map.at (Below.heap_setCell W ⟨E.Br, 0, none⟩ v' E.mm (fun e => h.map.noCells h.xr e.symm))⟩
theorem RInv.app (h : RInv E W v r) (hE : E.w0.heap.size ≤ E.Br) (hg : W.grownBy W' v.ownBlock) (hb : Below E.w0.heap.size E.w0 W') (hr : E.Row W' v' r') : RInv E (W'.setCell ⟨E.Br, 0, none⟩ v') v' r' := by
 have f : ∀ {g : Nat} {cs : Array Value} {t : TypeId}, W.heap[g]? = some (.cells cs t (0, 0)) → t ≠ 3 → W'.heap[g]? = some (.cells cs t (0, 0)) := fun hi ht => blk_grown hi hg (Kd.R_ne h.row hi (fun e => ht e.symm))
 have xr := f h.xr (by decide)
 have f2 : ∀ {g : Nat} {cs : Array Value} {t : TypeId}, W'.heap[g]? = some (.cells cs t (0, 0)) → t ≠ 23 → (W'.setCell ⟨E.Br, 0, none⟩ v').heap[g]? = some (.cells cs t (0, 0)) := fun hg ht => blk_far hg (blk_ne hg xr ht) v'
 have hp := blk_grown h.xp hg (Kd.R_away h.row (fun _ hk => hk.1))
 have hl := blk_grown h.xl hg (Kd.R_away h.row (fun _ hk => hk.2))
 have hm : W'.heap[E.mm]? = W.heap[E.mm]? := hg.block _ h.map.lt (fun e => by
  obtain ⟨cells, hc⟩ := Kd.R_typed h.row E.mm (by rw [e])
  exact h.map.noCells hc rfl)
 exact ⟨qaj hb hE, f2 (f h.xd (by decide)) (by decide), f2 hp (by decide), f2 (f h.xk (by decide)) (by decide), f2 (f h.xm (by decide)) (by decide), f2 (f h.xb (by decide)) (by decide), f2 hl (by decide), blk_set xr 0 v', f2 (f h.xs (by decide)) (by decide),
  Kd.R_set hr xr (by decide) 0 v', (h.map.at hm).at (Below.heap_setCell W' ⟨E.Br, 0, none⟩ v' E.mm (fun e => (h.map.at hm).noCells xr e.symm))⟩
theorem KC.of_app (h : RInv E W v r) (hg : W.grownBy W' v.ownBlock) (u : Value) : KC E W (W'.setCell ⟨E.Br, 0, none⟩ u) := (KC.of_grown h.row hg).trans (KC.of_set E W' u)
theorem RInv.dead (h : RInv E W v r) (hE : E.w0.heap.size ≤ E.mm) (k y : Nat) (p : Int) (hn : E.path k p y = none) : ∃ W', (Instr.mapUpdate 96 (.map (some E.mm)) (.agg #[.int .i64 p, .int .i64 y, .int .i64 k]) (.bool true)).run Try.prog W = .ok () W' ∧ RInv E W' v r ∧ KC E W W' := by
 obtain ⟨W', hrun, hg, hm⟩ := h.map.update (t := 96) (el := 4) Try.underlying96 ⟨p, y, k⟩ (.bool true)
 have f : ∀ {g : Nat} {cs : Array Value} {t : TypeId}, W.heap[g]? = some (.cells cs t (0, 0)) → W'.heap[g]? = some (.cells cs t (0, 0)) := fun hi => blk_grown hi hg (fun e => h.map.noCells hi (by injection e))
 refine ⟨W', hrun, ⟨h.hb.grown hg h.hb.size (fun k e => by injection e with e; subst e; exact hE), f h.xd, f h.xp, f h.xk, f h.xm, f h.xb, f h.xl, f h.xr, f h.xs, ?_, ?_⟩, KC.of_map h.map hg⟩
 ·
  refine Kd.R_mono (Kd.R_step (Kd.R_bound h.row) (fun k hk hlt => hg.block k hlt (fun e => ?_))) (fun k hk => hk.1)
  injection e with e
  subst e
  obtain ⟨q, hq, cells, hc⟩ := hk.2.2.2
  exact h.map.noCells hc rfl
 ·
  refine hm.imp (fun s u hs => ?_) (fun _ hk => hk.elim)
  rcases hs with ⟨rfl, rfl⟩ | ⟨_, hs⟩
  ·
   exact ⟨rfl, k, y, rfl, rfl, hn⟩
  ·
   exact hs
end
def SearchC (E : RE) (k : Nat) : Prop := ∀ (p : Int) (y : Nat) (W : World) (v : Value) (r : List Int), RInv E W v r → y ≤ 10 → r.length + k ≤ 1000 →
 Calls Try.prog 62 #[.agg #[.int .i64 p, .int .i64 (y : Int), .int .i64 (k : Int)], .pointer (some ⟨E.Bp, 0, none⟩), .pointer (some ⟨E.Bk, 0, none⟩), .pointer (some ⟨E.Bm, 0, none⟩), .pointer (some ⟨E.Bd, 0, none⟩), .pointer (some ⟨E.Bl, 0, none⟩), .pointer (some ⟨E.Br, 0, none⟩), .pointer (some ⟨E.Bs, 0, none⟩)] W fun e W' =>
  e = .returned (.bool (E.path k p y).isSome) ∧ (∃ v', RInv E W' v' (r ++ (E.path k p y).getD [])) ∧ KC E W W'
end Go.Proofs.Ytafkanmioinbiaa.SA
namespace Go.Proofs.Ytafkanmioinbiaa.SA
open Go.RowKit Go.Proofs.YtafkanmioinbiaaW.PrintWords Go.Proofs.YtafkanmioinbiaaW.PrintLast Go.Proofs.YtafkanmioinbiaaW.PrintMore
attribute [local go_sem] qax qaz max_two min_two qao qap qay qba
attribute [local go_sem] Oper.semAt_some
theorem search_zero (E : RE) : SearchC E 0 := by
 intro p y w v r hI hy hl
 have hu99 := Try.underlying99
 have HI := qab.mk hI
 have HB := qab.mk (Below.refl w.heap.size w)
 rw [show ((0 : Nat) : Int) = 0 from rfl]
 obtain ⟨yy, hyy⟩ : ∃ yy : Int, yy = y := ⟨_, rfl⟩
 rw [← hyy]
 obtain ⟨pt, hpt⟩ : ∃ pt : Int, pt = E.pt := ⟨_, rfl⟩
 have HPT := qab.mk hpt
 clear hI hyy hy hl hpt
 go_enter Try.func62, Try.ntmps62
 go_wp2_with ((with_reducible refine qam (N := 8) rfl ?_); refine ze 8 #[.int .i64 p, .int .i64 yy, .int .i64 0] 99 ?_; intro gs hg_gs w2 hbox hb; have BKgs := qab.mk hbox; have n_HB := qab.mk (qae HB.out hb); have GEgs : w.heap.size ≤ gs := (by rw [hg_gs]; exact HB.out.size); clear HB; have HB := n_HB; clear n_HB; obtain ⟨hfgs, hcgs_0, hcgs_1, hcgs_2⟩ := qz3 BKgs.out; clear hbox hb hg_gs; have HI2 := qab.mk (HI.out.below HB.out); have fp : w2.cell? ⟨E.Bp, 0, none⟩ = some (.int .i64 pt) := (qaa HI2.out.xp 0).trans (by rw [HPT.out]; rfl))
 go_ret
 refine ⟨?_, ⟨v, ?_⟩, KC.of_below HB.out⟩
 ·
  unfold RE.path pathV
  rw [HPT.out]
  by_cases h : p = E.pt <;> simp [h]
 ·
  have h : (E.path 0 p y).getD [] = [] := by unfold RE.path pathV; split <;> rfl
  rw [h, List.append_nil]
  exact HI2.out
theorem search_succ (E : RE) (hE : E.Fit) (k : Nat) (hk : k ≤ 100) (IH : SearchC E k) : SearchC E (k + 1) := by
 intro p y w v r hI hy hl
 have hu99 := Try.underlying99
 have hu27 := Try.underlying27
 have hu44 := Try.underlying44
 have HI := qab.mk hI
 have HE := qab.mk hE
 have HIH := qab.mk IH
 have HB := qab.mk (Below.refl w.heap.size w)
 have HLT := qab.mk hI.map.lt
 have hn1 := hE.n1
 have hlk := hI.map.looks1 (t := 96) (el := 4) Try.underlying96 (z := .bool false) (fun W' => by kernel_rfl) ⟨p, y, ((k + 1 : Nat) : Int)⟩
 obtain ⟨yy, hyy⟩ : ∃ yy : Int, yy = y := ⟨_, rfl⟩
 obtain ⟨nn, hnn⟩ : ∃ nn : Int, nn = ((k + 1 : Nat) : Int) := ⟨_, rfl⟩
 have hz : (nn == 0) = false := by rw [beq_eq_false_iff_ne]; omega
 have hlk' : (E.path (k + 1) p y = none ∧ ∀ W' : World, W'.heap[E.mm]? = w.heap[E.mm]? → (Instr.lookup 96 (.map (some E.mm)) (.agg #[.int .i64 p, .int .i64 yy, .int .i64 nn]) false).run Try.prog W' = .ok (.bool true) W') ∨ (∀ W' : World, W'.heap[E.mm]? = w.heap[E.mm]? → (Instr.lookup 96 (.map (some E.mm)) (.agg #[.int .i64 p, .int .i64 yy, .int .i64 nn]) false).run Try.prog W' = .ok (.bool false) W') := by
  rw [hyy, hnn]
  rcases hlk with ⟨u, ⟨rfl, k', y', e1, e2, hd⟩, hl⟩ | hl
  ·
   have e1' : k + 1 = k' := by have h : ((k + 1 : Nat) : Int) = k' := e1; omega
   have e2' : y = y' := by have h : (y : Int) = y' := e2; omega
   subst e1'
   subst e2'
   exact .inl ⟨hd, hl⟩
  ·
   exact .inr hl
 have HYY := qab.mk hyy
 have HNN := qab.mk hnn
 obtain ⟨last, hla⟩ : ∃ x, x = E.last := ⟨_, rfl⟩
 have HLA := qab.mk hla
 clear hla
 obtain ⟨A1, hA1⟩ : ∃ A1, A1 = E.A1 := ⟨_, rfl⟩
 have HA1 := qab.mk hA1
 rw [← hyy, ← hnn]
 clear hI hE IH hlk hyy hnn hA1
 rcases hlk' with ⟨hdead, hlo⟩ | hlo
 ·
  have HL := qab.mk hlo
  have HD := qab.mk hdead
  clear hlo hdead
  go_enter Try.func62, Try.ntmps62
  go_wp2_with ((with_reducible refine qam (N := 8) rfl ?_); refine ze 8 #[.int .i64 p, .int .i64 yy, .int .i64 nn] 99 ?_; intro gs hg_gs w2 hbox hb; have BKgs := qab.mk hbox; have n_HB := qab.mk (qae HB.out hb); have GEgs : w.heap.size ≤ gs := (by rw [hg_gs]; exact HB.out.size); clear HB; have HB := n_HB; clear n_HB; obtain ⟨hfgs, hcgs_0, hcgs_1, hcgs_2⟩ := qz3 BKgs.out; clear hbox hb hg_gs; have HI2 := qab.mk (HI.out.below HB.out); have fk : w2.cell? ⟨E.Bk, 0, none⟩ = some (.map (some E.mm)) := (qaa HI2.out.xk 0).trans rfl; have hl3 := HL.out w2 (HB.out.block _ HLT.out); have fm1 : w2.cell? ⟨E.Bm, 1, none⟩ = some (.slice A1 E.l1.length E.c1) := (qaa HI2.out.xm 1).trans (by rw [HA1.out]; rfl))
  go_ret
  refine ⟨by rw [HD.out]; rfl, ⟨v, by rw [HD.out]; simpa using HI2.out⟩, KC.of_below HB.out⟩
 ·
  have HL := qab.mk hlo
  clear hlo
  go_enter Try.func62, Try.ntmps62
  go_wp2_with ((with_reducible refine qam (N := 8) rfl ?_); refine ze 8 #[.int .i64 p, .int .i64 yy, .int .i64 nn] 99 ?_; intro gs hg_gs w2 hbox hb; have BKgs := qab.mk hbox; have n_HB := qab.mk (qae HB.out hb); have GEgs : w.heap.size ≤ gs := (by rw [hg_gs]; exact HB.out.size); clear HB; have HB := n_HB; clear n_HB; obtain ⟨hfgs, hcgs_0, hcgs_1, hcgs_2⟩ := qz3 BKgs.out; clear hbox hb hg_gs; have HI2 := qab.mk (HI.out.below HB.out); have fk : w2.cell? ⟨E.Bk, 0, none⟩ = some (.map (some E.mm)) := (qaa HI2.out.xk 0).trans rfl; have hl3 := HL.out w2 (HB.out.block _ HLT.out); have fm1 : w2.cell? ⟨E.Bm, 1, none⟩ = some (.slice A1 E.l1.length E.c1) := (qaa HI2.out.xm 1).trans (by rw [HA1.out]; rfl))
  have BK2 := BKgs
  clear BKgs
  have HK : qab (KC E w2 w2) := ⟨KC.refl _ _⟩
  clear HI
  have HI := HI2
  have HNE := qab.mk (blk_ne BK2.out HI2.out.xr (by decide))
  clear HI2
  have HFR : qab (E.path (k + 1) p y = E.from_ k p y 0) := ⟨E.path_from k p y⟩
  have GEgs : w.heap.size ≤ gs := by assumption
  have HBw := HB
  have hlr := hl
  clear hl3 fk fm1 hfgs hcgs_0 hcgs_1 hcgs_2
  obtain ⟨vA, vn, vc, e⟩ := R_shape HI.out.row
  subst e
  go_loopw [27] (fun s27 wr => ∃ (i : Nat) (A : Option Addr) (n c : Nat), i ≤ E.l1.length ∧ s27 = .int .i64 i ∧ qab (E.path (k + 1) p y = E.from_ k p y i) ∧ qab (RInv E wr (.slice A n c) r) ∧ qab (KC E w2 wr)) (fun s _ => E.l1.length - (intOf s).toNat)
  case atStart => exact ⟨0, vA, vn, vc, by omega, rfl, HFR, HI, HK⟩
  case round =>
   clear HI HK HFR
   obtain ⟨i, A, n, c, hi, rfl, HFR, HI, HK⟩ := hrel
   obtain ⟨W0, rfl⟩ : ∃ W0, W0 = wr := ⟨_, rfl⟩
   have BKgs : qab (W0.heap[gs]? = some (.cells #[.int .i64 p, .int .i64 yy, .int .i64 nn] 99 (0, 0))) := ⟨HK.out.own _ _ _ BK2.out (by decide) HNE.out⟩
   by_cases hlt : i < E.l1.length
   ·
    obtain ⟨ad, e, q0, q1, q2, q3⟩ := at_T44 (Kd.qai HE.out.r1 HI.out.hb) i (by omega) (by omega)
    rw [← HA1.out] at e
    cases e
    simp only [Int.toNat_natCast] at q0 q1 q2 q3
    have HST := qab.mk (E.from_step k p y i hlt)
    have HPS : qab (pathS E.d E.l1 E.l4 E.last (E.path k) p y i = if (qav E.l1 (i : Nat)).f0 = p then (match goesN E.d E.l1 E.l4 i y with | some y' => if (y' : Int) ≤ E.last then (E.path k (qav E.l1 (i : Nat)).f1 y').map ((i : Int) :: ·) else none | none => none) else none) := ⟨rfl⟩
    generalize (qav E.l1 i).f0 = e0 at q0 HPS
    generalize (qav E.l1 i).f1 = e1 at q1 HPS
    generalize (qav E.l1 i).f2 = e2 at q2
    generalize (qav E.l1 i).f3 = e3 at q3
    have HBW := qab.mk (Below.refl W0.heap.size W0)
    go_upto_region 8 with ((with_reducible refine qam (N := 11) rfl ?_); refine ze 11 #[.int .i64 0, .int .i64 0, .int .i64 0, .int .i64 0] 44 ?_; intro ge hg_ge w3 hbox hb; have BKge := qab.mk hbox; have ne_gs_ge : gs ≠ ge := (by rw [hg_ge]; exact Nat.ne_of_lt (blk_lt BKgs.out)); replace BKgs := qab.mk (qad BKgs.out hb); have n_HB := qab.mk (qae HBW.out hb); have GEge : W0.heap.size ≤ ge := (by rw [hg_ge]; exact HBW.out.size); clear HBW; have HBW := n_HB; clear n_HB; obtain ⟨hfge, hcge_0, hcge_1, hcge_2, hcge_3⟩ := qz4 BKge.out; clear hbox hb hg_ge)
    clear q0 q1 q2 q3 hfge hcge_0 hcge_1 hcge_2 hcge_3
    have he_ : setAll w3 ge [.int .i64 e0, .int .i64 e1, .int .i64 e2, .int .i64 e3] 0 = ((((w3.setCell ⟨ge, 0, none⟩ (.int .i64 e0)).setCell ⟨ge, 1, none⟩ (.int .i64 e1)).setCell ⟨ge, 2, none⟩ (.int .i64 e2)).setCell ⟨ge, 3, none⟩ (.int .i64 e3)) := rfl; have hbl := setAll_below GEge [.int .i64 e0, .int .i64 e1, .int .i64 e2, .int .i64 e3] 0 _ HBW.out; have hbx : (setAll w3 ge [.int .i64 e0, .int .i64 e1, .int .i64 e2, .int .i64 e3] 0).heap[ge]? = some (.cells #[.int .i64 e0, .int .i64 e1, .int .i64 e2, .int .i64 e3] 44 (0, 0)) := setAll_new [.int .i64 e0, .int .i64 e1, .int .i64 e2, .int .i64 e3] [.int .i64 0, .int .i64 0, .int .i64 0, .int .i64 0] BKge.out rfl; have hx_BKgs := setAll_far ne_gs_ge [.int .i64 e0, .int .i64 e1, .int .i64 e2, .int .i64 e3] 0 _ BKgs.out; rw [he_] at hbl hbx hx_BKgs; clear he_; generalize ((((w3.setCell ⟨ge, 0, none⟩ (.int .i64 e0)).setCell ⟨ge, 1, none⟩ (.int .i64 e1)).setCell ⟨ge, 2, none⟩ (.int .i64 e2)).setCell ⟨ge, 3, none⟩ (.int .i64 e3)) = w5 at hbl hbx hx_BKgs ⊢; clear HBW BKge; have HBW := qab.mk hbl; have BKge := qab.mk hbx; clear hbl hbx; clear BKgs; have BKgs := qab.mk hx_BKgs; clear hx_BKgs
    have HI5 := qab.mk (HI.out.below HBW.out)
    have HNE2 := qab.mk (blk_ne BKge.out HI5.out.xr (by decide))
    have HK5 := qab.mk (HK.out.trans (KC.of_below HBW.out))
    have b0 : w5.cell? ⟨ge, 0, none⟩ = some (.int .i64 e0) := (qaa BKge.out 0).trans rfl
    have b2 : w5.cell? ⟨E.Bd, 0, none⟩ = some (.pointer (some ⟨E.gd, 0, none⟩)) := (qaa HI5.out.xb 0).trans rfl
    have b3 : w5.cell? ⟨gs, 1, none⟩ = some (.int .i64 yy) := (qaa BKgs.out 1).trans rfl
    have b1 : w5.cell? ⟨gs, 0, none⟩ = some (.int .i64 p) := (qaa BKgs.out 0).trans rfl
    by_cases he : e0 = p
    ·
     have hne : (e0 == p) = true := by simp [he]
     have HGV : qab (∀ W, RInv E W (.slice A n c) r → Calls Try.prog 63 #[.pointer (some ⟨E.gd, 0, none⟩), .int .i64 (i : Int), .int .i64 yy] W fun e w' => e = .returned (.tuple #[.int .i64 (goesV E.d E.l1 E.l4 i y).1, .bool (goesV E.d E.l1 E.l4 i y).2]) ∧ Below W.heap.size W w') := ⟨fun W h => by rw [HYY.out]; exact goes_calls E.gd E.v0 E.v2 E.v3 E.v5 E.A1 E.c1 E.l1 E.A4 E.c4 E.l4 E.d i y W (Kd.qai HE.out.r1 h.hb) (Kd.qai HE.out.r4 h.hb) (by have := HE.out.n4; omega) hlt (by omega) (by omega) h.xd⟩
     have HPS2 : qab (pathS E.d E.l1 E.l4 E.last (E.path k) p y i = (match goesN E.d E.l1 E.l4 i y with | some y' => if (y' : Int) ≤ E.last then (E.path k e1 y').map ((i : Int) :: ·) else none | none => none)) := ⟨by rw [HPS.out, if_pos he]⟩
     clear HPS he
     cases hG : goesN E.d E.l1 E.l4 i y with
     | none =>
      have HGO : qab (∀ W, RInv E W (.slice A n c) r → Calls Try.prog 63 #[.pointer (some ⟨E.gd, 0, none⟩), .int .i64 (i : Int), .int .i64 yy] W fun e w' => e = .returned (.tuple #[.int .i64 0, .bool false]) ∧ Below W.heap.size W w') := ⟨fun W h => by have h1 := HGV.out W h; unfold goesV at h1; rw [hG] at h1; exact h1⟩
      have HN1 : qab (E.path (k + 1) p y = E.from_ k p y (i + 1)) := ⟨by rw [HFR.out, HST.out, HPS2.out, hG]; rfl⟩
      clear HPS2 HST HGV hG
      go_wp2_with (go_at_call 63; (with_reducible refine (HGO.out _ HI5.out).mono ?_); rintro e w6 ⟨rfl, hb⟩; have HI6 := qab.mk (HI5.out.below hb); have HK6 := qab.mk (KC.of_below (E := E) hb); have fl : w6.cell? ⟨E.Bl, 0, none⟩ = some (.int .i64 last) := (qaa HI6.out.xl 0).trans (by rw [HLA.out]; rfl); clear hb)
      go_roundw
      case rel => exact ⟨i + 1, A, n, c, by omega, by go_num, HN1, HI6, ⟨HK5.out.trans HK6.out⟩⟩
      case measure => simp [intOf]; omega
     | some y' =>
      have HGO : qab (∀ W, RInv E W (.slice A n c) r → Calls Try.prog 63 #[.pointer (some ⟨E.gd, 0, none⟩), .int .i64 (i : Int), .int .i64 yy] W fun e w' => e = .returned (.tuple #[.int .i64 (y' : Int), .bool true]) ∧ Below W.heap.size W w') := ⟨fun W h => by have h1 := HGV.out W h; unfold goesV at h1; rw [hG] at h1; exact h1⟩
      have hlt2 := goesN_lt _ _ _ _ _ _ hG
      have hy2 : y' ≤ 10 := by have := HE.out.n4; omega
      have HPS3 : qab (pathS E.d E.l1 E.l4 E.last (E.path k) p y i = if (y' : Int) ≤ E.last then (E.path k e1 y').map ((i : Int) :: ·) else none) := ⟨by rw [HPS2.out, hG]⟩
      clear HPS2 HGV hG hlt2
      by_cases hle : (y' : Int) ≤ last
      ·
       have hcd : decide ((y' : Int) ≤ last) = true := decide_eq_true hle
       have HPS4 : qab (pathS E.d E.l1 E.l4 E.last (E.path k) p y i = (E.path k e1 y').map ((i : Int) :: ·)) := ⟨by rw [HPS3.out, if_pos (by rw [← HLA.out]; exact hle)]⟩
       clear HPS3 hle
       go_upto_region 11 with (go_at_call 63; (with_reducible refine (HGO.out _ HI5.out).mono ?_); rintro e w6 ⟨rfl, hb⟩; have HI6 := qab.mk (HI5.out.below hb); have HK6 := qab.mk (KC.of_below (E := E) hb); have fl : w6.cell? ⟨E.Bl, 0, none⟩ = some (.int .i64 last) := (qaa HI6.out.xl 0).trans (by rw [HLA.out]; rfl); clear hb)
       have fr6 : w6.cell? ⟨E.Br, 0, none⟩ = some (.slice A n c) := (qaa HI6.out.xr 0).trans rfl
       clear fl b0 b1 b2 b3
       go_upto_region 12 with ((with_reducible refine gate_builtin (b := .append) (xs := #[.tmp 51, .tmp 53]) rfl ?_); at_builtin; refine Kd.R_append (Kd.int .i64) (w0 := E.w0) E.w0.heap.size rfl (.tmp 51) (.tmp 53) 23 3 (.int .i64 0) 8 rfl Try.underlying23 info3 rfl (by decide) (by omega) (.slice A n c) r (i : Int) [.int .i64 (i : Int)] (fun k => k ≠ E.Bp ∧ k ≠ E.Bl) (fun _ => False) rfl rfl ?aP (fun _ hk => hk.elim) ?aF ?aO ?aB ?aS ?aL ?_; (case aP => exact rfl); (case aF => exact fun k hk => by have h1 := blk_lt HI6.out.xp; have h2 := blk_lt HI6.out.xl; constructor <;> omega); (case aO => exact HI6.out.row); (case aB => exact HI6.out.hb); (case aS => exact HI6.out.hb.size); (case aL => omega); intro v1 w1 ho hB hg hat; obtain ⟨vB, vm, vd, e⟩ := R_shape ho; subst e; have HA8 := qab.mk (HI6.out.app HE.out.br hg hB ho); have HK8 := qab.mk (HK6.out.trans (KC.of_app HI6.out hg (.slice vB vm vd))); have xr7 := blk_grown HI6.out.xr hg (Kd.R_ne HI6.out.row HI6.out.xr (by decide)); have fr7 := qac xr7; have cr7 : w1.cell? ⟨E.Br, 0, none⟩ = some (.slice A n c) := (qaa xr7 0).trans rfl; clear ho hB hg hat xr7)
       clear fr7 cr7 fr6
       generalize World.setCell w1 ⟨E.Br, 0, none⟩ (.slice vB vm vd) = w8 at HA8 HK8 ⊢
       have f0 : w8.cell? ⟨E.Bs, 0, none⟩ = some (.func (.func 62) #[] #[.pointer (some ⟨E.Bp, 0, none⟩), .pointer (some ⟨E.Bk, 0, none⟩), .pointer (some ⟨E.Bm, 0, none⟩), .pointer (some ⟨E.Bd, 0, none⟩), .pointer (some ⟨E.Bl, 0, none⟩), .pointer (some ⟨E.Br, 0, none⟩), .pointer (some ⟨E.Bs, 0, none⟩)]) := (qaa HA8.out.xs 0).trans rfl
       have f1 : w8.cell? ⟨ge, 1, none⟩ = some (.int .i64 e1) := (qaa (HK8.out.own _ _ _ BKge.out (by decide) HNE2.out) 1).trans rfl
       have f2 : w8.cell? ⟨gs, 2, none⟩ = some (.int .i64 nn) := (qaa (HK8.out.own _ _ _ BKgs.out (by decide) HNE.out) 2).trans rfl
       have hkn : wrap64 (nn - 1) = k := by rw [HNN.out]; unfold wrap64; omega
       have HKN := qab.mk hkn
       clear hkn
       cases hX : E.path k e1 y' with
       | some l =>
        have HSE : qab (∀ W v, RInv E W v (r ++ [(i : Int)]) → Calls Try.prog 62 #[.agg #[.int .i64 e1, .int .i64 (y' : Int), .int .i64 (wrap64 (nn - 1))], .pointer (some ⟨E.Bp, 0, none⟩), .pointer (some ⟨E.Bk, 0, none⟩), .pointer (some ⟨E.Bm, 0, none⟩), .pointer (some ⟨E.Bd, 0, none⟩), .pointer (some ⟨E.Bl, 0, none⟩), .pointer (some ⟨E.Br, 0, none⟩), .pointer (some ⟨E.Bs, 0, none⟩)] W fun e W' => e = .returned (.bool true) ∧ (∃ v', RInv E W' v' (r ++ [(i : Int)] ++ l)) ∧ KC E W W') := ⟨fun W v h => by have h1 := HIH.out e1 y' W v _ h hy2 (by simp; omega); rw [hX] at h1; rw [HKN.out]; exact h1⟩
        have HN1 : qab (E.path (k + 1) p y = some ((i : Int) :: l)) := ⟨by rw [HFR.out, HST.out, HPS4.out, hX]; rfl⟩
        clear hX HPS4 HST
        go_wp2_with (go_at_call 62; (with_reducible refine (HSE.out _ _ HA8.out).mono ?_); rintro e w10 ⟨rfl, ⟨v2, hI⟩, hK⟩; have HI10 := qab.mk hI; have HK10 := qab.mk (HK8.out.trans hK); clear hI hK)
        go_ret
        refine ⟨by rw [HN1.out]; rfl, ⟨v2, by rw [HN1.out]; simpa using HI10.out⟩, ?_⟩
        exact (KC.of_below HBw.out).trans (HK5.out.trans HK10.out)
       | none =>
        have HSE : qab (∀ W v, RInv E W v (r ++ [(i : Int)]) → Calls Try.prog 62 #[.agg #[.int .i64 e1, .int .i64 (y' : Int), .int .i64 (wrap64 (nn - 1))], .pointer (some ⟨E.Bp, 0, none⟩), .pointer (some ⟨E.Bk, 0, none⟩), .pointer (some ⟨E.Bm, 0, none⟩), .pointer (some ⟨E.Bd, 0, none⟩), .pointer (some ⟨E.Bl, 0, none⟩), .pointer (some ⟨E.Br, 0, none⟩), .pointer (some ⟨E.Bs, 0, none⟩)] W fun e W' => e = .returned (.bool false) ∧ (∃ v', RInv E W' v' (r ++ [(i : Int)])) ∧ KC E W W') := ⟨fun W v h => by have h1 := HIH.out e1 y' W v _ h hy2 (by simp; omega); rw [hX] at h1; rw [HKN.out]; simpa using h1⟩
        have HN1 : qab (E.path (k + 1) p y = E.from_ k p y (i + 1)) := ⟨by rw [HFR.out, HST.out, HPS4.out, hX]; rfl⟩
        clear hX HPS4 HST
        go_upto_region 14 with (go_at_call 62; (with_reducible refine (HSE.out _ _ HA8.out).mono ?_); rintro e w10 ⟨rfl, ⟨v2, hI⟩, hK⟩; have HI10 := qab.mk hI; have HK10 := qab.mk (HK8.out.trans hK); clear hI hK)
        clear f0 f1 f2
        obtain ⟨A2, c2, e⟩ := Kd.R_slice HI10.out.row
        subst e
        have hrl : (r ++ [(i : Int)]).length = r.length + 1 := by simp
        have fr10 : w10.cell? ⟨E.Br, 0, none⟩ = some (.slice A2 (r.length + 1) c2) := (qaa HI10.out.xr 0).trans (by rw [← hrl]; rfl)
        have hcap : r.length + 1 ≤ c2 := by have h := (Kd.R_reads' HI10.out.row).2.1; omega
        have frz : w10.frozen? ⟨E.Br, 0, none⟩ = false := qac HI10.out.xr 0
        have hwr : wrap64 ((r.length : Int) + 1 - 1) = r.length := by unfold wrap64; omega
        clear hrl
        go_wp2
        go_roundw
        have HRT := Kd.R_take (m := r.length) HI10.out.row (by simp)
        rw [List.take_left'  rfl] at HRT
        case rel => exact ⟨i + 1, A2, r.length, c2, by omega, by go_num, HN1, ⟨HI10.out.setR HE.out.br HRT⟩, ⟨(HK5.out.trans HK10.out).trans (KC.of_set E w10 _)⟩⟩
        case measure => simp [intOf]; omega
      ·
       have hcd : decide ((y' : Int) ≤ last) = false := decide_eq_false hle
       have HN1 : qab (E.path (k + 1) p y = E.from_ k p y (i + 1)) := ⟨by rw [HFR.out, HST.out, HPS3.out, if_neg (by rw [← HLA.out]; exact hle)]; rfl⟩
       clear HPS3 hle HST
       go_wp2_with (go_at_call 63; (with_reducible refine (HGO.out _ HI5.out).mono ?_); rintro e w6 ⟨rfl, hb⟩; have HI6 := qab.mk (HI5.out.below hb); have HK6 := qab.mk (KC.of_below (E := E) hb); have fl : w6.cell? ⟨E.Bl, 0, none⟩ = some (.int .i64 last) := (qaa HI6.out.xl 0).trans (by rw [HLA.out]; rfl); clear hb)
       go_roundw
       case rel => exact ⟨i + 1, A, n, c, by omega, by go_num, HN1, HI6, ⟨HK5.out.trans HK6.out⟩⟩
       case measure => simp [intOf]; omega
    ·
     have hne : (e0 == p) = false := by simp [he]
     have HN1 : qab (E.path (k + 1) p y = E.from_ k p y (i + 1)) := ⟨by rw [HFR.out, HST.out, HPS.out, if_neg he]; rfl⟩
     clear HPS HST he
     go_wp2
     go_roundw
     case rel => exact ⟨i + 1, A, n, c, by omega, by go_num, HN1, HI5, HK5⟩
     case measure => simp [intOf]; omega
   ·
    have HN1 : qab (E.path (k + 1) p y = none) := ⟨by rw [HFR.out, E.from_end k p y i (by omega)]⟩
    obtain ⟨w9, hrun, hI9, hK9⟩ := HI.out.dead HE.out.bm (k + 1) y p HN1.out
    rw [← HYY.out, ← HNN.out] at hrun
    have HI9 := qab.mk hI9
    have HK9 := qab.mk hK9
    have fk : W0.cell? ⟨E.Bk, 0, none⟩ = some (.map (some E.mm)) := (qaa HI.out.xk 0).trans rfl
    obtain ⟨hfgs, hcgs_0, hcgs_1, hcgs_2⟩ := qz3 BKgs.out
    clear hI9 hK9
    go_wp2
    go_ret
    exact ⟨by rw [HN1.out]; rfl, ⟨_, by rw [HN1.out]; simpa using HI9.out⟩, (KC.of_below HBw.out).trans (HK.out.trans HK9.out)⟩
theorem search_calls (E : RE) (hE : E.Fit) : ∀ k : Nat, k ≤ 100 → SearchC E k
 | 0, _ => search_zero E
 | k + 1, h => search_succ E hE k (by omega) (search_calls E hE k (by omega))
def rootS (d : Int) (l1 : List S44) (l2 : List Int) (l4 : List S41) (last pt : Int) (k i : Nat) : Option (List Int) :=
 match goesN d l1 l4 i 0 with
 | some y => if (y : Int) ≤ last then if l2.contains (qav l1 (i : Nat)).f0 = true then (pathV d l1 l4 last pt k (qav l1 (i : Nat)).f1 y).map ((i : Int) :: ·) else none else none
 | none => none
def routeBy (d : Int) (l1 : List S44) (l2 : List Int) (l4 : List S41) (last pt : Int) : Nat → Option (List Int)
 | 0 => if l2.contains pt = true then some [] else none
 | k + 1 => (List.range l1.length).findSome? (rootS d l1 l2 l4 last pt k)
def routeV (d : Int) (l1 : List S44) (l2 : List Int) (l4 : List S41) (last pt : Int) (P : Nat) : List Int := ((List.range (P + 1)).findSome? (routeBy d l1 l2 l4 last pt)).getD []
def routeF (p : Int) (l1 : List S44) (l2 l3 : List Int) (l4 : List S41) (l5 : List S95) (l : List Int) (pt : Int) : List Int × Int :=
 if (givenB p l1 l2 l3 l4 l5 l && inB pt 0 (p - 1)) = true then
  if rd (foulV p.toNat l1 l2 (maskV l) (l4.map (·.f1))) pt = l4.length then ([], 5)
  else (routeV (maskV l) l1 l2 l4 (rd (foulV p.toNat l1 l2 (maskV l) (l4.map (·.f1))) pt) pt p.toNat, 0)
 else ([], 2)
structure RQ (w : World) (gb gp g8 gd : Nat) (mc dc : Array Value) (pt : Int) (W : World) : Prop where
 hb : Below w.heap.size w W
 xm : W.heap[gb]? = some (.cells mc 27 (0, 0))
 xp : W.heap[gp]? = some (.cells #[.int .i64 pt] 3 (0, 0))
 xb : W.heap[g8]? = some (.cells #[.pointer (some ⟨gd, 0, none⟩)] 84 (0, 0))
 xd : W.heap[gd]? = some (.cells dc 123 (0, 0))
section
variable {w W W' : World} {gb gp g8 gd g : Nat} {mc dc : Array Value} {pt : Int}
theorem RQ.below (h : RQ w gb gp g8 gd mc dc pt W) (hb : Below W.heap.size W W') : RQ w gb gp g8 gd mc dc pt W' := ⟨qae h.hb hb, qad h.xm hb, qad h.xp hb, qad h.xb hb, qad h.xd hb⟩
theorem RQ.ne (h : RQ w gb gp g8 gd mc dc pt W) (hg : g = W.heap.size) : gb ≠ g ∧ gp ≠ g ∧ g8 ≠ g ∧ gd ≠ g := by
 have h1 := blk_lt h.xm
 have h2 := blk_lt h.xp
 have h3 := blk_lt h.xb
 have h4 := blk_lt h.xd
 refine ⟨?_, ?_, ?_, ?_⟩ <;> omega
theorem RQ.put (h : RQ w gb gp g8 gd mc dc pt W) (hg : w.heap.size ≤ g) (hn : gb ≠ g ∧ gp ≠ g ∧ g8 ≠ g ∧ gd ≠ g) (v : Value) : RQ w gb gp g8 gd mc dc pt (W.setCell ⟨g, 0, none⟩ v) :=
 ⟨qaj h.hb hg, blk_far (p := ⟨g, 0, none⟩) h.xm hn.1 v, blk_far (p := ⟨g, 0, none⟩) h.xp hn.2.1 v, blk_far (p := ⟨g, 0, none⟩) h.xb hn.2.2.1 v, blk_far (p := ⟨g, 0, none⟩) h.xd hn.2.2.2 v⟩
end
theorem R_one (W : World) (base : Nat) (ok : Nat → Prop) (i : Int) (hb : base ≤ W.heap.size) (hok : ok W.heap.size) : Kd.R (Kd.int .i64) 3 (W.alloc (.cells #[.int .i64 i] 3)) base ok (.slice (some ⟨W.heap.size, 0, none⟩) 1 1) [i] := by
 refine Kd.R_of_own (enc := Value.int .i64) (h1 := fun _ => rfl) ?_ ?_
 ·
  have h := World.ownsRow_lit (base := base) (e := 3) (size := 1) W #[.int .i64 i] 1 hb (by decide) rfl
  simpa [encs] using h
 ·
  intro k hk
  have : W.heap.size = k := by simpa [Value.ownBlock] using hk
  subst this
  exact hok
theorem allocs4 (W : World) (o1 o2 : Obj) (o3 : Nat → Obj) (o4 : Obj) : ∃ X gr mm gk gs, (((W.alloc o1).alloc o2).alloc (o3 (W.heap.size + 1))).alloc o4 = X ∧ W.heap.size + 1 + 1 + 1 = gs ∧ W.heap.size + 1 + 1 = gk ∧ W.heap.size + 1 = mm ∧ W.heap.size = gr ∧ X.heap[gr]? = some o1 ∧ X.heap[mm]? = some o2 ∧ X.heap[gk]? = some (o3 mm) ∧ X.heap[gs]? = some o4 ∧ Below W.heap.size W X := by
 have h2 := blk_new (W.alloc o1) o2
 have h3 := blk_new ((W.alloc o1).alloc o2) (o3 (W.heap.size + 1))
 have h4 := blk_new (((W.alloc o1).alloc o2).alloc (o3 (W.heap.size + 1))) o4
 simp only [World.size_alloc] at h2 h3 h4
 exact ⟨_, _, _, _, _, rfl, rfl, rfl, rfl, rfl, qan (qan (qan (blk_new W o1) _) _) _, qan (qan h2 _) _, qan h3 _, h4, qag (qag (qag (qag (Below.refl _ _) _) _) _) _⟩
def routeTo (d : Int) (l1 : List S44) (l2 : List Int) (l4 : List S41) (last pt : Int) (P m : Nat) : Option (List Int) := ((List.range (P + 1)).drop m).findSome? (routeBy d l1 l2 l4 last pt)
theorem routeTo_step (d : Int) (l1 : List S44) (l2 : List Int) (l4 : List S41) (last pt : Int) (P m : Nat) (hm : m < P + 1) : routeTo d l1 l2 l4 last pt P m = (routeBy d l1 l2 l4 last pt m).or (routeTo d l1 l2 l4 last pt P (m + 1)) := by
 unfold routeTo
 have hl : m < (List.range (P + 1)).length := by simpa using hm
 rw [List.drop_eq_getElem_cons hl, List.findSome?_cons]
 simp only [List.getElem_range]
 cases routeBy d l1 l2 l4 last pt m <;> simp
theorem routeTo_end (d : Int) (l1 : List S44) (l2 : List Int) (l4 : List S41) (last pt : Int) (P m : Nat) (hm : P + 1 ≤ m) : routeTo d l1 l2 l4 last pt P m = none := by
 unfold routeTo
 rw [List.drop_eq_nil_of_le (by simpa using hm)]
 rfl
def rootTo (d : Int) (l1 : List S44) (l2 : List Int) (l4 : List S41) (last pt : Int) (k i : Nat) : Option (List Int) := ((List.range l1.length).drop i).findSome? (rootS d l1 l2 l4 last pt k)
theorem rootTo_step (d : Int) (l1 : List S44) (l2 : List Int) (l4 : List S41) (last pt : Int) (k i : Nat) (hi : i < l1.length) : rootTo d l1 l2 l4 last pt k i = (rootS d l1 l2 l4 last pt k i).or (rootTo d l1 l2 l4 last pt k (i + 1)) := by
 unfold rootTo
 have hl : i < (List.range l1.length).length := by simpa using hi
 rw [List.drop_eq_getElem_cons hl, List.findSome?_cons]
 simp only [List.getElem_range]
 cases rootS d l1 l2 l4 last pt k i <;> simp
theorem rootTo_end (d : Int) (l1 : List S44) (l2 : List Int) (l4 : List S41) (last pt : Int) (k i : Nat) (hi : l1.length ≤ i) : rootTo d l1 l2 l4 last pt k i = none := by
 unfold rootTo
 rw [List.drop_eq_nil_of_le (by simpa using hi)]
 rfl
theorem store_func (W : World) (g : Nat) (u : Value) (hc : W.cell? ⟨g, 0, none⟩ = some u) (hf : W.frozen? ⟨g, 0, none⟩ = false) (f : Fn) (a b : Array Value) : (store ⟨g, 0, none⟩ (.func f a b)).run Try.prog W = .ok () (W.setCell ⟨g, 0, none⟩ (.func f a b)) := by
 rw [run_store _ _ _ _ _ rfl]
 simp [stored, hc, hf]
end Go.Proofs.Ytafkanmioinbiaa.SA
