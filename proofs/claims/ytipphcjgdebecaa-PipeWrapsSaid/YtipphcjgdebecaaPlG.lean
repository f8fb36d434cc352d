/- What functions of the program answer. No condition. -/
import Derived.RangeFuncNested
import Derived.RangeFuncBound
import Derived.RangeFuncCalls
import Derived.RangeFuncLeaves
import Derived.RangeFuncBox
import Derived.Shelf.Abstract
import Derived.Shelf.RegionOpen
import Derived.OwnWalkIn
import Derived.TacticsInMore
import Derived.LoopNIn
import Derived.LoopIn
import Derived.Recover
import Derived.Defers
import Derived.WalkLawsBesides
import Derived.WalkSmall
import Derived.Test.YtipphcjgdebecaaPlD
import Derived.Test.YtipphcjgdebecaaPlE
import Derived.Test.YtipphcjgdebecaaSC
import Derived.Test.YtipphcjgdebecaaSE
import Derived.Test.YtipphcjgdebecaaSF
import Derived.Test.YtipphcjgdebecaaSJ
import Derived.Test.YtipphcjgdebecaaPlA
import Derived.Test.YtipphcjgdebecaaPlC
import Derived.Test.YtipphcjgdebecaaPlB
import Derived.Test.YtipphcjgdebecaaPlF
import Derived.Test.YtipphcjgdebecaaSK
import Derived.Test.YtipphcjgdebecaaSL
set_option linter.all false
set_option maxRecDepth 100000
set_option maxHeartbeats 8000000
namespace Go.Proofs.Ytipphcjgdebecaa.PA
open Go.RowKit Go.Shelf Go.Proofs.YtipphcjgdebecaaW.PrintWords Go.Proofs.YtipphcjgdebecaaW.PrintLast Go.Proofs.YtipphcjgdebecaaW.PrintMore
attribute [local go_sem] qaw qay max_two min_two qas qat qax qaz
def extL (n : Nat) (f : Int) (o : List Int) (l : Nat) : List (List Int) := (((List.range n).drop l).filter fun x : Nat => bitB f x && !(o.any fun y => y == (x : Int))).map fun x : Nat => o ++ [(x : Int)]
def ordersI (n : Nat) (f : Int) : Nat → List (List Int)
 | 0 => [[]]
 | i + 1 => if bitB f i = true then (ordersI n f i).flatMap fun o => extL n f o 0 else ordersI n f i
theorem extL_step (n : Nat) (f : Int) (o : List Int) (l : Nat) (h : l < n) : extL n f o l = (if (bitB f l && !(o.any fun y => y == (l : Int))) = true then [o ++ [(l : Int)]] else []) ++ extL n f o (l + 1) := by
 unfold extL
 rw [List.drop_eq_getElem_cons (by simpa using h), List.filter_cons]
 simp only [List.getElem_range]
 split <;> simp
theorem extL_end (n : Nat) (f : Int) (o : List Int) : extL n f o n = [] := by
 unfold extL
 rw [List.drop_eq_nil_of_le (by simp)]
 rfl
theorem extL_length (n : Nat) (f : Int) (o : List Int) (l : Nat) : (extL n f o l).length ≤ n := by
 unfold extL
 rw [List.length_map]
 refine Nat.le_trans (List.length_filter_le _ _) ?_
 simp
section
variable {l0 : List S39} {l1 : List S37} {l2 : List (List Int)} {r : List (List Int)}
def pieceL (f : Int) (o : List Int) (l : Nat) (met : Bool) : List (List Int) := if (bitB f l && !met) = true then [o ++ [(l : Int)]] else []
theorem ord3 (f : Int) (f0 : 0 ≤ f) (f1 : f < 32) (out next : List (List Int)) (i : Int) (c : Nat) (hc : c < out.length) (ho : out.length ≤ 1000) (hl : out[c].length ≤ 5) (hx : next.length ≤ 100000) (l : Nat) (h5 : l < 5) (K : Nat) (hK : 10 ≤ K) :
  ∀ (m j k : Nat) (met : Bool), j + m = out[c].length → m + 1 + K ≤ k → (∀ k, K ≤ k → talikref04_Orders.l2 k f out i (next ++ pieceL f out[c] l (met || (out[c].drop j).any fun y => y == (l : Int))) (c : Int) ((l + 1 : Nat) : Int) l0 l1 l2 = some r) → talikref04_Orders.l3 k f out i next (c : Int) (l : Int) met (j : Int) l0 l1 l2 = some r := by
 intro m
 induction m with
 | zero =>
  intro j k met hj hk hR
  obtain ⟨k, rfl⟩ : ∃ k', k = k' + 1 := ⟨k - 1, by omega⟩
  have hR := hR k (by omega)
  rw [List.drop_eq_nil_of_le (by omega)] at hR
  unfold talikref04_Orders.l3
  rw [if_pos (by omega), if_pos (by omega), rd_L1_at out c hc, if_neg (by omega), has_eq f f0 f1 l h5 k (by omega), wsucc l (by omega)]
  simp only [Option.bind_some, List.any_nil, Bool.or_false, pieceL] at hR ⊢
  cases hb : bitB f l with
  | false =>
   rw [hb] at hR
   simp only [Bool.false_and, Bool.false_eq_true, if_false, List.append_nil] at hR ⊢
   exact hR
  | true =>
   rw [hb] at hR
   cases met with
   | true =>
    simp only [Bool.true_and, Bool.not_true, Bool.false_eq_true, if_false, if_true, List.append_nil] at hR ⊢
    exact hR
   | false =>
    simp only [Bool.true_and, Bool.not_false, Bool.false_eq_true, if_false, if_true, List.length_nil, Nat.zero_add, List.nil_append] at hR ⊢
    rw [if_pos (by omega)]
    try simp only [Option.bind_some]
    rw [if_pos (by omega), if_pos (by omega)]
    exact hR
 | succ m ih =>
  intro j k met hj hk hR
  obtain ⟨k, rfl⟩ : ∃ k', k = k' + 1 := ⟨k - 1, by omega⟩
  have hlt : j < out[c].length := by omega
  rw [List.drop_eq_getElem_cons hlt] at hR
  simp only [List.any_cons] at hR
  unfold talikref04_Orders.l3
  rw [if_pos (by omega), if_pos (by omega), rd_L1_at out c hc, if_pos (by omega), wsucc j (by omega)]
  cases met with
  | true =>
   rw [if_pos rfl]
   exact ih (j + 1) k true (by omega) (by omega) (by simpa using hR)
  | false =>
   rw [if_neg (by decide), if_pos (by omega), rd_at _ j hlt]
   exact ih (j + 1) k _ (by omega) (by omega) (by simpa using hR)
theorem ord2 (f : Int) (f0 : 0 ≤ f) (f1 : f < 32) (hn : l0.length ≤ 5) (out : List (List Int)) (i : Int) (c : Nat) (hc : c < out.length) (ho : out.length ≤ 1000) (hl : out[c].length ≤ 5) (K : Nat) (hK : 10 ≤ K) :
  ∀ (m l k : Nat) (next : List (List Int)), l + m = l0.length → 8 * m + 1 + K ≤ k → next.length + m ≤ 90000 → (∀ k, K ≤ k → talikref04_Orders.l1 k f out i (next ++ extL l0.length f out[c] l) ((c + 1 : Nat) : Int) l0 l1 l2 = some r) → talikref04_Orders.l2 k f out i next (c : Int) (l : Int) l0 l1 l2 = some r := by
 intro m
 induction m with
 | zero =>
  intro l k next hm hk hx hR
  obtain ⟨k, rfl⟩ : ∃ k', k = k' + 1 := ⟨k - 1, by omega⟩
  obtain rfl : l = l0.length := by omega
  have hR := hR k (by omega)
  rw [extL_end, List.append_nil] at hR
  unfold talikref04_Orders.l2
  rw [if_neg (by omega), wsucc c (by omega)]
  exact hR
 | succ m ih =>
  intro l k next hm hk hx hR
  obtain ⟨k, rfl⟩ : ∃ k', k = k' + 1 := ⟨k - 1, by omega⟩
  unfold talikref04_Orders.l2
  rw [if_pos (by omega)]
  refine ord3 f f0 f1 out next i c hc ho hl (by omega) l (by omega) (8 * m + 1 + K) (by omega) out[c].length 0 k false (by omega) (by omega) (fun k hk => ih (l + 1) k _ (by omega) hk ?_ (fun k hk => ?_))
  ·
   unfold pieceL
   split <;> simp <;> omega
  ·
   have h := hR k hk
   rw [extL_step _ _ _ _ (by omega)] at h
   rw [List.append_assoc]
   exact h
theorem ord1 (f : Int) (f0 : 0 ≤ f) (f1 : f < 32) (hn : l0.length ≤ 5) (out : List (List Int)) (i : Nat) (hi : i ≤ 100) (ho : out.length ≤ 1000) (hl : ∀ o ∈ out, o.length ≤ 5) (K : Nat) (hK : 10 ≤ K) :
  ∀ (m c k : Nat) (next : List (List Int)), c + m = out.length → 42 * m + 1 + K ≤ k → next.length + 5 * m ≤ 80000 → (∀ k, K ≤ k → talikref04_Orders.l0 k f (next ++ (out.drop c).flatMap fun o => extL l0.length f o 0) ((i + 1 : Nat) : Int) l0 l1 l2 = some r) → talikref04_Orders.l1 k f out (i : Int) next (c : Int) l0 l1 l2 = some r := by
 intro m
 induction m with
 | zero =>
  intro c k next hm hk hx hR
  obtain ⟨k, rfl⟩ : ∃ k', k = k' + 1 := ⟨k - 1, by omega⟩
  have hR := hR k (by omega)
  rw [List.drop_eq_nil_of_le (by omega), List.flatMap_nil, List.append_nil] at hR
  unfold talikref04_Orders.l1
  rw [if_neg (by omega), wsucc i (by omega)]
  exact hR
 | succ m ih =>
  intro c k next hm hk hx hR
  obtain ⟨k, rfl⟩ : ∃ k', k = k' + 1 := ⟨k - 1, by omega⟩
  have hc : c < out.length := by omega
  unfold talikref04_Orders.l1
  rw [if_pos (by omega)]
  refine ord2 f f0 f1 hn out (i : Int) c hc ho (hl _ (List.getElem_mem hc)) (42 * m + 1 + K) (by omega) l0.length 0 k next (by omega) (by omega) (by omega) (fun k hk => ih (c + 1) k _ (by omega) hk ?_ (fun k hk => ?_))
  ·
   have := extL_length l0.length f out[c] 0
   rw [List.length_append]
   omega
  ·
   have h := hR k hk
   rw [List.drop_eq_getElem_cons hc, List.flatMap_cons] at h
   rw [List.append_assoc]
   exact h
end
theorem bound_flat (g : List Int → List (List Int)) (c : Nat) (hg : ∀ o, (g o).length ≤ c) : ∀ l : List (List Int), (l.flatMap g).length ≤ c * l.length
 | [] => by simp
 | o :: t => by
  have h1 := bound_flat g c hg t
  have h2 := hg o
  rw [List.flatMap_cons, List.length_append, List.length_cons, Nat.mul_succ]
  omega
theorem ordersI_length (n : Nat) (hn : n ≤ 4) (f : Int) : ∀ i, (ordersI n f i).length ≤ 4 ^ i
 | 0 => by simp [ordersI]
 | i + 1 => by
  have ih := ordersI_length n hn f i
  have h1 : (4 : Nat) ^ (i + 1) = 4 ^ i * 4 := Nat.pow_succ 4 i
  unfold ordersI
  split
  ·
   have h2 := bound_flat (fun o => extL n f o 0) n (fun o => extL_length n f o 0) (ordersI n f i)
   have h3 : n * (ordersI n f i).length ≤ 4 * (ordersI n f i).length := Nat.mul_le_mul_right _ hn
   omega
  ·
   omega
def setL (n : Nat) (f : Int) (i : Nat) (o : List Int) : Prop := o.Nodup ∧ (∀ x ∈ o, x ∈ qar f n) ∧ o.length = (qar f i).length
theorem loops_at (f : Int) (n : Nat) (x : Nat) : (x : Int) ∈ qar f n ↔ x < n ∧ bitB f x = true := by
 rw [mem_loopsOf]
 constructor
 ·
  rintro ⟨k, hk, h1, h2⟩
  obtain rfl : x = k := by omega
  exact ⟨h1, h2⟩
 ·
  rintro ⟨h1, h2⟩
  exact ⟨x, rfl, h1, h2⟩
theorem mem_extL (n : Nat) (f : Int) (o o' : List Int) : o' ∈ extL n f o 0 ↔ ∃ x : Nat, x < n ∧ bitB f x = true ∧ (x : Int) ∉ o ∧ o' = o ++ [(x : Int)] := by
 unfold extL
 simp only [List.drop_zero, List.mem_map, List.mem_filter, List.mem_range, Bool.and_eq_true, Bool.not_eq_true', List.any_eq_false, beq_iff_eq]
 constructor
 ·
  rintro ⟨x, ⟨h1, h2, h3⟩, rfl⟩
  exact ⟨x, h1, h2, fun h => h3 _ h rfl, rfl⟩
 ·
  rintro ⟨x, h1, h2, h3, rfl⟩
  exact ⟨x, ⟨h1, h2, fun y hy he => h3 (he ▸ hy)⟩, rfl⟩
theorem ordersI_mem (n : Nat) (f : Int) : ∀ i, ∀ o, o ∈ ordersI n f i ↔ setL n f i o
 | 0, o => by
  unfold ordersI setL qar
  simp only [List.mem_singleton, List.length_nil, List.length_eq_zero_iff]
  constructor
  ·
   rintro rfl
   exact ⟨List.nodup_nil, by simp, rfl⟩
  ·
   exact fun h => h.2.2
 | i + 1, o => by
  have ih := ordersI_mem n f i
  unfold ordersI
  have hs : qar f (i + 1) = if bitB f i = true then qar f i ++ [(i : Int)] else qar f i := by
   conv => lhs; unfold qar
  by_cases hb : bitB f i = true
  ·
   rw [if_pos hb]
   rw [if_pos hb] at hs
   simp only [List.mem_flatMap, mem_extL]
   unfold setL
   rw [hs, List.length_append, List.length_singleton]
   constructor
   ·
    rintro ⟨p, hp, x, h1, h2, h3, rfl⟩
    obtain ⟨a, b, c⟩ := (ih p).1 hp
    refine ⟨List.nodup_append.2 ⟨a, by simp, fun y hy z hz => ?_⟩, fun y hy => ?_, by simp [c]⟩
    ·
     simp only [List.mem_singleton] at hz
     subst hz
     exact fun he => h3 (he ▸ hy)
    ·
     rcases List.mem_append.1 hy with hy | hy
     ·
      exact b y hy
     ·
      simp only [List.mem_singleton] at hy
      rw [hy]
      exact (loops_at f n x).2 ⟨h1, h2⟩
   ·
    rintro ⟨a, b, c⟩
    have hne : o ≠ [] := fun e => by rw [e] at c; simp at c
    obtain ⟨p, y, rfl⟩ : ∃ p y, o = p ++ [y] := ⟨o.dropLast, o.getLast hne, (List.dropLast_concat_getLast hne).symm⟩
    obtain ⟨a1, _, a3⟩ := List.nodup_append.1 a
    have hy := b y (by simp)
    obtain ⟨x, rfl, hx, hbx⟩ := (mem_loopsOf f n y).1 hy
    refine ⟨p, (ih p).2 ⟨a1, fun z hz => b z (by simp [hz]), by simpa using c⟩, x, hx, hbx, fun hin => a3 _ hin _ (by simp) rfl, rfl⟩
  ·
   rw [if_neg hb]
   rw [if_neg hb] at hs
   rw [ih]
   unfold setL
   rw [hs]
def ltL : List Int → List Int → Prop
 | i :: t, j :: u => i < j ∨ (i = j ∧ ltL t u)
 | _, _ => False
theorem ltL_app : ∀ (a b : List Int) (x y : Int), ltL a b → ltL (a ++ [x]) (b ++ [y])
 | [], _, _, _, h => h.elim
 | _ :: _, [], _, _, h => h.elim
 | i :: t, j :: u, x, y, h => by
  rcases h with h | ⟨h1, h2⟩
  ·
   exact .inl h
  ·
   exact .inr ⟨h1, ltL_app t u x y h2⟩
theorem ltL_same : ∀ (a : List Int) (x y : Int), x < y → ltL (a ++ [x]) (a ++ [y])
 | [], x, y, h => .inl h
 | i :: t, x, y, h => .inr ⟨rfl, ltL_same t x y h⟩
theorem ltL_not : ∀ (a b : List Int), ltL a b → ¬ lexLe b a
 | [], _, h => h.elim
 | _ :: _, [], h => h.elim
 | i :: t, j :: u, h => by
  intro hl
  rcases h with h | ⟨rfl, h⟩
  ·
   rcases hl with hl | ⟨hl, _⟩ <;> omega
  ·
   rcases hl with hl | ⟨_, hl⟩
   ·
    omega
   ·
    exact ltL_not t u h hl
theorem pairwise_flat {r : List Int → List Int → Prop} (g : List Int → List (List Int)) : ∀ (l : List (List Int)), l.Pairwise r → (∀ o ∈ l, (g o).Pairwise r) → (∀ o ∈ l, ∀ o' ∈ l, r o o' → ∀ x ∈ g o, ∀ y ∈ g o', r x y) → (l.flatMap g).Pairwise r
 | [], _, _, _ => by simp
 | o :: t, h, h1, h2 => by
  obtain ⟨ha, hb⟩ := List.pairwise_cons.1 h
  rw [List.flatMap_cons, List.pairwise_append]
  refine ⟨h1 o (by simp), pairwise_flat g t hb (fun p hp => h1 p (by simp [hp])) (fun p hp q hq => h2 p (by simp [hp]) q (by simp [hq])), fun x hx y hy => ?_⟩
  obtain ⟨q, hq, hy⟩ := List.mem_flatMap.1 hy
  exact h2 o (by simp) q (by simp [hq]) (ha q hq) x hx y hy
theorem ordersI_sorted (n : Nat) (f : Int) : ∀ i, (ordersI n f i).Pairwise ltL
 | 0 => by simp [ordersI]
 | i + 1 => by
  have ih := ordersI_sorted n f i
  unfold ordersI
  split
  ·
   refine pairwise_flat _ _ ih (fun o _ => ?_) (fun o _ o' _ h x hx y hy => ?_)
   ·
    unfold extL
    rw [List.pairwise_map]
    refine List.Pairwise.imp (fun {a b} h => ltL_same o _ _ (by omega)) (List.Pairwise.filter _ (List.Pairwise.drop List.pairwise_lt_range))
   ·
    obtain ⟨a, _, _, _, rfl⟩ := (mem_extL n f o x).1 hx
    obtain ⟨b, _, _, _, rfl⟩ := (mem_extL n f o' y).1 hy
    exact ltL_app o o' _ _ h
  ·
   exact ih
section
variable {l0 : List S39} {l1 : List S37} {l2 : List (List Int)}
theorem ord0 (f : Int) (f0 : 0 ≤ f) (f1 : f < 32) (hn : l0.length ≤ 4) : ∀ (m i k : Nat), i + m = l0.length → 11000 * m + 20 ≤ k → talikref04_Orders.l0 k f (ordersI l0.length f i) (i : Int) l0 l1 l2 = some (ordersI l0.length f l0.length) := by
 intro m
 induction m with
 | zero =>
  intro i k hm hk
  obtain ⟨k, rfl⟩ : ∃ k', k = k' + 1 := ⟨k - 1, by omega⟩
  obtain rfl : i = l0.length := by omega
  unfold talikref04_Orders.l0
  rw [if_neg (by omega)]
 | succ m ih =>
  intro i k hm hk
  obtain ⟨k, rfl⟩ : ∃ k', k = k' + 1 := ⟨k - 1, by omega⟩
  have hlen := ordersI_length l0.length hn f i
  have h4 : (4 : Nat) ^ i ≤ 4 ^ 4 := Nat.pow_le_pow_right (by decide) (by omega)
  have hol : ∀ o ∈ ordersI l0.length f i, o.length ≤ 5 := fun o ho => by
   have h := ((ordersI_mem l0.length f i o).1 ho).2.2
   have h2 : ∀ n, (qar f n).length ≤ n := by
    intro n
    induction n with
    | zero => simp [qar]
    | succ n ih =>
     unfold qar
     split
     ·
      simp
      omega
     ·
      omega
   have := h2 i
   omega
  unfold talikref04_Orders.l0
  rw [if_pos (by omega), has_eq f f0 f1 i (by omega) k (by omega)]
  simp only [Option.bind_some]
  have hs : ordersI l0.length f (i + 1) = if bitB f i = true then (ordersI l0.length f i).flatMap fun o => extL l0.length f o 0 else ordersI l0.length f i := rfl
  cases hb : bitB f i with
  | true =>
   rw [if_pos rfl]
   rw [hb, if_pos rfl] at hs
   refine ord1 f f0 f1 (by omega) (ordersI l0.length f i) i (by omega) (by omega) hol (11000 * m + 20) (by omega) (ordersI l0.length f i).length 0 k [] (by omega) (by omega) (by simp; omega) (fun k hk => ?_)
   have h := ih (i + 1) k (by omega) hk
   rw [hs] at h
   simpa using h
  | false =>
   rw [if_neg (by decide), wsucc i (by omega)]
   have h := ih (i + 1) k (by omega) (by omega)
   rw [hs, hb, if_neg (by decide)] at h
   exact h
theorem orders_eq (f : Int) (f0 : 0 ≤ f) (f1 : f < 32) (hn : l0.length ≤ 4) (k : Nat) (hk : 44100 ≤ k) : talikref04_Orders.f k l0 l1 l2 f = some (ordersI l0.length f l0.length) :=
 ord0 f f0 f1 hn l0.length 0 k (by omega) (by omega)
theorem rdue_eq (hN : NetOk l0 l1 l2) (i : Int) (i0 : 0 ≤ i) (i1 : i < l0.length) (k : Nat) (hk : 230 ≤ k) : talikref04_Due.f k l0 l1 l2 i = some (dueI l0 l1 i) := by
 have hb := can_bd l0 l1 i
 have hh := hN.h1
 unfold talikref04_Due.f
 rw [rfreezes_eq hN i i0 i1 k hk]
 simp only [Option.bind_some]
 show (if canV l0 l1 i < 0 then some (l1.length : Int) else some (wrap64 (canV l0 l1 i - 1))) = _
 unfold dueI
 split
 ·
  rfl
 ·
  rw [wrap_id (by omega) (by omega)]
theorem rduesR_go (hN : NetOk l0 l1 l2) : ∀ (m j k : Nat), j + m = l0.length → m + 240 ≤ k → talikref04_Dues.l0 k ((List.range j).map fun i : Nat => dueI l0 l1 (i : Int)) (j : Int) l0 l1 l2 = some (duesI l0 l1) := by
 have hn := hN.n1
 intro m
 induction m with
 | zero =>
  intro j k hj hk
  obtain ⟨k, rfl⟩ : ∃ k', k = k' + 1 := ⟨k - 1, by omega⟩
  obtain rfl : j = l0.length := by omega
  unfold talikref04_Dues.l0
  rw [if_neg (by omega)]
  rfl
 | succ m ih =>
  intro j k hj hk
  obtain ⟨k, rfl⟩ : ∃ k', k = k' + 1 := ⟨k - 1, by omega⟩
  have hr := ih (j + 1) k (by omega) (by omega)
  rw [List.range_succ, List.map_append] at hr
  unfold talikref04_Dues.l0
  rw [if_pos (by omega), rdue_eq hN _ (by omega) (by omega) k (by omega)]
  simp only [Option.bind_some]
  rw [if_pos (by simp; omega), wsucc j (by omega)]
  exact hr
theorem rduesR_eq (hN : NetOk l0 l1 l2) (k : Nat) (hk : 250 ≤ k) : talikref04_Dues.f k l0 l1 l2 = some (duesI l0 l1) := by
 have hn := hN.n1
 exact rduesR_go hN l0.length 0 k (by omega) (by omega)
end
theorem loops_same {n : Nat} {f : Int} (hn : n ≤ 5) (f0 : 0 ≤ f) (f1 : f < ((2 ^ n : Nat) : Int)) : qar f n = qar f 5 := by
 obtain ⟨x, rfl⟩ := Int.eq_ofNat_of_zero_le f0
 have h := loops_table
 rw [List.all_eq_true] at h
 have h2 := h n (by simp; omega)
 rw [List.all_eq_true] at h2
 have h3 := h2 x (by rw [List.mem_range]; omega)
 simp only [decide_eq_true_eq] at h3
 exact h3.symm
structure RBest (s : List Int → Int) (p : List (List Int)) (x : Way) : Prop where
 no : x.2.2 = false → ∀ o ∈ p, s o < 0
 mem : x.2.2 = true → x.1 ∈ p ∧ s x.1 = x.2.1 ∧ 0 ≤ x.2.1
 max : x.2.2 = true → ∀ o ∈ p, s o ≤ x.2.1
 first : x.2.2 = true → ∀ o ∈ p, s o = x.2.1 → x.1 = o ∨ ltL x.1 o
theorem rbest_step (s : List Int → Int) (p : List (List Int)) (x : Way) (h : RBest s p x) (o : List Int) (ho : ∀ q ∈ p, ltL q o) : RBest s (p ++ [o]) (if s o ≥ 0 ∧ (x.2.2 = false ∨ s o > x.2.1) then (o, s o, true) else x) := by
 by_cases hc : s o ≥ 0 ∧ (x.2.2 = false ∨ s o > x.2.1)
 ·
  rw [if_pos hc]
  obtain ⟨h1, h2⟩ := hc
  have hle : ∀ q ∈ p, s q < s o := fun q hq => by
   rcases h2 with h2 | h2
   ·
    have := h.no h2 q hq
    omega
   ·
    cases hx : x.2.2 with
    | false => have := h.no hx q hq; omega
    | true => have := h.max hx q hq; omega
  refine ⟨fun h => by simp at h, fun _ => ⟨by simp, rfl, h1⟩, fun _ q hq => ?_, fun _ q hq he => ?_⟩
  ·
   rcases List.mem_append.1 hq with hq | hq
   ·
    exact Int.le_of_lt (hle q hq)
   ·
    rw [List.mem_singleton.1 hq]
    exact Int.le_refl _
  ·
   rcases List.mem_append.1 hq with hq | hq
   ·
    have := hle q hq
    have he' : s q = s o := he
    omega
   ·
    exact .inl (List.mem_singleton.1 hq).symm
 ·
  rw [if_neg hc]
  refine ⟨fun hx q hq => ?_, fun hx => ⟨by simp [(h.mem hx).1], (h.mem hx).2⟩, fun hx q hq => ?_, fun hx q hq he => ?_⟩
  ·
   rcases List.mem_append.1 hq with hq | hq
   ·
    exact h.no hx q hq
   ·
    rw [List.mem_singleton.1 hq]
    by_cases h0 : s o ≥ 0
    ·
     exact absurd ⟨h0, .inl hx⟩ hc
    ·
     omega
  ·
   rcases List.mem_append.1 hq with hq | hq
   ·
    exact h.max hx q hq
   ·
    rw [List.mem_singleton.1 hq]
    have h2 := (h.mem hx).2.2
    by_cases h0 : s o > x.2.1
    ·
     exact absurd ⟨by omega, .inr h0⟩ hc
    ·
     omega
  ·
   rcases List.mem_append.1 hq with hq | hq
   ·
    exact h.first hx q hq he
   ·
    rw [List.mem_singleton.1 hq]
    exact .inr (ho _ (h.mem hx).1)
theorem rbest_all (s : List Int → Int) (S : List Int → Option Int) : ∀ (l p : List (List Int)) (x : Way), (∀ o ∈ l, S o = some (s o)) → RBest s p x → (p ++ l).Pairwise ltL → ∃ y, bestR S l x = some y ∧ RBest s (p ++ l) y
 | [], p, x, _, h, _ => ⟨x, rfl, by simpa using h⟩
 | o :: t, p, x, hS, h, hp => by
  have hp' : ((p ++ [o]) ++ t).Pairwise ltL := by simpa using hp
  have ho : ∀ q ∈ p, ltL q o := fun q hq => (List.pairwise_append.1 hp).2.2 q hq o (by simp)
  obtain ⟨y, h1, h2⟩ := rbest_all s S t (p ++ [o]) _ (fun q hq => hS q (by simp [hq])) (rbest_step s p x h o ho) hp'
  refine ⟨y, ?_, by simpa using h2⟩
  unfold bestR
  rw [hS o (by simp)]
  exact h1
section
variable {l0 : List S39} {l1 : List S37} {l2 : List (List Int)}
theorem rorder_eq (hv : validB l0 l1 l2 = true) (hn4 : l0.length ≤ 4) (a f : Int) (a0 : 0 ≤ a) (a1 : a ≤ l0.length) (hf : inFault l0 f = true) (k : Nat) (hk : 44100 ≤ k) :
  ∃ y : Way, talikref04_Order.f k l0 l1 l2 a f = some y ∧ y.2.2 = (orderV l0 l1 l2 a f).2.2 ∧ (y.2.2 = true → y.1 = (orderV l0 l1 l2 a f).1 ∧ y.2.1 = (orderV l0 l1 l2 a f).2.1) := by
 have hN := net_ok hv
 have hB := bok hN
 have hn0 := hN.n0
 have hfr := fault_rng hf
 have h32 : f < 32 := by
  have := hfr.2
  have h2 : 2 ^ l0.length ≤ 2 ^ 5 := Nat.pow_le_pow_right (n := 2) (by decide) (by omega)
  omega
 have hsok := sok hN a0 a1 hf
 have hDl : (duesI l0 l1).length = l0.length := by simp [duesI]
 have hl5 := loops_same (n := l0.length) (by omega) hfr.1 hfr.2
 have hmem : ∀ o, o ∈ ordersI l0.length f l0.length ↔ o.Perm (qar f 5) := fun o => by
  rw [ordersI_mem]
  unfold setL
  rw [hl5]
  constructor
  ·
   rintro ⟨h1, h2, h3⟩
   exact perm_of o _ h1 h2 h3
  ·
   intro h
   exact ⟨h.nodup_iff.2 (nodup_loopsOf f _), fun x hx => h.mem_iff.1 hx, h.length_eq⟩
 have hin : ∀ o : List Int, o.Perm (qar f 5) → ∀ x ∈ o, 0 ≤ x ∧ x < l0.length := fun o ho x hx => hsok.lo x ((List.Perm.mem_iff ho).1 hx)
 have hlen8 : ∀ o : List Int, o.Perm (qar f 5) → o.length ≤ 8 := fun o ho => by
  have h1 := ho.length_eq
  have h2 := cnt_le f
  unfold cntB at h2
  omega
 obtain ⟨y, hy, hR⟩ := rbest_all (fun o => sl l0 l2 (duesI l0 l1) l1.length a 0 o) (fun o => talikref04_Slack.f k l0 l1 l2 (duesI l0 l1) a o) (ordersI l0.length f l0.length) [] ([], 0, false)
  (fun o ho => slack_eq hN hB hDl o (hlen8 o ((hmem o).1 ho)) (hin o ((hmem o).1 ho)) a a0 a1 k (by omega)) ⟨fun _ q hq => by simp at hq, fun h => by simp at h, fun h => by simp at h, fun h => by simp at h⟩ (by simpa using ordersI_sorted l0.length f l0.length)
 rw [List.nil_append] at hR
 refine ⟨y, ?_, ?_⟩
 ·
  unfold talikref04_Order.f
  rw [orders_eq f hfr.1 h32 hn4 k hk, rduesR_eq hN k (by omega)]
  exact hy
 ·
  obtain ⟨bA, bB⟩ := best_ok hB _ ⟨a, 0, f⟩ hsok (Nat.le_refl _)
  cases hr : (orderV l0 l1 l2 a f).2.2 with
  | false =>
   have hb := bB hr
   have hno : y.2.2 = false := by
    cases hy2 : y.2.2 with
    | false => rfl
    | true =>
     obtain ⟨m1, m2, m3⟩ := hR.mem hy2
     have := hb _ ((hmem _).1 m1)
     have m2' : sl l0 l2 (duesI l0 l1) l1.length a 0 y.1 = y.2.1 := m2
     have h' : sl l0 l2 (duesI l0 l1) l1.length a 0 y.1 < 0 := this
     omega
   exact ⟨hno, fun h => by rw [hno] at h; cases h⟩
  | true =>
   obtain ⟨s0, _, _, smax⟩ := bA hr
   obtain ⟨o1, o2, o3⟩ := best_order hB _ hsok hr
   have hs0 : 0 ≤ (orderV l0 l1 l2 a f).2.1 := s0
   have ho1 : (orderV l0 l1 l2 a f).1.Perm (qar f 5) := o1
   have ho2 : sl l0 l2 (duesI l0 l1) l1.length a 0 (orderV l0 l1 l2 a f).1 = (orderV l0 l1 l2 a f).2.1 := o2
   have hom := (hmem _).2 ho1
   cases hy2 : y.2.2 with
   | false =>
    have h' : sl l0 l2 (duesI l0 l1) l1.length a 0 (orderV l0 l1 l2 a f).1 < 0 := hR.no hy2 _ hom
    omega
   | true =>
    refine ⟨rfl, fun _ => ?_⟩
    obtain ⟨m1, m2, m3⟩ := hR.mem hy2
    have m2' : sl l0 l2 (duesI l0 l1) l1.length a 0 y.1 = y.2.1 := m2
    have hyp := (hmem _).1 m1
    have hmx : sl l0 l2 (duesI l0 l1) l1.length a 0 (orderV l0 l1 l2 a f).1 ≤ y.2.1 := hR.max hy2 _ hom
    have hmx2 : sl l0 l2 (duesI l0 l1) l1.length a 0 y.1 ≤ (orderV l0 l1 l2 a f).2.1 := smax _ hyp
    have he : y.2.1 = (orderV l0 l1 l2 a f).2.1 := by omega
    refine ⟨?_, he⟩
    rcases hR.first hy2 _ hom (by show sl l0 l2 (duesI l0 l1) l1.length a 0 (orderV l0 l1 l2 a f).1 = y.2.1; omega) with h | h
    ·
     exact h
    ·
     have hle : lexLe (orderV l0 l1 l2 a f).1 y.1 := o3 _ hyp (by show sl l0 l2 (duesI l0 l1) l1.length a 0 y.1 = (orderV l0 l1 l2 a f).2.1; omega)
     exact absurd hle (ltL_not _ _ h)
end
end Go.Proofs.Ytipphcjgdebecaa.PA
namespace Go.Proofs.Ytipphcjgdebecaa.PA
open Go.RowKit Go.Proofs.YtipphcjgdebecaaW.PrintWords Go.Proofs.YtipphcjgdebecaaW.PrintLast Go.Proofs.YtipphcjgdebecaaW.PrintMore
attribute [local go_sem] qaw qay max_two min_two qas qat qax qaz
def talikref04_Weak.l0 : Nat → Int → List Int → Int → List (S39) → List (S37) → List (List Int) → Option (Int)
 | 0, _, _, _, _, _, _ => none
 | k + 1, x1, x2, x7, x377000, x377001, x377002 => if x7 < (x2.length : Int) then (if 0 ≤ x7 then ((talikref04_Order.f k x377000 x377001 x377002 x1 (rd x2 x7)).bind fun bt378 => (if bt378.2.2 = true then (talikref04_Weak.l0 k x1 x2 (wrap64 (x7 + 1)) x377000 x377001 x377002) else (some x7))) else (none)) else (some (-1))
def talikref04_Weak.f (k : Nat) (l0_0 : List (S39)) (l0_1 : List (S37)) (l0_2 : List (List Int)) (a1 : Int) (l2 : List Int) : Option (Int) := talikref04_Weak.l0 k a1 l2 0 l0_0 l0_1 l0_2
def talikref04_Weak.T4 : Bool × List (List Nat × List Nat) := (true, [([], []), ([], []), ([], []), ([], []), ([2, 3], [2, 3]), ([4], [4]), ([0, 1, 5], [0, 1, 5]), ([6], [6]), ([7], [7]), ([7], [7]), ([7], [7]), ([8, 6, 0, 1, 2, 3, 4, 5, 6, 7, 8], [8]), ([9, 11, 0, 1, 2, 3, 4, 5, 6, 7, 8, 9, 11], [9]), ([10, 12, 0, 1, 2, 3, 4, 5, 6, 7, 8, 9, 10, 11, 12], [10])])
def talikref04_Weak.B4 : List Nat := [0, 0, 0, 0, 12, 28, 63, 127, 255, 255, 255, 511, 3071, 8191]
theorem talikref04_Weak.tab4 : rtab .any (opsOf Try.f45 4) = talikref04_Weak.T4 := by kernel_rfl
theorem talikref04_Weak.bits4 : waitsOk talikref04_Weak.T4.2 talikref04_Weak.B4 = true := by kernel_rfl
theorem talikref04_Weak.calls (k : Nat) (A0_0 : Option Addr) (c0_0 : Nat) (l0_0 : List (S39)) (A0_1 : Option Addr) (c0_1 : Nat) (l0_1 : List (S37)) (A0_2 : Option Addr) (c0_2 : Nat) (l0_2 : List (List Int)) (a1 : Int) (A2 : Option Addr) (c2 : Nat) (l2 : List Int) (r : Int) (w : World) (hr0_0 : Kd.C k39 w A0_0 l0_0.length l0_0) (hc0_0 : l0_0.length ≤ c0_0) (hr0_1 : Kd.C k37 w A0_1 l0_1.length l0_1) (hc0_1 : l0_1.length ≤ c0_1) (hr0_2 : Kd.C (Kd.slice 3 (Kd.int .i64)) w A0_2 l0_2.length l0_2) (hc0_2 : l0_2.length ≤ c0_2) (hr2 : Kd.C (Kd.int .i64) w A2 l2.length l2) (hc2 : l2.length ≤ c2) (h : talikref04_Weak.f k l0_0 l0_1 l0_2 a1 l2 = some r) :
  Calls Try.prog 45 #[.agg #[.slice A0_0 l0_0.length c0_0, .slice A0_1 l0_1.length c0_1, .slice A0_2 l0_2.length c0_2], .int .i64 a1, .slice A2 l2.length c2] w fun e w' => e = .returned (.int .i64 r) ∧ Below w.heap.size w w' := by
 have hu26 := Try.underlying26
 have HR0_0 := qab.mk hr0_0
 have HC0_0 := qab.mk hc0_0
 clear hr0_0 hc0_0
 have HR0_1 := qab.mk hr0_1
 have HC0_1 := qab.mk hc0_1
 clear hr0_1 hc0_1
 have HR0_2 := qab.mk hr0_2
 have HC0_2 := qab.mk hc0_2
 clear hr0_2 hc0_2
 have HR2 := qab.mk hr2
 have HC2 := qab.mk hc2
 clear hr2 hc2
 have HB := qab.mk (Below.refl w.heap.size w)
 have H : (talikref04_Weak.l0 k a1 l2 0 l0_0 l0_1 l0_2) = some r := h
 clear h
 have H' := qab.mk H
 clear H
 go_enter Try.func45, Try.ntmps45
 go_wp2_with (first | ((with_reducible refine qan (N := 3) rfl ?_); refine qam ?hg (N := 3) ?hd (cs := #[.slice A0_0 l0_0.length c0_0, .slice A0_1 l0_1.length c0_1, .slice A0_2 l0_2.length c0_2]) (t := 26) ?hr ?_; (case hd => rfl); (case hg => rfl); (case hr => first | (go_simp; done) | (go_simp; rfl)); intro gb376 hg w4 hbox hb; have n0_ := qab.mk (qad (by repeat (first | (with_reducible first | exact HB.out | apply qaf | apply qae | apply qah) | exact HB.out)) hb); have n1_ := qab.mk (hbox); have n2_ := qab.mk ((by rw [hg]; exact (qap (by repeat (first | (with_reducible first | exact HB.out | apply qaf | apply qae | apply qah) | exact HB.out))) : w.heap.size ≤ gb376)); have n3_ := qab.mk ((by rw [hg]; exact (qap (by repeat (first | (with_reducible first | exact HB.out | apply qaf | apply qae | apply qah) | exact HB.out))) : w.heap.size ≤ gb376)); clear HB; have HB := n0_; have BK376 := n1_; have GW376 := n2_; have GE376 := n3_; clear n0_ n1_ n2_ n3_; clear hb hbox hg))
 go_loopg [7] k (fun kq v7 w' => ∃ (x7_1 : Int), v7 = .int .i64 x7_1 ∧ qab (talikref04_Weak.l0 kq a1 l2 x7_1 l0_0 l0_1 l0_2 = some r) ∧ qab (kq ≤ k) ∧ qab (w'.heap[gb376]? = some (.cells #[(.slice A0_0 l0_0.length c0_0), (.slice A0_1 l0_1.length c0_1), (.slice A0_2 l0_2.length c0_2)] 26 (0, 0))) ∧ qab (Below w.heap.size w w'))
 case atStart => exact ⟨(0), (by first | rfl | (simp; done) | (simp [*]; done)), H', ⟨Nat.le_refl _⟩, ⟨by (with_reducible repeat (first | refine qao ?_ _ | refine qaq ?_ | refine qak ?_ _)); exact BK376.out⟩, ⟨by repeat (first | (with_reducible first | exact HB.out | apply qaf | apply qae | apply qah | refine qai ?_ GE376.out) | exact HB.out)⟩⟩
 case round =>
  clear H'
  try clear c2
  try clear p2
  try clear c4
  obtain ⟨x7_1, rfl, HA, HK1, BK376, HB⟩ := hrel
  cases gk with
  | zero => exact absurd HA.out (by simp [talikref04_Weak.l0])
  | succ k1 =>
   have H := HA.out
   clear HA
   simp only [talikref04_Weak.l0] at H
   by_cases c5 : x7_1 < (l2.length : Int)
   ·
    rw [if_pos c5] at H
    have c5b0 : decide (x7_1 < (l2.length : Int)) = true := decide_eq_true c5
    clear c5
    by_cases c6 : 0 ≤ x7_1
    ·
     rw [if_pos c6] at H
     have c6b0 : decide (0 ≤ x7_1) = true := decide_eq_true c6
     clear c6
     replace H := Option.bind_eq_some_iff.mp H
     obtain ⟨⟨t378, t381, t382⟩, A70, H⟩ := H
     replace H : (if t382 = true then (talikref04_Weak.l0 k1 a1 l2 (wrap64 (x7_1 + 1)) l0_0 l0_1 l0_2) else (some x7_1)) = some r := H
     have A7 := qab.mk A70
     clear A70
     by_cases c8 : t382 = true
     ·
      subst c8
      have H1 : (talikref04_Weak.l0 k1 a1 l2 (wrap64 (x7_1 + 1)) l0_0 l0_1 l0_2) = some r := by rw [if_pos rfl] at H; exact H
      clear H
      have H := H1
      clear H1
      have H' := qab.mk H
      clear H
      try go_wp2
      have n0_ := qab.mk (qaq BK376.out)
      have n1_ := qab.mk (qah HB.out)
      clear BK376
      clear HB
      have BK376 := n0_
      have HB := n1_
      clear n0_ n1_
      have p377 : 0 ≤ (x7_1 : Int) := of_decide_eq_true (by first | (with_reducible assumption) | assumption)
      have q377 : x7_1 < (l2.length : Int) := of_decide_eq_true (by first | (with_reducible assumption) | assumption)
      obtain ⟨ad377, e377, hx377_0⟩ := Kd.at_int HR2.out x7_1 p377 q377
      have hw377_0 := hx377_0
      cases e377
      replace hx377_0 := (HB.out.cell (World.block_lt_of_cell? w _ hx377_0)).trans hx377_0
      replace p377 := eq_true p377
      replace q377 := eq_true q377
      refine start_ (n := 14) (S := fun w' => w'.cell? ⟨gb376, 0, none⟩ = some (.slice A0_0 l0_0.length c0_0) ∧ w'.cell? ⟨gb376, 1, none⟩ = some (.slice A0_1 l0_1.length c0_1) ∧ w'.cell? ⟨gb376, 2, none⟩ = some (.slice A0_2 l0_2.length c0_2) ∧ w'.cell? (ad377.add (x7_1).toNat) = some (.int .i64 (rd l2 x7_1))) (ds := []) (msk 14 0) (by kernel_rfl) rfl rfl ⟨(qaa BK376.out 0).trans rfl, (qaa BK376.out 1).trans rfl, (qaa BK376.out 2).trans rfl, ((HB.out.cell (World.block_lt_of_cell? w _ hw377_0)).trans hw377_0)⟩ (fun hHeld => ?_); refine with_tabW talikref04_Weak.tab4 talikref04_Weak.bits4 (fun HT_ HW_ => ?_)
      generalize wr.drew = w9 at BK376 HB hx377_0 hHeld ⊢
      refine pure_ (i := 1) (N := some 19) (v := ?_) (a' := ?_) #[false, true, false, false, false, false, false, false, false, false, false, false, false, false] rfl rfl (any_of HT_.out (by kernel_rfl)) (fun _ _ _ h => h) (Or.inl ⟨by rfl, ?_⟩) ?_ ?_
      rotate_left
      ·
       intro w'
       go_simp
       with_reducible rfl
      rotate_left
      ·
       simp only [Act.put, qzA, qzB, qzC, i64_w, i32_w]
       rfl
      refine pure_ (i := 2) (N := some 20) (v := ?_) (a' := ?_) #[false, true, true, false, false, false, false, false, false, false, false, false, false, false] rfl rfl (any_of HT_.out (by kernel_rfl)) (fun _ _ _ h => h) (Or.inl ⟨by rfl, ?_⟩) ?_ ?_
      rotate_left
      ·
       intro w'
       go_simp
       with_reducible rfl
      rotate_left
      ·
       simp only [Act.put, qzA, qzB, qzC, i64_w, i32_w]
       rfl
      refine pure_ (i := 3) (N := some 21) (v := ?_) (a' := ?_) #[false, true, true, true, false, false, false, false, false, false, false, false, false, false] rfl rfl (any_of HT_.out (by kernel_rfl)) (fun _ _ _ h => h) (Or.inl ⟨by rfl, ?_⟩) ?_ ?_
      rotate_left
      ·
       intro w'
       go_simp
       with_reducible rfl
      rotate_left
      ·
       simp only [Act.put, qzA, qzB, qzC, i64_w, i32_w]
       rfl
      refine pure_ (i := 4) (N := some 22) (v := ?_) (a' := ?_) #[false, true, true, true, true, false, false, false, false, false, false, false, false, false] rfl rfl (any_of HT_.out (by kernel_rfl)) (fun _ _ _ h => h) (Or.inl ⟨by rfl, ?_⟩) ?_ ?_
      rotate_left
      ·
       intro w'
       go_simp
       with_reducible rfl
      rotate_left
      ·
       simp only [Act.put, qzA, qzB, qzC, i64_w, i32_w]
       rfl
      refine take_ (i := 0) (N := some 18) (v := ?_) (a' := ?_) (msk 14 5) rfl rfl (take_ofW HT_.out HW_.out (by kernel_rfl)) (fun _ _ _ h => h) (Or.inl ⟨by rfl, ?_⟩) hHeld ?_ ?_
      rotate_left
      ·
       rintro w' ⟨s0, s1, s2, s3⟩
       go_simp
       with_reducible rfl
      rotate_left
      ·
       simp only [Act.put, qzA, qzB, qzC, i64_w, i32_w]
       rfl
      refine take_ (i := 5) (N := some 23) (v := ?_) (a' := ?_) (msk 14 6) rfl rfl (take_ofW HT_.out HW_.out (by kernel_rfl)) (fun _ _ _ h => h) (Or.inl ⟨by rfl, ?_⟩) hHeld ?_ ?_
      rotate_left
      ·
       rintro w' ⟨s0, s1, s2, s3⟩
       go_simp
       with_reducible rfl
      rotate_left
      ·
       simp only [Act.put, qzA, qzB, qzC, i64_w, i32_w]
       rfl
      refine one_ (i := 6) (N := some 24) (msk 14 7) rfl rfl (one_of HT_.out (by kernel_rfl)) (by decide) (fun K hK => ?_)
      refine goes_ Try.func27 (by kernel_rfl) rfl #[.agg #[.slice A0_0 l0_0.length c0_0, .slice A0_1 l0_1.length c0_1, .slice A0_2 l0_2.length c0_2], .int .i64 a1, .int .i64 (rd l2 x7_1)] (by rfl) rfl rfl (by (try simp only [List.map_toArray, List.map_cons, List.map_nil]); first | done | rfl | (simp only [List.length_drop, List.length_take]; rfl)) ?_
      with_reducible refine (talikref04_Order.calls k1 _ _ l0_0 _ _ l0_1 _ _ l0_2 a1 (rd l2 x7_1) t378 t381 true _ ?side1 ?side2 ?side3 ?side4 ?side5 ?side6 A7.out).mono ?_
      (case side1 => repeat (first | exact (Kd.qaj HR0_0.out HB.out) | (with_reducible refine Kd.C_alloc ?_ _) | (with_reducible refine Kd.C_drewN ?_ _) | (with_reducible refine Kd.C_drew ?_)))
      (case side2 => exact HC0_0.out)
      (case side3 => repeat (first | exact (Kd.qaj HR0_1.out HB.out) | (with_reducible refine Kd.C_alloc ?_ _) | (with_reducible refine Kd.C_drewN ?_ _) | (with_reducible refine Kd.C_drew ?_)))
      (case side4 => exact HC0_1.out)
      (case side5 => repeat (first | exact (Kd.qaj HR0_2.out HB.out) | (with_reducible refine Kd.C_alloc ?_ _) | (with_reducible refine Kd.C_drewN ?_ _) | (with_reducible refine Kd.C_drew ?_)))
      (case side6 => exact HC0_2.out)
      rintro e w10 ⟨v379, rfl, ho0, hb⟩
      refine ⟨_, rfl, ?_⟩
      have n0_ := qab.mk (Kd.R_lower ho0 (qap (by repeat (first | (with_reducible first | exact HB.out | apply qaf | apply qae | apply qah | refine qai ?_ GE376.out) | exact HB.out))))
      have n1_ := qab.mk (qag (g := gb376) (o := .cells #[.slice A0_0 l0_0.length c0_0, .slice A0_1 l0_1.length c0_1, .slice A0_2 l0_2.length c0_2] 26 (0, 0)) (by (with_reducible repeat (first | refine qao ?_ _ | refine qaq ?_ | refine qak ?_ _)); exact BK376.out) hb)
      have n2_ := qab.mk (qad (by repeat (first | (with_reducible first | exact HB.out | apply qaf | apply qae | apply qah | refine qai ?_ GE376.out) | exact HB.out)) hb)
      clear BK376
      clear HB
      have HO380 := n0_
      have BK376 := n1_
      have HB := n2_
      clear n0_ n1_ n2_
      (try clear hb)
      (try clear hb2)
      (try clear hk)
      (try clear hi)
      (try clear ho0)
      refine hK.out _ _ ⟨(qaa BK376.out 0).trans rfl, (qaa BK376.out 1).trans rfl, (qaa BK376.out 2).trans rfl, ((HB.out.cell (World.block_lt_of_cell? w _ hw377_0)).trans hw377_0)⟩ (fun hHeld => ?_)
      clear hK K
      refine norm_ (a' := ?_) ?_ ?_
      rotate_left
      ·
       show Act.put _ (some 24) _ = _
       simp only [Act.put, qzA, qzB, qzC, i64_w, i32_w]
       rfl
      refine pure_ (i := 7) (N := some 17) (v := ?_) (a' := ?_) (msk 14 8) rfl rfl (any_of HT_.out (by kernel_rfl)) (fun _ _ _ h => h) (Or.inl ⟨by rfl, ?_⟩) ?_ ?_
      rotate_left
      ·
       intro w'
       go_simp
       with_reducible rfl
      rotate_left
      ·
       simp only [Act.put, qzA, qzB, qzC, i64_w, i32_w]
       rfl
      refine pure_ (i := 8) (N := some 25) (v := ?_) (a' := ?_) (msk 14 9) rfl rfl (any_of HT_.out (by kernel_rfl)) (fun _ _ _ h => h) (Or.inl ⟨by rfl, ?_⟩) ?_ ?_
      rotate_left
      ·
       intro w'
       go_simp
       with_reducible rfl
      rotate_left
      ·
       simp only [Act.put, qzA, qzB, qzC, i64_w, i32_w]
       rfl
      refine pure_ (i := 9) (N := some 26) (v := ?_) (a' := ?_) (msk 14 10) rfl rfl (any_of HT_.out (by kernel_rfl)) (fun _ _ _ h => h) (Or.inl ⟨by rfl, ?_⟩) ?_ ?_
      rotate_left
      ·
       intro w'
       go_simp
       with_reducible rfl
      rotate_left
      ·
       simp only [Act.put, qzA, qzB, qzC, i64_w, i32_w]
       rfl
      refine pure_ (i := 10) (N := some 27) (v := ?_) (a' := ?_) (msk 14 11) rfl rfl (any_of HT_.out (by kernel_rfl)) (fun _ _ _ h => h) (Or.inl ⟨by rfl, ?_⟩) ?_ ?_
      rotate_left
      ·
       intro w'
       go_simp
       with_reducible rfl
      rotate_left
      ·
       simp only [Act.put, qzA, qzB, qzC, i64_w, i32_w]
       rfl
      refine pure_ (i := 11) (N := some 8) (v := ?_) (a' := ?_) (msk 14 12) rfl rfl (any_of HT_.out (by kernel_rfl)) (fun _ _ _ h => h) (Or.inl ⟨by rfl, ?_⟩) ?_ ?_
      rotate_left
      ·
       intro w'
       go_simp
       with_reducible rfl
      rotate_left
      ·
       simp only [Act.put, qzA, qzB, qzC, i64_w, i32_w]
       rfl
      refine pure_ (i := 12) (N := some 9) (v := ?_) (a' := ?_) (msk 14 13) rfl rfl (any_of HT_.out (by kernel_rfl)) (fun _ _ _ h => h) (Or.inl ⟨by rfl, ?_⟩) ?_ ?_
      rotate_left
      ·
       intro w'
       go_simp
       with_reducible rfl
      rotate_left
      ·
       simp only [Act.put, qzA, qzB, qzC, i64_w, i32_w]
       rfl
      refine pure_ (i := 13) (N := some 10) (v := ?_) (a' := ?_) (msk 14 14) rfl rfl (any_of HT_.out (by kernel_rfl)) (fun _ _ _ h => h) (Or.inl ⟨by rfl, ?_⟩) ?_ ?_
      rotate_left
      ·
       intro w'
       go_simp
       with_reducible rfl
      rotate_left
      ·
       simp only [Act.put, qzA, qzB, qzC, i64_w, i32_w]
       rfl
      refine done_ (done_of HT_.out (by kernel_rfl)) ?_
      try go_wp2
      go_roundg k1
      case measure => have := HK1.out; omega
      case rel => exact ⟨(wrap64 (x7_1 + 1)), (by first | rfl | (simp; done) | (simp [*]; done)), H', ⟨by have := HK1.out; omega⟩, ⟨by (with_reducible repeat (first | refine qao ?_ _ | refine qaq ?_ | refine qak ?_ _)); exact BK376.out⟩, ⟨by repeat (first | (with_reducible first | exact HB.out | apply qaf | apply qae | apply qah | refine qai ?_ GE376.out) | exact HB.out)⟩⟩
     ·
      replace c8 := Bool.eq_false_iff.mpr c8
      subst c8
      have H1 : (some x7_1) = some r := by rw [if_neg (show ¬ (false = true) by decide)] at H; exact H
      clear H
      have H := H1
      clear H1
      obtain rfl := Option.some.inj H
      try go_wp2
      have n0_ := qab.mk (qaq BK376.out)
      have n1_ := qab.mk (qah HB.out)
      clear BK376
      clear HB
      have BK376 := n0_
      have HB := n1_
      clear n0_ n1_
      have p377 : 0 ≤ (x7_1 : Int) := of_decide_eq_true (by first | (with_reducible assumption) | assumption)
      have q377 : x7_1 < (l2.length : Int) := of_decide_eq_true (by first | (with_reducible assumption) | assumption)
      obtain ⟨ad377, e377, hx377_0⟩ := Kd.at_int HR2.out x7_1 p377 q377
      have hw377_0 := hx377_0
      cases e377
      replace hx377_0 := (HB.out.cell (World.block_lt_of_cell? w _ hx377_0)).trans hx377_0
      replace p377 := eq_true p377
      replace q377 := eq_true q377
      refine start_ (n := 14) (S := fun w' => w'.cell? ⟨gb376, 0, none⟩ = some (.slice A0_0 l0_0.length c0_0) ∧ w'.cell? ⟨gb376, 1, none⟩ = some (.slice A0_1 l0_1.length c0_1) ∧ w'.cell? ⟨gb376, 2, none⟩ = some (.slice A0_2 l0_2.length c0_2) ∧ w'.cell? (ad377.add (x7_1).toNat) = some (.int .i64 (rd l2 x7_1))) (ds := []) (msk 14 0) (by kernel_rfl) rfl rfl ⟨(qaa BK376.out 0).trans rfl, (qaa BK376.out 1).trans rfl, (qaa BK376.out 2).trans rfl, ((HB.out.cell (World.block_lt_of_cell? w _ hw377_0)).trans hw377_0)⟩ (fun hHeld => ?_); refine with_tabW talikref04_Weak.tab4 talikref04_Weak.bits4 (fun HT_ HW_ => ?_)
      generalize wr.drew = w11 at BK376 HB hx377_0 hHeld ⊢
      refine pure_ (i := 1) (N := some 19) (v := ?_) (a' := ?_) #[false, true, false, false, false, false, false, false, false, false, false, false, false, false] rfl rfl (any_of HT_.out (by kernel_rfl)) (fun _ _ _ h => h) (Or.inl ⟨by rfl, ?_⟩) ?_ ?_
      rotate_left
      ·
       intro w'
       go_simp
       with_reducible rfl
      rotate_left
      ·
       simp only [Act.put, qzA, qzB, qzC, i64_w, i32_w]
       rfl
      refine pure_ (i := 2) (N := some 20) (v := ?_) (a' := ?_) #[false, true, true, false, false, false, false, false, false, false, false, false, false, false] rfl rfl (any_of HT_.out (by kernel_rfl)) (fun _ _ _ h => h) (Or.inl ⟨by rfl, ?_⟩) ?_ ?_
      rotate_left
      ·
       intro w'
       go_simp
       with_reducible rfl
      rotate_left
      ·
       simp only [Act.put, qzA, qzB, qzC, i64_w, i32_w]
       rfl
      refine pure_ (i := 3) (N := some 21) (v := ?_) (a' := ?_) #[false, true, true, true, false, false, false, false, false, false, false, false, false, false] rfl rfl (any_of HT_.out (by kernel_rfl)) (fun _ _ _ h => h) (Or.inl ⟨by rfl, ?_⟩) ?_ ?_
      rotate_left
      ·
       intro w'
       go_simp
       with_reducible rfl
      rotate_left
      ·
       simp only [Act.put, qzA, qzB, qzC, i64_w, i32_w]
       rfl
      refine pure_ (i := 4) (N := some 22) (v := ?_) (a' := ?_) #[false, true, true, true, true, false, false, false, false, false, false, false, false, false] rfl rfl (any_of HT_.out (by kernel_rfl)) (fun _ _ _ h => h) (Or.inl ⟨by rfl, ?_⟩) ?_ ?_
      rotate_left
      ·
       intro w'
       go_simp
       with_reducible rfl
      rotate_left
      ·
       simp only [Act.put, qzA, qzB, qzC, i64_w, i32_w]
       rfl
      refine take_ (i := 0) (N := some 18) (v := ?_) (a' := ?_) (msk 14 5) rfl rfl (take_ofW HT_.out HW_.out (by kernel_rfl)) (fun _ _ _ h => h) (Or.inl ⟨by rfl, ?_⟩) hHeld ?_ ?_
      rotate_left
      ·
       rintro w' ⟨s0, s1, s2, s3⟩
       go_simp
       with_reducible rfl
      rotate_left
      ·
       simp only [Act.put, qzA, qzB, qzC, i64_w, i32_w]
       rfl
      refine take_ (i := 5) (N := some 23) (v := ?_) (a' := ?_) (msk 14 6) rfl rfl (take_ofW HT_.out HW_.out (by kernel_rfl)) (fun _ _ _ h => h) (Or.inl ⟨by rfl, ?_⟩) hHeld ?_ ?_
      rotate_left
      ·
       rintro w' ⟨s0, s1, s2, s3⟩
       go_simp
       with_reducible rfl
      rotate_left
      ·
       simp only [Act.put, qzA, qzB, qzC, i64_w, i32_w]
       rfl
      refine one_ (i := 6) (N := some 24) (msk 14 7) rfl rfl (one_of HT_.out (by kernel_rfl)) (by decide) (fun K hK => ?_)
      refine goes_ Try.func27 (by kernel_rfl) rfl #[.agg #[.slice A0_0 l0_0.length c0_0, .slice A0_1 l0_1.length c0_1, .slice A0_2 l0_2.length c0_2], .int .i64 a1, .int .i64 (rd l2 x7_1)] (by rfl) rfl rfl (by (try simp only [List.map_toArray, List.map_cons, List.map_nil]); first | done | rfl | (simp only [List.length_drop, List.length_take]; rfl)) ?_
      with_reducible refine (talikref04_Order.calls k1 _ _ l0_0 _ _ l0_1 _ _ l0_2 a1 (rd l2 x7_1) t378 t381 false _ ?side1 ?side2 ?side3 ?side4 ?side5 ?side6 A7.out).mono ?_
      (case side1 => repeat (first | exact (Kd.qaj HR0_0.out HB.out) | (with_reducible refine Kd.C_alloc ?_ _) | (with_reducible refine Kd.C_drewN ?_ _) | (with_reducible refine Kd.C_drew ?_)))
      (case side2 => exact HC0_0.out)
      (case side3 => repeat (first | exact (Kd.qaj HR0_1.out HB.out) | (with_reducible refine Kd.C_alloc ?_ _) | (with_reducible refine Kd.C_drewN ?_ _) | (with_reducible refine Kd.C_drew ?_)))
      (case side4 => exact HC0_1.out)
      (case side5 => repeat (first | exact (Kd.qaj HR0_2.out HB.out) | (with_reducible refine Kd.C_alloc ?_ _) | (with_reducible refine Kd.C_drewN ?_ _) | (with_reducible refine Kd.C_drew ?_)))
      (case side6 => exact HC0_2.out)
      rintro e w12 ⟨v379, rfl, ho0, hb⟩
      refine ⟨_, rfl, ?_⟩
      have n0_ := qab.mk (Kd.R_lower ho0 (qap (by repeat (first | (with_reducible first | exact HB.out | apply qaf | apply qae | apply qah | refine qai ?_ GE376.out) | exact HB.out))))
      have n1_ := qab.mk (qag (g := gb376) (o := .cells #[.slice A0_0 l0_0.length c0_0, .slice A0_1 l0_1.length c0_1, .slice A0_2 l0_2.length c0_2] 26 (0, 0)) (by (with_reducible repeat (first | refine qao ?_ _ | refine qaq ?_ | refine qak ?_ _)); exact BK376.out) hb)
      have n2_ := qab.mk (qad (by repeat (first | (with_reducible first | exact HB.out | apply qaf | apply qae | apply qah | refine qai ?_ GE376.out) | exact HB.out)) hb)
      clear BK376
      clear HB
      have HO380 := n0_
      have BK376 := n1_
      have HB := n2_
      clear n0_ n1_ n2_
      (try clear hb)
      (try clear hb2)
      (try clear hk)
      (try clear hi)
      (try clear ho0)
      refine hK.out _ _ ⟨(qaa BK376.out 0).trans rfl, (qaa BK376.out 1).trans rfl, (qaa BK376.out 2).trans rfl, ((HB.out.cell (World.block_lt_of_cell? w _ hw377_0)).trans hw377_0)⟩ (fun hHeld => ?_)
      clear hK K
      refine norm_ (a' := ?_) ?_ ?_
      rotate_left
      ·
       show Act.put _ (some 24) _ = _
       simp only [Act.put, qzA, qzB, qzC, i64_w, i32_w]
       rfl
      refine pure_ (i := 7) (N := some 17) (v := ?_) (a' := ?_) (msk 14 8) rfl rfl (any_of HT_.out (by kernel_rfl)) (fun _ _ _ h => h) (Or.inl ⟨by rfl, ?_⟩) ?_ ?_
      rotate_left
      ·
       intro w'
       go_simp
       with_reducible rfl
      rotate_left
      ·
       simp only [Act.put, qzA, qzB, qzC, i64_w, i32_w]
       rfl
      refine pure_ (i := 8) (N := some 25) (v := ?_) (a' := ?_) (msk 14 9) rfl rfl (any_of HT_.out (by kernel_rfl)) (fun _ _ _ h => h) (Or.inl ⟨by rfl, ?_⟩) ?_ ?_
      rotate_left
      ·
       intro w'
       go_simp
       with_reducible rfl
      rotate_left
      ·
       simp only [Act.put, qzA, qzB, qzC, i64_w, i32_w]
       rfl
      refine pure_ (i := 9) (N := some 26) (v := ?_) (a' := ?_) (msk 14 10) rfl rfl (any_of HT_.out (by kernel_rfl)) (fun _ _ _ h => h) (Or.inl ⟨by rfl, ?_⟩) ?_ ?_
      rotate_left
      ·
       intro w'
       go_simp
       with_reducible rfl
      rotate_left
      ·
       simp only [Act.put, qzA, qzB, qzC, i64_w, i32_w]
       rfl
      refine pure_ (i := 10) (N := some 27) (v := ?_) (a' := ?_) (msk 14 11) rfl rfl (any_of HT_.out (by kernel_rfl)) (fun _ _ _ h => h) (Or.inl ⟨by rfl, ?_⟩) ?_ ?_
      rotate_left
      ·
       intro w'
       go_simp
       with_reducible rfl
      rotate_left
      ·
       simp only [Act.put, qzA, qzB, qzC, i64_w, i32_w]
       rfl
      refine pure_ (i := 11) (N := some 8) (v := ?_) (a' := ?_) (msk 14 12) rfl rfl (any_of HT_.out (by kernel_rfl)) (fun _ _ _ h => h) (Or.inl ⟨by rfl, ?_⟩) ?_ ?_
      rotate_left
      ·
       intro w'
       go_simp
       with_reducible rfl
      rotate_left
      ·
       simp only [Act.put, qzA, qzB, qzC, i64_w, i32_w]
       rfl
      refine pure_ (i := 12) (N := some 9) (v := ?_) (a' := ?_) (msk 14 13) rfl rfl (any_of HT_.out (by kernel_rfl)) (fun _ _ _ h => h) (Or.inl ⟨by rfl, ?_⟩) ?_ ?_
      rotate_left
      ·
       intro w'
       go_simp
       with_reducible rfl
      rotate_left
      ·
       simp only [Act.put, qzA, qzB, qzC, i64_w, i32_w]
       rfl
      refine pure_ (i := 13) (N := some 10) (v := ?_) (a' := ?_) (msk 14 14) rfl rfl (any_of HT_.out (by kernel_rfl)) (fun _ _ _ h => h) (Or.inl ⟨by rfl, ?_⟩) ?_ ?_
      rotate_left
      ·
       intro w'
       go_simp
       with_reducible rfl
      rotate_left
      ·
       simp only [Act.put, qzA, qzB, qzC, i64_w, i32_w]
       rfl
      refine done_ (done_of HT_.out (by kernel_rfl)) ?_
      try go_wp2
      go_ret
      exact ⟨by first | rfl | (simp [qau, qav] <;> rfl) | (simp [*, qau, qav] <;> rfl), by repeat (first | (with_reducible first | exact HB.out | apply qaf | apply qae | apply qah | refine qai ?_ GE376.out) | exact HB.out)⟩
    ·
     rw [if_neg c6] at H
     exact absurd H (by simp)
   ·
    rw [if_neg c5] at H
    have c5b0 : decide (x7_1 < (l2.length : Int)) = false := decide_eq_false c5
    clear c5
    obtain rfl := Option.some.inj H
    go_wp2
    go_ret
    exact ⟨by first | rfl | (simp [qau, qav] <;> rfl) | (simp [*, qau, qav] <;> rfl), by repeat (first | (with_reducible first | exact HB.out | apply qaf | apply qae | apply qah | refine qai ?_ GE376.out) | exact HB.out)⟩
end Go.Proofs.Ytipphcjgdebecaa.PA
namespace Go.Proofs.Ytipphcjgdebecaa.PA
open Go.RowKit Go.Shelf Go.Proofs.YtipphcjgdebecaaW.PrintWords Go.Proofs.YtipphcjgdebecaaW.PrintLast Go.Proofs.YtipphcjgdebecaaW.PrintMore
attribute [local go_sem] qaw qay max_two min_two qas qat qax qaz
section
variable {l0 : List S39} {l1 : List S37} {l2 : List (List Int)}
theorem rweak_go (hn4 : l0.length ≤ 4) {a : Int} {fs : List Int} (h : FaultsOk l0 l1 l2 a fs) (s : Int) :
  ∀ (m j k : Nat), j + m = fs.length → m + 44200 ≤ k → ∀ s, talikref04_Weak.l0 k a fs (j : Int) l0 l1 l2 = some (weakP (orderV l0 l1 l2 a) j s (fs.drop j)).1 := by
 have hl := h.len
 intro m
 induction m with
 | zero =>
  intro j k hj hk s
  obtain ⟨k, rfl⟩ : ∃ k', k = k' + 1 := ⟨k - 1, by omega⟩
  unfold talikref04_Weak.l0
  rw [if_neg (by omega), List.drop_eq_nil_of_le (by omega)]
  rfl
 | succ m ih =>
  intro j k hj hk s
  obtain ⟨k, rfl⟩ : ∃ k', k = k' + 1 := ⟨k - 1, by omega⟩
  have hlt : j < fs.length := by omega
  have hfj := h.all _ (List.getElem_mem hlt)
  obtain ⟨y, hy, e1, e2⟩ := rorder_eq h.v hn4 a _ h.a0 h.a1 hfj k (by omega)
  unfold talikref04_Weak.l0
  rw [if_pos (by omega), if_pos (by omega), rd_at fs j hlt, hy, List.drop_eq_getElem_cons hlt, wsucc j (by omega)]
  simp only [Option.bind_some, weakP]
  rw [e1]
  cases hr : (orderV l0 l1 l2 a fs[j]).2.2 with
  | false => simp
  | true =>
   rw [if_pos rfl, if_pos rfl, ih (j + 1) k (by omega) (by omega) (mn s (orderV l0 l1 l2 a fs[j]).2.1)]
   rfl
end
end Go.Proofs.Ytipphcjgdebecaa.PA
namespace Go.Proofs.Ytipphcjgdebecaa.PA
open Go.RowKit Go.Proofs.YtipphcjgdebecaaW.PrintWords Go.Proofs.YtipphcjgdebecaaW.PrintLast Go.Proofs.YtipphcjgdebecaaW.PrintMore
attribute [local go_sem] qaw qay max_two min_two qas qat qax qaz
def talikref04_Cost.l0 : Nat → Int → Int → Int → List (S39) → List (S37) → List (List Int) → Option (Int)
 | 0, _, _, _, _, _, _ => none
 | k + 1, x1, x5, x6, x374000, x374001, x374002 => if x6 < (x374000.length : Int) then ((talikref04_Has.f k x1 x6).bind fun t374 => (if t374 = true then (if 0 ≤ x6 then (talikref04_Cost.l0 k x1 (wrap64 (x5 + ((qal x374000 x6).f3))) (wrap64 (x6 + 1)) x374000 x374001 x374002) else (none)) else (talikref04_Cost.l0 k x1 x5 (wrap64 (x6 + 1)) x374000 x374001 x374002))) else (some x5)
def talikref04_Cost.f (k : Nat) (l0_0 : List (S39)) (l0_1 : List (S37)) (l0_2 : List (List Int)) (a1 : Int) : Option (Int) := talikref04_Cost.l0 k a1 0 0 l0_0 l0_1 l0_2
theorem talikref04_Cost.calls (k : Nat) (A0_0 : Option Addr) (c0_0 : Nat) (l0_0 : List (S39)) (A0_1 : Option Addr) (c0_1 : Nat) (l0_1 : List (S37)) (A0_2 : Option Addr) (c0_2 : Nat) (l0_2 : List (List Int)) (a1 : Int) (r : Int) (w : World) (hr0_0 : Kd.C k39 w A0_0 l0_0.length l0_0) (hc0_0 : l0_0.length ≤ c0_0) (hr0_1 : Kd.C k37 w A0_1 l0_1.length l0_1) (hc0_1 : l0_1.length ≤ c0_1) (hr0_2 : Kd.C (Kd.slice 3 (Kd.int .i64)) w A0_2 l0_2.length l0_2) (hc0_2 : l0_2.length ≤ c0_2) (h : talikref04_Cost.f k l0_0 l0_1 l0_2 a1 = some r) :
  Calls Try.prog 41 #[.agg #[.slice A0_0 l0_0.length c0_0, .slice A0_1 l0_1.length c0_1, .slice A0_2 l0_2.length c0_2], .int .i64 a1] w fun e w' => e = .returned (.int .i64 r) ∧ Below w.heap.size w w' := by
 have hu26 := Try.underlying26
 have HR0_0 := qab.mk hr0_0
 have HC0_0 := qab.mk hc0_0
 clear hr0_0 hc0_0
 have HR0_1 := qab.mk hr0_1
 have HC0_1 := qab.mk hc0_1
 clear hr0_1 hc0_1
 have HR0_2 := qab.mk hr0_2
 have HC0_2 := qab.mk hc0_2
 clear hr0_2 hc0_2
 have HB := qab.mk (Below.refl w.heap.size w)
 have H : (talikref04_Cost.l0 k a1 0 0 l0_0 l0_1 l0_2) = some r := h
 clear h
 have H' := qab.mk H
 clear H
 go_enter Try.func41, Try.ntmps41
 go_wp2_with (first | ((with_reducible refine qan (N := 2) rfl ?_); refine qam ?hg (N := 2) ?hd (cs := #[.slice A0_0 l0_0.length c0_0, .slice A0_1 l0_1.length c0_1, .slice A0_2 l0_2.length c0_2]) (t := 26) ?hr ?_; (case hd => rfl); (case hg => rfl); (case hr => first | (go_simp; done) | (go_simp; rfl)); intro gb373 hg w3 hbox hb; have n0_ := qab.mk (qad (by repeat (first | (with_reducible first | exact HB.out | apply qaf | apply qae | apply qah) | exact HB.out)) hb); have n1_ := qab.mk (hbox); have n2_ := qab.mk ((by rw [hg]; exact (qap (by repeat (first | (with_reducible first | exact HB.out | apply qaf | apply qae | apply qah) | exact HB.out))) : w.heap.size ≤ gb373)); have n3_ := qab.mk ((by rw [hg]; exact (qap (by repeat (first | (with_reducible first | exact HB.out | apply qaf | apply qae | apply qah) | exact HB.out))) : w.heap.size ≤ gb373)); clear HB; have HB := n0_; have BK373 := n1_; have GW373 := n2_; have GE373 := n3_; clear n0_ n1_ n2_ n3_; clear hb hbox hg))
 go_loopg [5, 6] k (fun kq v5 v6 w' => ∃ (x5_1 : Int) (x6_1 : Int), v5 = .int .i64 x5_1 ∧ v6 = .int .i64 x6_1 ∧ qab (talikref04_Cost.l0 kq a1 x5_1 x6_1 l0_0 l0_1 l0_2 = some r) ∧ qab (kq ≤ k) ∧ qab (w'.heap[gb373]? = some (.cells #[(.slice A0_0 l0_0.length c0_0), (.slice A0_1 l0_1.length c0_1), (.slice A0_2 l0_2.length c0_2)] 26 (0, 0))) ∧ qab (Below w.heap.size w w'))
 case atStart => exact ⟨(0), (0), (by first | rfl | (simp; done) | (simp [*]; done)), (by first | rfl | (simp; done) | (simp [*]; done)), H', ⟨Nat.le_refl _⟩, ⟨by (with_reducible repeat (first | refine qao ?_ _ | refine qaq ?_ | refine qak ?_ _)); exact BK373.out⟩, ⟨by repeat (first | (with_reducible first | exact HB.out | apply qaf | apply qae | apply qah | refine qai ?_ GE373.out) | exact HB.out)⟩⟩
 case round =>
  clear H'
  try clear p2
  obtain ⟨x5_1, x6_1, rfl, rfl, HA, HK1, BK373, HB⟩ := hrel
  cases gk with
  | zero => exact absurd HA.out (by simp [talikref04_Cost.l0])
  | succ k1 =>
   have H := HA.out
   clear HA
   simp only [talikref04_Cost.l0] at H
   by_cases c4 : x6_1 < (l0_0.length : Int)
   ·
    rw [if_pos c4] at H
    have c4b0 : decide (x6_1 < (l0_0.length : Int)) = true := decide_eq_true c4
    clear c4
    replace H := Option.bind_eq_some_iff.mp H
    obtain ⟨t374, A50, H⟩ := H
    replace H : (if t374 = true then (if 0 ≤ x6_1 then (talikref04_Cost.l0 k1 a1 (wrap64 (x5_1 + ((qal l0_0 x6_1).f3))) (wrap64 (x6_1 + 1)) l0_0 l0_1 l0_2) else (none)) else (talikref04_Cost.l0 k1 a1 x5_1 (wrap64 (x6_1 + 1)) l0_0 l0_1 l0_2)) = some r := H
    have A5 := qab.mk A50
    clear A50
    by_cases c6 : t374 = true
    ·
     subst c6
     have H1 : (if 0 ≤ x6_1 then (talikref04_Cost.l0 k1 a1 (wrap64 (x5_1 + ((qal l0_0 x6_1).f3))) (wrap64 (x6_1 + 1)) l0_0 l0_1 l0_2) else (none)) = some r := by rw [if_pos rfl] at H; exact H
     clear H
     have H := H1
     clear H1
     by_cases c7 : 0 ≤ x6_1
     ·
      rw [if_pos c7] at H
      have c7b0 : decide (0 ≤ x6_1) = true := decide_eq_true c7
      clear c7
      have H' := qab.mk H
      clear H
      have hcz8_0 : wr.cell? ⟨gb373, 0, none⟩ = some (.slice A0_0 l0_0.length c0_0) := (qaa BK373.out 0).trans rfl
      have hcz8_1 : wr.cell? ⟨gb373, 1, none⟩ = some (.slice A0_1 l0_1.length c0_1) := (qaa BK373.out 1).trans rfl
      have hcz8_2 : wr.cell? ⟨gb373, 2, none⟩ = some (.slice A0_2 l0_2.length c0_2) := (qaa BK373.out 2).trans rfl
      have hfz8_0 := qac BK373.out 0
      have hfz8_1 := qac BK373.out 1
      have hfz8_2 := qac BK373.out 2
      go_wp2_with (first | ((with_reducible refine gate_callee (f := 68) rfl ?_); refine goesL_ (some 16) rfl rfl Try.func68 (by kernel_rfl) rfl #[.int .i64 a1, .int .i64 x6_1] rfl (by (try simp only [List.map_toArray, List.map_cons, List.map_nil]); first | done | rfl | (simp only [List.length_drop, List.length_take]; rfl)) ?_; (with_reducible refine (talikref04_Has.calls k1 a1 x6_1 true _ A5.out).mono ?_); rintro e w' ⟨rfl, ⟨nd, rfl⟩⟩; refine ⟨_, rfl, ?_⟩; have p375 : 0 ≤ (x6_1 : Int) := of_decide_eq_true (by first | (with_reducible assumption) | assumption); have q375 : x6_1 < (l0_0.length : Int) := of_decide_eq_true (by first | (with_reducible assumption) | assumption); obtain ⟨ad375, e375, hx375_0, hx375_1, hx375_2, hx375_3, hx375_4, hx375_5, hx375_6, hx375_7, hx375_8, hx375_9, hx375_10, hx375_11⟩ := at_T39 HR0_0.out x6_1 p375 q375; cases e375; replace hx375_0 := (HB.out.cell (World.block_lt_of_cell? w _ hx375_0)).trans hx375_0; replace hx375_1 := (HB.out.cell (World.block_lt_of_cell? w _ hx375_1)).trans hx375_1; replace hx375_2 := (HB.out.cell (World.block_lt_of_cell? w _ hx375_2)).trans hx375_2; replace hx375_3 := (HB.out.cell (World.block_lt_of_cell? w _ hx375_3)).trans hx375_3; replace hx375_4 := (HB.out.cell (World.block_lt_of_cell? w _ hx375_4)).trans hx375_4; replace hx375_5 := (HB.out.cell (World.block_lt_of_cell? w _ hx375_5)).trans hx375_5; replace hx375_6 := (HB.out.cell (World.block_lt_of_cell? w _ hx375_6)).trans hx375_6; replace hx375_7 := (HB.out.cell (World.block_lt_of_cell? w _ hx375_7)).trans hx375_7; replace hx375_8 := (HB.out.cell (World.block_lt_of_cell? w _ hx375_8)).trans hx375_8; replace hx375_9 := (HB.out.cell (World.block_lt_of_cell? w _ hx375_9)).trans hx375_9; replace hx375_10 := (HB.out.cell (World.block_lt_of_cell? w _ hx375_10)).trans hx375_10; replace hx375_11 := (HB.out.cell (World.block_lt_of_cell? w _ hx375_11)).trans hx375_11; replace p375 := eq_true p375; replace q375 := eq_true q375))
      go_roundg k1
      case measure => have := HK1.out; omega
      case rel => exact ⟨(wrap64 (x5_1 + ((qal l0_0 x6_1).f3))), (wrap64 (x6_1 + 1)), (by first | rfl | (simp; done) | (simp [*]; done)), (by first | rfl | (simp; done) | (simp [*]; done)), H', ⟨by have := HK1.out; omega⟩, ⟨by (with_reducible repeat (first | refine qao ?_ _ | refine qaq ?_ | refine qak ?_ _)); exact BK373.out⟩, ⟨by repeat (first | (with_reducible first | exact HB.out | apply qaf | apply qae | apply qah | refine qai ?_ GE373.out) | exact HB.out)⟩⟩
     ·
      rw [if_neg c7] at H
      exact absurd H (by simp)
    ·
     replace c6 := Bool.eq_false_iff.mpr c6
     subst c6
     have H1 : (talikref04_Cost.l0 k1 a1 x5_1 (wrap64 (x6_1 + 1)) l0_0 l0_1 l0_2) = some r := by rw [if_neg (show ¬ (false = true) by decide)] at H; exact H
     clear H
     have H := H1
     clear H1
     have H' := qab.mk H
     clear H
     have hcz9_0 : wr.cell? ⟨gb373, 0, none⟩ = some (.slice A0_0 l0_0.length c0_0) := (qaa BK373.out 0).trans rfl
     have hcz9_1 : wr.cell? ⟨gb373, 1, none⟩ = some (.slice A0_1 l0_1.length c0_1) := (qaa BK373.out 1).trans rfl
     have hcz9_2 : wr.cell? ⟨gb373, 2, none⟩ = some (.slice A0_2 l0_2.length c0_2) := (qaa BK373.out 2).trans rfl
     have hfz9_0 := qac BK373.out 0
     have hfz9_1 := qac BK373.out 1
     have hfz9_2 := qac BK373.out 2
     go_wp2_with (first | ((with_reducible refine gate_callee (f := 68) rfl ?_); refine goesL_ (some 16) rfl rfl Try.func68 (by kernel_rfl) rfl #[.int .i64 a1, .int .i64 x6_1] rfl (by (try simp only [List.map_toArray, List.map_cons, List.map_nil]); first | done | rfl | (simp only [List.length_drop, List.length_take]; rfl)) ?_; (with_reducible refine (talikref04_Has.calls k1 a1 x6_1 false _ A5.out).mono ?_); rintro e w' ⟨rfl, ⟨nd, rfl⟩⟩; refine ⟨_, rfl, ?_⟩))
     go_roundg k1
     case measure => have := HK1.out; omega
     case rel => exact ⟨(x5_1), (wrap64 (x6_1 + 1)), (by first | rfl | (simp; done) | (simp [*]; done)), (by first | rfl | (simp; done) | (simp [*]; done)), H', ⟨by have := HK1.out; omega⟩, ⟨by (with_reducible repeat (first | refine qao ?_ _ | refine qaq ?_ | refine qak ?_ _)); exact BK373.out⟩, ⟨by repeat (first | (with_reducible first | exact HB.out | apply qaf | apply qae | apply qah | refine qai ?_ GE373.out) | exact HB.out)⟩⟩
   ·
    rw [if_neg c4] at H
    have c4b0 : decide (x6_1 < (l0_0.length : Int)) = false := decide_eq_false c4
    clear c4
    obtain rfl := Option.some.inj H
    have hcz10_0 : wr.cell? ⟨gb373, 0, none⟩ = some (.slice A0_0 l0_0.length c0_0) := (qaa BK373.out 0).trans rfl
    have hcz10_1 : wr.cell? ⟨gb373, 1, none⟩ = some (.slice A0_1 l0_1.length c0_1) := (qaa BK373.out 1).trans rfl
    have hcz10_2 : wr.cell? ⟨gb373, 2, none⟩ = some (.slice A0_2 l0_2.length c0_2) := (qaa BK373.out 2).trans rfl
    have hfz10_0 := qac BK373.out 0
    have hfz10_1 := qac BK373.out 1
    have hfz10_2 := qac BK373.out 2
    go_wp2
    go_ret
    exact ⟨by first | rfl | (simp [qau, qav] <;> rfl) | (simp [*, qau, qav] <;> rfl), by repeat (first | (with_reducible first | exact HB.out | apply qaf | apply qae | apply qah | refine qai ?_ GE373.out) | exact HB.out)⟩
end Go.Proofs.Ytipphcjgdebecaa.PA
