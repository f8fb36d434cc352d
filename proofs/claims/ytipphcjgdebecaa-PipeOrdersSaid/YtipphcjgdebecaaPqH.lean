/- Parts of a proof about the pipe seat's laws: what the functions of the program answer. No condition of its own. -/
import Derived.RangeFuncNested
import Derived.RangeFuncBound
import Derived.RangeFuncCalls
import Derived.RangeFuncLeaves
import Derived.RangeFuncBox
import Derived.Shelf.Abstract
import Derived.Shelf.RegionOpen
import Derived.OwnWalkIn
import Derived.TacticsInMore
import Derived.LoopNIn
import Derived.LoopIn
import Derived.Recover
import Derived.Defers
import Derived.WalkLawsBesides
import Derived.WalkSmall
import Derived.Test.YtipphcjgdebecaaPqC
import Derived.Test.YtipphcjgdebecaaPqE
import Derived.Test.YtipphcjgdebecaaSC
import Derived.Test.YtipphcjgdebecaaSE
import Derived.Test.YtipphcjgdebecaaSF
import Derived.Test.YtipphcjgdebecaaSJ
import Derived.Test.YtipphcjgdebecaaPqA
import Derived.Test.YtipphcjgdebecaaPqB
import Derived.Test.YtipphcjgdebecaaPqF
import Derived.Test.YtipphcjgdebecaaPqG
import Derived.Deep.Slices
import Derived.Lib.SmallJoins
import Derived.ChangeOld
import Derived.ProofKit
set_option linter.all false
namespace Go.Proofs.Ytipphcjgdebecaa.PA
open Go.RowKit Go.Shelf Go.Proofs.YtipphcjgdebecaaW.PrintWords Go.Proofs.YtipphcjgdebecaaW.PrintLast Go.Proofs.YtipphcjgdebecaaW.PrintMore
attribute [local go_sem] qbd qbf max_two min_two qay qaz qbe qbg
def extL (n : Nat) (f : Int) (o : List Int) (l : Nat) : List (List Int) := (((List.range n).drop l).filter fun x : Nat => bitB f x && !(o.any fun y => y == (x : Int))).map fun x : Nat => o ++ [(x : Int)]
def ordersI (n : Nat) (f : Int) : Nat → List (List Int)
 | 0 => [[]]
 | i + 1 => if bitB f i = true then (ordersI n f i).flatMap fun o => extL n f o 0 else ordersI n f i
theorem extL_step (n : Nat) (f : Int) (o : List Int) (l : Nat) (h : l < n) : extL n f o l = (if (bitB f l && !(o.any fun y => y == (l : Int))) = true then [o ++ [(l : Int)]] else []) ++ extL n f o (l + 1) := by
 unfold extL
 rw [List.drop_eq_getElem_cons (by simpa using h), List.filter_cons]
 simp only [List.getElem_range]
 split <;> simp
theorem extL_end (n : Nat) (f : Int) (o : List Int) : extL n f o n = [] := by
 unfold extL
 rw [List.drop_eq_nil_of_le (by simp)]
 rfl
theorem extL_length (n : Nat) (f : Int) (o : List Int) (l : Nat) : (extL n f o l).length ≤ n := by
 unfold extL
 rw [List.length_map]
 refine Nat.le_trans (List.length_filter_le _ _) ?_
 simp
section
variable {l0 : List S39} {l1 : List S37} {l2 : List (List Int)} {r : List (List Int)}
def pieceL (f : Int) (o : List Int) (l : Nat) (met : Bool) : List (List Int) := if (bitB f l && !met) = true then [o ++ [(l : Int)]] else []
theorem ord3 (f : Int) (f0 : 0 ≤ f) (f1 : f < 32) (out next : List (List Int)) (i : Int) (c : Nat) (hc : c < out.length) (ho : out.length ≤ 1000) (hl : out[c].length ≤ 5) (hx : next.length ≤ 100000) (l : Nat) (h5 : l < 5) (K : Nat) (hK : 10 ≤ K) :
  ∀ (m j k : Nat) (met : Bool), j + m = out[c].length → m + 1 + K ≤ k → (∀ k, K ≤ k → talikref04_Orders.l2 k f out i (next ++ pieceL f out[c] l (met || (out[c].drop j).any fun y => y == (l : Int))) (c : Int) ((l + 1 : Nat) : Int) l0 l1 l2 = some r) → talikref04_Orders.l3 k f out i next (c : Int) (l : Int) met (j : Int) l0 l1 l2 = some r := by
 intro m
 induction m with
 | zero =>
  intro j k met hj hk hR
  obtain ⟨k, rfl⟩ : ∃ k', k = k' + 1 := ⟨k - 1, by omega⟩
  have hR := hR k (by omega)
  rw [List.drop_eq_nil_of_le (by omega)] at hR
  unfold talikref04_Orders.l3
  rw [if_pos (by omega), if_pos (by omega), rd_L1_at out c hc, if_neg (by omega), has_eq f f0 f1 l h5 k (by omega), wsucc l (by omega)]
  simp only [Option.bind_some, List.any_nil, Bool.or_false, pieceL] at hR ⊢
  cases hb : bitB f l with
  | false =>
   rw [hb] at hR
   simp only [Bool.false_and, Bool.false_eq_true, if_false, List.append_nil] at hR ⊢
   exact hR
  | true =>
   rw [hb] at hR
   cases met with
   | true =>
    simp only [Bool.true_and, Bool.not_true, Bool.false_eq_true, if_false, if_true, List.append_nil] at hR ⊢
    exact hR
   | false =>
    simp only [Bool.true_and, Bool.not_false, Bool.false_eq_true, if_false, if_true, List.length_nil, Nat.zero_add, List.nil_append] at hR ⊢
    rw [if_pos (by omega)]
    try simp only [Option.bind_some]
    rw [if_pos (by omega), if_pos (by omega)]
    exact hR
 | succ m ih =>
  intro j k met hj hk hR
  obtain ⟨k, rfl⟩ : ∃ k', k = k' + 1 := ⟨k - 1, by omega⟩
  have hlt : j < out[c].length := by omega
  rw [List.drop_eq_getElem_cons hlt] at hR
  simp only [List.any_cons] at hR
  unfold talikref04_Orders.l3
  rw [if_pos (by omega), if_pos (by omega), rd_L1_at out c hc, if_pos (by omega), wsucc j (by omega)]
  cases met with
  | true =>
   rw [if_pos rfl]
   exact ih (j + 1) k true (by omega) (by omega) (by simpa using hR)
  | false =>
   rw [if_neg (by decide), if_pos (by omega), rd_at _ j hlt]
   exact ih (j + 1) k _ (by omega) (by omega) (by simpa using hR)
theorem ord2 (f : Int) (f0 : 0 ≤ f) (f1 : f < 32) (hn : l0.length ≤ 5) (out : List (List Int)) (i : Int) (c : Nat) (hc : c < out.length) (ho : out.length ≤ 1000) (hl : out[c].length ≤ 5) (K : Nat) (hK : 10 ≤ K) :
  ∀ (m l k : Nat) (next : List (List Int)), l + m = l0.length → 8 * m + 1 + K ≤ k → next.length + m ≤ 90000 → (∀ k, K ≤ k → talikref04_Orders.l1 k f out i (next ++ extL l0.length f out[c] l) ((c + 1 : Nat) : Int) l0 l1 l2 = some r) → talikref04_Orders.l2 k f out i next (c : Int) (l : Int) l0 l1 l2 = some r := by
 intro m
 induction m with
 | zero =>
  intro l k next hm hk hx hR
  obtain ⟨k, rfl⟩ : ∃ k', k = k' + 1 := ⟨k - 1, by omega⟩
  obtain rfl : l = l0.length := by omega
  have hR := hR k (by omega)
  rw [extL_end, List.append_nil] at hR
  unfold talikref04_Orders.l2
  rw [if_neg (by omega), wsucc c (by omega)]
  exact hR
 | succ m ih =>
  intro l k next hm hk hx hR
  obtain ⟨k, rfl⟩ : ∃ k', k = k' + 1 := ⟨k - 1, by omega⟩
  unfold talikref04_Orders.l2
  rw [if_pos (by omega)]
  refine ord3 f f0 f1 out next i c hc ho hl (by omega) l (by omega) (8 * m + 1 + K) (by omega) out[c].length 0 k false (by omega) (by omega) (fun k hk => ih (l + 1) k _ (by omega) hk ?_ (fun k hk => ?_))
  ·
   unfold pieceL
   split <;> simp <;> omega
  ·
   have h := hR k hk
   rw [extL_step _ _ _ _ (by omega)] at h
   rw [List.append_assoc]
   exact h
theorem ord1 (f : Int) (f0 : 0 ≤ f) (f1 : f < 32) (hn : l0.length ≤ 5) (out : List (List Int)) (i : Nat) (hi : i ≤ 100) (ho : out.length ≤ 1000) (hl : ∀ o ∈ out, o.length ≤ 5) (K : Nat) (hK : 10 ≤ K) :
  ∀ (m c k : Nat) (next : List (List Int)), c + m = out.length → 42 * m + 1 + K ≤ k → next.length + 5 * m ≤ 80000 → (∀ k, K ≤ k → talikref04_Orders.l0 k f (next ++ (out.drop c).flatMap fun o => extL l0.length f o 0) ((i + 1 : Nat) : Int) l0 l1 l2 = some r) → talikref04_Orders.l1 k f out (i : Int) next (c : Int) l0 l1 l2 = some r := by
 intro m
 induction m with
 | zero =>
  intro c k next hm hk hx hR
  obtain ⟨k, rfl⟩ : ∃ k', k = k' + 1 := ⟨k - 1, by omega⟩
  have hR := hR k (by omega)
  rw [List.drop_eq_nil_of_le (by omega), List.flatMap_nil, List.append_nil] at hR
  unfold talikref04_Orders.l1
  rw [if_neg (by omega), wsucc i (by omega)]
  exact hR
 | succ m ih =>
  intro c k next hm hk hx hR
  obtain ⟨k, rfl⟩ : ∃ k', k = k' + 1 := ⟨k - 1, by omega⟩
  have hc : c < out.length := by omega
  unfold talikref04_Orders.l1
  rw [if_pos (by omega)]
  refine ord2 f f0 f1 hn out (i : Int) c hc ho (hl _ (List.getElem_mem hc)) (42 * m + 1 + K) (by omega) l0.length 0 k next (by omega) (by omega) (by omega) (fun k hk => ih (c + 1) k _ (by omega) hk ?_ (fun k hk => ?_))
  ·
   have := extL_length l0.length f out[c] 0
   rw [List.length_append]
   omega
  ·
   have h := hR k hk
   rw [List.drop_eq_getElem_cons hc, List.flatMap_cons] at h
   rw [List.append_assoc]
   exact h
end
theorem bound_flat (g : List Int → List (List Int)) (c : Nat) (hg : ∀ o, (g o).length ≤ c) : ∀ l : List (List Int), (l.flatMap g).length ≤ c * l.length
 | [] => by simp
 | o :: t => by
  have h1 := bound_flat g c hg t
  have h2 := hg o
  rw [List.flatMap_cons, List.length_append, List.length_cons, Nat.mul_succ]
  omega
theorem ordersI_length (n : Nat) (hn : n ≤ 4) (f : Int) : ∀ i, (ordersI n f i).length ≤ 4 ^ i
 | 0 => by simp [ordersI]
 | i + 1 => by
  have ih := ordersI_length n hn f i
  have h1 : (4 : Nat) ^ (i + 1) = 4 ^ i * 4 := Nat.pow_succ 4 i
  unfold ordersI
  split
  ·
   have h2 := bound_flat (fun o => extL n f o 0) n (fun o => extL_length n f o 0) (ordersI n f i)
   have h3 : n * (ordersI n f i).length ≤ 4 * (ordersI n f i).length := Nat.mul_le_mul_right _ hn
   omega
  ·
   omega
def setL (n : Nat) (f : Int) (i : Nat) (o : List Int) : Prop := o.Nodup ∧ (∀ x ∈ o, x ∈ qax f n) ∧ o.length = (qax f i).length
theorem loops_at (f : Int) (n : Nat) (x : Nat) : (x : Int) ∈ qax f n ↔ x < n ∧ bitB f x = true := by
 rw [mem_loopsOf]
 constructor
 ·
  rintro ⟨k, hk, h1, h2⟩
  obtain rfl : x = k := by omega
  exact ⟨h1, h2⟩
 ·
  rintro ⟨h1, h2⟩
  exact ⟨x, rfl, h1, h2⟩
theorem mem_extL (n : Nat) (f : Int) (o o' : List Int) : o' ∈ extL n f o 0 ↔ ∃ x : Nat, x < n ∧ bitB f x = true ∧ (x : Int) ∉ o ∧ o' = o ++ [(x : Int)] := by
 unfold extL
 simp only [List.drop_zero, List.mem_map, List.mem_filter, List.mem_range, Bool.and_eq_true, Bool.not_eq_true', List.any_eq_false, beq_iff_eq]
 constructor
 ·
  rintro ⟨x, ⟨h1, h2, h3⟩, rfl⟩
  exact ⟨x, h1, h2, fun h => h3 _ h rfl, rfl⟩
 ·
  rintro ⟨x, h1, h2, h3, rfl⟩
  exact ⟨x, ⟨h1, h2, fun y hy he => h3 (he ▸ hy)⟩, rfl⟩
theorem ordersI_mem (n : Nat) (f : Int) : ∀ i, ∀ o, o ∈ ordersI n f i ↔ setL n f i o
 | 0, o => by
  unfold ordersI setL qax
  simp only [List.mem_singleton, List.length_nil, List.length_eq_zero_iff]
  constructor
  ·
   rintro rfl
   exact ⟨List.nodup_nil, by simp, rfl⟩
  ·
   exact fun h => h.2.2
 | i + 1, o => by
  have ih := ordersI_mem n f i
  unfold ordersI
  have hs : qax f (i + 1) = if bitB f i = true then qax f i ++ [(i : Int)] else qax f i := by
   conv => lhs; unfold qax
  by_cases hb : bitB f i = true
  ·
   rw [if_pos hb]
   rw [if_pos hb] at hs
   simp only [List.mem_flatMap, mem_extL]
   unfold setL
   rw [hs, List.length_append, List.length_singleton]
   constructor
   ·
    rintro ⟨p, hp, x, h1, h2, h3, rfl⟩
    obtain ⟨a, b, c⟩ := (ih p).1 hp
    refine ⟨List.nodup_append.2 ⟨a, by simp, fun y hy z hz => ?_⟩, fun y hy => ?_, by simp [c]⟩
    ·
     simp only [List.mem_singleton] at hz
     subst hz
     exact fun he => h3 (he ▸ hy)
    ·
     rcases List.mem_append.1 hy with hy | hy
     ·
      exact b y hy
     ·
      simp only [List.mem_singleton] at hy
      rw [hy]
      exact (loops_at f n x).2 ⟨h1, h2⟩
   ·
    rintro ⟨a, b, c⟩
    have hne : o ≠ [] := fun e => by rw [e] at c; simp at c
    obtain ⟨p, y, rfl⟩ : ∃ p y, o = p ++ [y] := ⟨o.dropLast, o.getLast hne, (List.dropLast_concat_getLast hne).symm⟩
    obtain ⟨a1, _, a3⟩ := List.nodup_append.1 a
    have hy := b y (by simp)
    obtain ⟨x, rfl, hx, hbx⟩ := (mem_loopsOf f n y).1 hy
    refine ⟨p, (ih p).2 ⟨a1, fun z hz => b z (by simp [hz]), by simpa using c⟩, x, hx, hbx, fun hin => a3 _ hin _ (by simp) rfl, rfl⟩
  ·
   rw [if_neg hb]
   rw [if_neg hb] at hs
   rw [ih]
   unfold setL
   rw [hs]
def ltL : List Int → List Int → Prop
 | i :: t, j :: u => i < j ∨ (i = j ∧ ltL t u)
 | _, _ => False
theorem ltL_app : ∀ (a b : List Int) (x y : Int), ltL a b → ltL (a ++ [x]) (b ++ [y])
 | [], _, _, _, h => h.elim
 | _ :: _, [], _, _, h => h.elim
 | i :: t, j :: u, x, y, h => by
  rcases h with h | ⟨h1, h2⟩
  ·
   exact .inl h
  ·
   exact .inr ⟨h1, ltL_app t u x y h2⟩
theorem ltL_same : ∀ (a : List Int) (x y : Int), x < y → ltL (a ++ [x]) (a ++ [y])
 | [], x, y, h => .inl h
 | i :: t, x, y, h => .inr ⟨rfl, ltL_same t x y h⟩
theorem ltL_not : ∀ (a b : List Int), ltL a b → ¬ lexLe b a
 | [], _, h => h.elim
 | _ :: _, [], h => h.elim
 | i :: t, j :: u, h => by
  intro hl
  rcases h with h | ⟨rfl, h⟩
  ·
   rcases hl with hl | ⟨hl, _⟩ <;> omega
  ·
   rcases hl with hl | ⟨_, hl⟩
   ·
    omega
   ·
    exact ltL_not t u h hl
theorem pairwise_flat {r : List Int → List Int → Prop} (g : List Int → List (List Int)) : ∀ (l : List (List Int)), l.Pairwise r → (∀ o ∈ l, (g o).Pairwise r) → (∀ o ∈ l, ∀ o' ∈ l, r o o' → ∀ x ∈ g o, ∀ y ∈ g o', r x y) → (l.flatMap g).Pairwise r
 | [], _, _, _ => by simp
 | o :: t, h, h1, h2 => by
  obtain ⟨ha, hb⟩ := List.pairwise_cons.1 h
  rw [List.flatMap_cons, List.pairwise_append]
  refine ⟨h1 o (by simp), pairwise_flat g t hb (fun p hp => h1 p (by simp [hp])) (fun p hp q hq => h2 p (by simp [hp]) q (by simp [hq])), fun x hx y hy => ?_⟩
  obtain ⟨q, hq, hy⟩ := List.mem_flatMap.1 hy
  exact h2 o (by simp) q (by simp [hq]) (ha q hq) x hx y hy
theorem ordersI_sorted (n : Nat) (f : Int) : ∀ i, (ordersI n f i).Pairwise ltL
 | 0 => by simp [ordersI]
 | i + 1 => by
  have ih := ordersI_sorted n f i
  unfold ordersI
  split
  ·
   refine pairwise_flat _ _ ih (fun o _ => ?_) (fun o _ o' _ h x hx y hy => ?_)
   ·
    unfold extL
    rw [List.pairwise_map]
    refine List.Pairwise.imp (fun {a b} h => ltL_same o _ _ (by omega)) (List.Pairwise.filter _ (List.Pairwise.drop List.pairwise_lt_range))
   ·
    obtain ⟨a, _, _, _, rfl⟩ := (mem_extL n f o x).1 hx
    obtain ⟨b, _, _, _, rfl⟩ := (mem_extL n f o' y).1 hy
    exact ltL_app o o' _ _ h
  ·
   exact ih
section
variable {l0 : List S39} {l1 : List S37} {l2 : List (List Int)}
theorem ord0 (f : Int) (f0 : 0 ≤ f) (f1 : f < 32) (hn : l0.length ≤ 4) : ∀ (m i k : Nat), i + m = l0.length → 11000 * m + 20 ≤ k → talikref04_Orders.l0 k f (ordersI l0.length f i) (i : Int) l0 l1 l2 = some (ordersI l0.length f l0.length) := by
 intro m
 induction m with
 | zero =>
  intro i k hm hk
  obtain ⟨k, rfl⟩ : ∃ k', k = k' + 1 := ⟨k - 1, by omega⟩
  obtain rfl : i = l0.length := by omega
  unfold talikref04_Orders.l0
  rw [if_neg (by omega)]
 | succ m ih =>
  intro i k hm hk
  obtain ⟨k, rfl⟩ : ∃ k', k = k' + 1 := ⟨k - 1, by omega⟩
  have hlen := ordersI_length l0.length hn f i
  have h4 : (4 : Nat) ^ i ≤ 4 ^ 4 := Nat.pow_le_pow_right (by decide) (by omega)
  have hol : ∀ o ∈ ordersI l0.length f i, o.length ≤ 5 := fun o ho => by
   have h := ((ordersI_mem l0.length f i o).1 ho).2.2
   have h2 : ∀ n, (qax f n).length ≤ n := by
    intro n
    induction n with
    | zero => simp [qax]
    | succ n ih =>
     unfold qax
     split
     ·
      simp
      omega
     ·
      omega
   have := h2 i
   omega
  unfold talikref04_Orders.l0
  rw [if_pos (by omega), has_eq f f0 f1 i (by omega) k (by omega)]
  simp only [Option.bind_some]
  have hs : ordersI l0.length f (i + 1) = if bitB f i = true then (ordersI l0.length f i).flatMap fun o => extL l0.length f o 0 else ordersI l0.length f i := rfl
  cases hb : bitB f i with
  | true =>
   rw [if_pos rfl]
   rw [hb, if_pos rfl] at hs
   refine ord1 f f0 f1 (by omega) (ordersI l0.length f i) i (by omega) (by omega) hol (11000 * m + 20) (by omega) (ordersI l0.length f i).length 0 k [] (by omega) (by omega) (by simp; omega) (fun k hk => ?_)
   have h := ih (i + 1) k (by omega) hk
   rw [hs] at h
   simpa using h
  | false =>
   rw [if_neg (by decide), wsucc i (by omega)]
   have h := ih (i + 1) k (by omega) (by omega)
   rw [hs, hb, if_neg (by decide)] at h
   exact h
theorem orders_eq (f : Int) (f0 : 0 ≤ f) (f1 : f < 32) (hn : l0.length ≤ 4) (k : Nat) (hk : 44100 ≤ k) : talikref04_Orders.f k l0 l1 l2 f = some (ordersI l0.length f l0.length) :=
 ord0 f f0 f1 hn l0.length 0 k (by omega) (by omega)
theorem rdue_eq (hN : NetOk l0 l1 l2) (i : Int) (i0 : 0 ≤ i) (i1 : i < l0.length) (k : Nat) (hk : 230 ≤ k) : talikref04_Due.f k l0 l1 l2 i = some (dueI l0 l1 i) := by
 have hb := can_bd l0 l1 i
 have hh := hN.h1
 unfold talikref04_Due.f
 rw [rfreezes_eq hN i i0 i1 k hk]
 simp only [Option.bind_some]
 show (if canV l0 l1 i < 0 then some (l1.length : Int) else some (wrap64 (canV l0 l1 i - 1))) = _
 unfold dueI
 split
 ·
  rfl
 ·
  rw [wrap_id (by omega) (by omega)]
theorem rduesR_go (hN : NetOk l0 l1 l2) : ∀ (m j k : Nat), j + m = l0.length → m + 240 ≤ k → talikref04_Dues.l0 k ((List.range j).map fun i : Nat => dueI l0 l1 (i : Int)) (j : Int) l0 l1 l2 = some (duesI l0 l1) := by
 have hn := hN.n1
 intro m
 induction m with
 | zero =>
  intro j k hj hk
  obtain ⟨k, rfl⟩ : ∃ k', k = k' + 1 := ⟨k - 1, by omega⟩
  obtain rfl : j = l0.length := by omega
  unfold talikref04_Dues.l0
  rw [if_neg (by omega)]
  rfl
 | succ m ih =>
  intro j k hj hk
  obtain ⟨k, rfl⟩ : ∃ k', k = k' + 1 := ⟨k - 1, by omega⟩
  have hr := ih (j + 1) k (by omega) (by omega)
  rw [List.range_succ, List.map_append] at hr
  unfold talikref04_Dues.l0
  rw [if_pos (by omega), rdue_eq hN _ (by omega) (by omega) k (by omega)]
  simp only [Option.bind_some]
  rw [if_pos (by simp; omega), wsucc j (by omega)]
  exact hr
theorem rduesR_eq (hN : NetOk l0 l1 l2) (k : Nat) (hk : 250 ≤ k) : talikref04_Dues.f k l0 l1 l2 = some (duesI l0 l1) := by
 have hn := hN.n1
 exact rduesR_go hN l0.length 0 k (by omega) (by omega)
end
theorem loops_same {n : Nat} {f : Int} (hn : n ≤ 5) (f0 : 0 ≤ f) (f1 : f < ((2 ^ n : Nat) : Int)) : qax f n = qax f 5 := by
 obtain ⟨x, rfl⟩ := Int.eq_ofNat_of_zero_le f0
 have h := loops_table
 rw [List.all_eq_true] at h
 have h2 := h n (by simp; omega)
 rw [List.all_eq_true] at h2
 have h3 := h2 x (by rw [List.mem_range]; omega)
 simp only [decide_eq_true_eq] at h3
 exact h3.symm
structure RBest (s : List Int → Int) (p : List (List Int)) (x : Way) : Prop where
 no : x.2.2 = false → ∀ o ∈ p, s o < 0
 mem : x.2.2 = true → x.1 ∈ p ∧ s x.1 = x.2.1 ∧ 0 ≤ x.2.1
 max : x.2.2 = true → ∀ o ∈ p, s o ≤ x.2.1
 first : x.2.2 = true → ∀ o ∈ p, s o = x.2.1 → x.1 = o ∨ ltL x.1 o
theorem rbest_step (s : List Int → Int) (p : List (List Int)) (x : Way) (h : RBest s p x) (o : List Int) (ho : ∀ q ∈ p, ltL q o) : RBest s (p ++ [o]) (if s o ≥ 0 ∧ (x.2.2 = false ∨ s o > x.2.1) then (o, s o, true) else x) := by
 by_cases hc : s o ≥ 0 ∧ (x.2.2 = false ∨ s o > x.2.1)
 ·
  rw [if_pos hc]
  obtain ⟨h1, h2⟩ := hc
  have hle : ∀ q ∈ p, s q < s o := fun q hq => by
   rcases h2 with h2 | h2
   ·
    have := h.no h2 q hq
    omega
   ·
    cases hx : x.2.2 with
    | false => have := h.no hx q hq; omega
    | true => have := h.max hx q hq; omega
  refine ⟨fun h => by simp at h, fun _ => ⟨by simp, rfl, h1⟩, fun _ q hq => ?_, fun _ q hq he => ?_⟩
  ·
   rcases List.mem_append.1 hq with hq | hq
   ·
    exact Int.le_of_lt (hle q hq)
   ·
    rw [List.mem_singleton.1 hq]
    exact Int.le_refl _
  ·
   rcases List.mem_append.1 hq with hq | hq
   ·
    have := hle q hq
    have he' : s q = s o := he
    omega
   ·
    exact .inl (List.mem_singleton.1 hq).symm
 ·
  rw [if_neg hc]
  refine ⟨fun hx q hq => ?_, fun hx => ⟨by simp [(h.mem hx).1], (h.mem hx).2⟩, fun hx q hq => ?_, fun hx q hq he => ?_⟩
  ·
   rcases List.mem_append.1 hq with hq | hq
   ·
    exact h.no hx q hq
   ·
    rw [List.mem_singleton.1 hq]
    by_cases h0 : s o ≥ 0
    ·
     exact absurd ⟨h0, .inl hx⟩ hc
    ·
     omega
  ·
   rcases List.mem_append.1 hq with hq | hq
   ·
    exact h.max hx q hq
   ·
    rw [List.mem_singleton.1 hq]
    have h2 := (h.mem hx).2.2
    by_cases h0 : s o > x.2.1
    ·
     exact absurd ⟨by omega, .inr h0⟩ hc
    ·
     omega
  ·
   rcases List.mem_append.1 hq with hq | hq
   ·
    exact h.first hx q hq he
   ·
    rw [List.mem_singleton.1 hq]
    exact .inr (ho _ (h.mem hx).1)
theorem rbest_all (s : List Int → Int) (S : List Int → Option Int) : ∀ (l p : List (List Int)) (x : Way), (∀ o ∈ l, S o = some (s o)) → RBest s p x → (p ++ l).Pairwise ltL → ∃ y, bestR S l x = some y ∧ RBest s (p ++ l) y
 | [], p, x, _, h, _ => ⟨x, rfl, by simpa using h⟩
 | o :: t, p, x, hS, h, hp => by
  have hp' : ((p ++ [o]) ++ t).Pairwise ltL := by simpa using hp
  have ho : ∀ q ∈ p, ltL q o := fun q hq => (List.pairwise_append.1 hp).2.2 q hq o (by simp)
  obtain ⟨y, h1, h2⟩ := rbest_all s S t (p ++ [o]) _ (fun q hq => hS q (by simp [hq])) (rbest_step s p x h o ho) hp'
  refine ⟨y, ?_, by simpa using h2⟩
  unfold bestR
  rw [hS o (by simp)]
  exact h1
section
variable {l0 : List S39} {l1 : List S37} {l2 : List (List Int)}
theorem rorder_eq (hv : validB l0 l1 l2 = true) (hn4 : l0.length ≤ 4) (a f : Int) (a0 : 0 ≤ a) (a1 : a ≤ l0.length) (hf : inFault l0 f = true) (k : Nat) (hk : 44100 ≤ k) :
  ∃ y : Way, talikref04_Order.f k l0 l1 l2 a f = some y ∧ y.2.2 = (orderV l0 l1 l2 a f).2.2 ∧ (y.2.2 = true → y.1 = (orderV l0 l1 l2 a f).1 ∧ y.2.1 = (orderV l0 l1 l2 a f).2.1) := by
 have hN := net_ok hv
 have hB := bok hN
 have hn0 := hN.n0
 have hfr := fault_rng hf
 have h32 : f < 32 := by
  have := hfr.2
  have h2 : 2 ^ l0.length ≤ 2 ^ 5 := Nat.pow_le_pow_right (n := 2) (by decide) (by omega)
  omega
 have hsok := sok hN a0 a1 hf
 have hDl : (duesI l0 l1).length = l0.length := by simp [duesI]
 have hl5 := loops_same (n := l0.length) (by omega) hfr.1 hfr.2
 have hmem : ∀ o, o ∈ ordersI l0.length f l0.length ↔ o.Perm (qax f 5) := fun o => by
  rw [ordersI_mem]
  unfold setL
  rw [hl5]
  constructor
  ·
   rintro ⟨h1, h2, h3⟩
   exact perm_of o _ h1 h2 h3
  ·
   intro h
   exact ⟨h.nodup_iff.2 (nodup_loopsOf f _), fun x hx => h.mem_iff.1 hx, h.length_eq⟩
 have hin : ∀ o : List Int, o.Perm (qax f 5) → ∀ x ∈ o, 0 ≤ x ∧ x < l0.length := fun o ho x hx => hsok.lo x ((List.Perm.mem_iff ho).1 hx)
 have hlen8 : ∀ o : List Int, o.Perm (qax f 5) → o.length ≤ 8 := fun o ho => by
  have h1 := ho.length_eq
  have h2 := cnt_le f
  unfold cntB at h2
  omega
 obtain ⟨y, hy, hR⟩ := rbest_all (fun o => sl l0 l2 (duesI l0 l1) l1.length a 0 o) (fun o => talikref04_Slack.f k l0 l1 l2 (duesI l0 l1) a o) (ordersI l0.length f l0.length) [] ([], 0, false)
  (fun o ho => slack_eq hN hB hDl o (hlen8 o ((hmem o).1 ho)) (hin o ((hmem o).1 ho)) a a0 a1 k (by omega)) ⟨fun _ q hq => by simp at hq, fun h => by simp at h, fun h => by simp at h, fun h => by simp at h⟩ (by simpa using ordersI_sorted l0.length f l0.length)
 rw [List.nil_append] at hR
 refine ⟨y, ?_, ?_⟩
 ·
  unfold talikref04_Order.f
  rw [orders_eq f hfr.1 h32 hn4 k hk, rduesR_eq hN k (by omega)]
  exact hy
 ·
  obtain ⟨bA, bB⟩ := best_ok hB _ ⟨a, 0, f⟩ hsok (Nat.le_refl _)
  cases hr : (orderV l0 l1 l2 a f).2.2 with
  | false =>
   have hb := bB hr
   have hno : y.2.2 = false := by
    cases hy2 : y.2.2 with
    | false => rfl
    | true =>
     obtain ⟨m1, m2, m3⟩ := hR.mem hy2
     have := hb _ ((hmem _).1 m1)
     have m2' : sl l0 l2 (duesI l0 l1) l1.length a 0 y.1 = y.2.1 := m2
     have h' : sl l0 l2 (duesI l0 l1) l1.length a 0 y.1 < 0 := this
     omega
   exact ⟨hno, fun h => by rw [hno] at h; cases h⟩
  | true =>
   obtain ⟨s0, _, _, smax⟩ := bA hr
   obtain ⟨o1, o2, o3⟩ := best_order hB _ hsok hr
   have hs0 : 0 ≤ (orderV l0 l1 l2 a f).2.1 := s0
   have ho1 : (orderV l0 l1 l2 a f).1.Perm (qax f 5) := o1
   have ho2 : sl l0 l2 (duesI l0 l1) l1.length a 0 (orderV l0 l1 l2 a f).1 = (orderV l0 l1 l2 a f).2.1 := o2
   have hom := (hmem _).2 ho1
   cases hy2 : y.2.2 with
   | false =>
    have h' : sl l0 l2 (duesI l0 l1) l1.length a 0 (orderV l0 l1 l2 a f).1 < 0 := hR.no hy2 _ hom
    omega
   | true =>
    refine ⟨rfl, fun _ => ?_⟩
    obtain ⟨m1, m2, m3⟩ := hR.mem hy2
    have m2' : sl l0 l2 (duesI l0 l1) l1.length a 0 y.1 = y.2.1 := m2
    have hyp := (hmem _).1 m1
    have hmx : sl l0 l2 (duesI l0 l1) l1.length a 0 (orderV l0 l1 l2 a f).1 ≤ y.2.1 := hR.max hy2 _ hom
    have hmx2 : sl l0 l2 (duesI l0 l1) l1.length a 0 y.1 ≤ (orderV l0 l1 l2 a f).2.1 := smax _ hyp
    have he : y.2.1 = (orderV l0 l1 l2 a f).2.1 := by omega
    refine ⟨?_, he⟩
    rcases hR.first hy2 _ hom (by show sl l0 l2 (duesI l0 l1) l1.length a 0 (orderV l0 l1 l2 a f).1 = y.2.1; omega) with h | h
    ·
     exact h
    ·
     have hle : lexLe (orderV l0 l1 l2 a f).1 y.1 := o3 _ hyp (by show sl l0 l2 (duesI l0 l1) l1.length a 0 y.1 = (orderV l0 l1 l2 a f).2.1; omega)
     exact absurd hle (ltL_not _ _ h)
end
theorem same_go (a : List Int) (ha : a.length ≤ 1000) : ∀ (m j k : Nat), j + m = a.length → m + 1 ≤ k → talikref04_Same.l0 k a a (j : Int) = some true := by
 intro m
 induction m with
 | zero =>
  intro j k hj hk
  obtain ⟨k, rfl⟩ : ∃ k', k = k' + 1 := ⟨k - 1, by omega⟩
  unfold talikref04_Same.l0
  rw [if_neg (by omega)]
 | succ m ih =>
  intro j k hj hk
  obtain ⟨k, rfl⟩ : ∃ k', k = k' + 1 := ⟨k - 1, by omega⟩
  unfold talikref04_Same.l0
  rw [if_pos (by omega), if_pos (by omega), if_pos (by omega), if_pos rfl, wsucc j (by omega)]
  exact ih (j + 1) k (by omega) (by omega)
theorem same_self (a : List Int) (ha : a.length ≤ 1000) (k : Nat) (hk : a.length + 1 ≤ k) : talikref04_Same.f k a a = some true := by
 unfold talikref04_Same.f
 rw [if_pos rfl]
 exact same_go a ha a.length 0 k (by omega) hk
theorem porder_no {l0 : List S39} {l1 : List S37} {l2 : List (List Int)} (a f : Int) (h : (validB l0 l1 l2 && (inB a 0 l0.length && inFault l0 f)) = false) (k : Nat) (hk : 1 ≤ k) : pipe_Order.f k l0 l1 l2 a f = some ([], 0, 2) := by
 unfold pipe_Order.f
 refine if_neg ?_
 cases hv : validB l0 l1 l2 with
 | false => simp
 | true =>
  rw [fault_same l0 (net_ok hv).n1]
  rw [hv] at h
  rw [h]
  decide
theorem orders_true (q : Nat) (hq : 44199 ≤ q) (l0 : List S39) (l1 : List S37) (l2 : List (List Int)) (a1 a2 : Int) : taliklaw04_PipeOrders.f (q + 1) l0 l1 l2 a1 a2 = some true := by
 unfold taliklaw04_PipeOrders.f
 rw [short_eq l0 l1 l2 (q + 1) (by omega)]
 simp only [Option.bind_some]
 have hknown : taliklaw04_PipeOrders.j0 (q + 1) a1 a2 true l0 l1 l2 = some true := by
  rw [taliklaw04_PipeOrders.j0, if_pos rfl, known_some]
  rfl
 cases hs : shortB l0 l1 l2 with
 | false =>
  rw [if_neg (by decide)]
  exact hknown
 | true =>
  have hsh := short_of hs
  rw [if_pos rfl, net_eq l0 l1 l2 hsh (q + 1) (by omega)]
  simp only [Option.bind_some]
  have hbad : ∀ x : Bool, ∀ r : Int, (validB l0 l1 l2 && (inB a1 0 l0.length && inFault l0 a2)) = false → taliklaw04_PipeOrders.j1 q a1 a2 [] 0 2 true l0 l1 l2 = some true := fun _ _ _ => by
   obtain ⟨q', rfl⟩ : ∃ q', q = q' + 1 := ⟨q - 1, by omega⟩
   rw [taliklaw04_PipeOrders.j1, if_pos rfl, known_some]
   rfl
  cases hv : validB l0 l1 l2 with
  | false =>
   rw [if_neg (by decide), taliklaw04_PipeOrders.j0, if_neg (by decide), porder_no a1 a2 (by rw [hv]; rfl) q (by omega), net_eq l0 l1 l2 hsh q (by omega), hv]
   simp only [Option.bind_some, Bool.false_eq_true, if_false]
   exact hbad true 0 (by rw [hv]; rfl)
  | true =>
   have hN := net_ok hv
   have hn1 := hN.n1
   rw [if_pos rfl]
   by_cases h4 : (l0.length : Int) > 4
   ·
    rw [decide_eq_true h4]
    exact hknown
   ·
    rw [decide_eq_false h4, taliklaw04_PipeOrders.j0, if_neg (by decide)]
    cases hp : inB a1 0 l0.length with
    | false =>
     rw [porder_no a1 a2 (by rw [hv, hp]; rfl) q (by omega), net_eq l0 l1 l2 hsh q (by omega), hv]
     simp only [Option.bind_some, if_true]
     rw [rplace_eq, hp]
     simp only [Option.bind_some, Bool.false_eq_true, if_false]
     exact hbad true 0 (by rw [hv, hp]; rfl)
    | true =>
     cases hf : inFault l0 a2 with
     | false =>
      rw [porder_no a1 a2 (by rw [hv, hp, hf]; rfl) q (by omega), net_eq l0 l1 l2 hsh q (by omega), hv]
      simp only [Option.bind_some, if_true]
      rw [rplace_eq, hp]
      simp only [Option.bind_some, if_true]
      rw [rfault_eq l0 l1 l2 (by omega) a2 q (by omega), hf]
      simp only [Option.bind_some]
      exact hbad true 0 (by rw [hv, hp, hf]; rfl)
     | true =>
      have hp' := hp
      unfold inB at hp'
      simp only [Bool.and_eq_true, decide_eq_true_eq] at hp'
      rw [order_eq hv a1 a2 hp'.1 hp'.2 hf q (by omega), net_eq l0 l1 l2 hsh q (by omega), hv]
      simp only [Option.bind_some, if_true]
      rw [rplace_eq, hp]
      simp only [Option.bind_some, if_true]
      rw [rfault_eq l0 l1 l2 (by omega) a2 q (by omega), hf]
      simp only [Option.bind_some, Bool.not_true]
      obtain ⟨q', rfl⟩ : ∃ q', q = q' + 1 := ⟨q - 1, by omega⟩
      rw [taliklaw04_PipeOrders.j1, if_neg (by decide)]
      obtain ⟨y, hy, e1, e2⟩ := rorder_eq hv (by omega) a1 a2 hp'.1 hp'.2 hf q' (by omega)
      rw [hy]
      simp only [Option.bind_some]
      cases hr : (orderV l0 l1 l2 a1 a2).2.2 with
      | false =>
       rw [hr] at e1
       rw [e1]
       simp [known_some]
      | true =>
       rw [hr] at e1
       obtain ⟨e3, e4⟩ := e2 e1
       have hol : (orderV l0 l1 l2 a1 a2).1.length ≤ 8 := by
        have h1 := (best_order (bok hN) _ (sok hN hp'.1 hp'.2 hf) hr).1.length_eq
        have h2 := cnt_le a2
        unfold cntB at h2
        have h3 : (orderV l0 l1 l2 a1 a2).1.length = (qax a2 5).length := h1
        omega
       rw [e1, e3, e4]
       simp only [if_true]
       rw [same_self _ (by omega) q' (by omega)]
       simp [known_some]
end Go.Proofs.Ytipphcjgdebecaa.PA
namespace Go.Proofs.Ytipphcjgdebecaa.PA
open Go.RowKit Go.Shelf Go.Proofs.YtipphcjgdebecaaW.PrintWords Go.Proofs.YtipphcjgdebecaaW.PrintLast Go.Proofs.YtipphcjgdebecaaW.PrintMore
attribute [local go_sem] qbd qbf max_two min_two qay qaz qbe qbg
def Opens {α : Type} (d : Kd α) (t : TypeId) : Prop := ∀ (H : Type) (enc : TypeId × Value → H) (w : World) (base fuel : Nat) (cs : List Value) (x : DataW H × List MemPlace), DataW.trod enc Try.prog w base (fun _ => true) true fuel t cs = some x → ∃ v, d.K w v cs
theorem opens_int : Opens (Kd.int .i64) 3 := by
 intro H enc w base fuel cs x h
 obtain ⟨n, rfl, _, _⟩ := DataW.trod_int Try.underlying3 h
 exact ⟨n, rfl⟩
theorem cell_of_cells {w : World} {base n : Nat} {a : Addr} {cs : List Value} (h : w.cells? base a n = some cs) : cs.length = n ∧ ∀ i u, cs[i]? = some u → w.cell? (a.add i) = some u := by
 unfold World.cells? at h
 split at h
 ·
  refine ⟨by simpa using mapM_some_length h, fun i u hu => ?_⟩
  have hi : i < n := by
   have h1 := mapM_some_length h
   have h2 := (List.getElem?_eq_some_iff.1 hu).1
   simp at h1
   omega
  have h3 := mapM_some_get h i i (by simp [hi])
  rw [h3]
  exact hu
 ·
  cases h
theorem opens_slice {α : Type} {d : Kd α} {t e : TypeId} (z : α) (ht : Try.prog.underlying t = some (.slice e)) (hz : Try.prog.cellsOf e = d.sz) (hd : Opens d e) : Opens (Kd.slice e d) t := by
 intro H enc w base fuel cs x h
 rcases Deep.open_slice ht h with ⟨rfl, _⟩ | ⟨a, len, cap, m, n, D, Pl, rfl, hb, hl, hm, hmm, _, hel⟩
 ·
  exact ⟨[], none, 0, rfl, Nat.le_refl _, rfl, by simp, fun h => absurd h (by simp)⟩
 ·
  simp only [if_true] at hmm
  subst hmm
  haveI : Inhabited (α × List Value) := ⟨(z, [])⟩
  obtain ⟨F, hF⟩ : ∃ F : Nat → α × List Value, ∀ i, i < len → w.cells? base (a.add (i * Try.prog.cellsOf e)) (Try.prog.cellsOf e) = some (F i).2 ∧ d.K w (F i).1 (F i).2 := by
   have hx : ∀ i, i < len → ∃ q : α × List Value, w.cells? base (a.add (i * Try.prog.cellsOf e)) (Try.prog.cellsOf e) = some q.2 ∧ d.K w q.1 q.2 := fun i hi => by
    obtain ⟨cs', h1, h2⟩ := hel i (by omega)
    obtain ⟨v, hv⟩ := hd H enc w base n cs' _ h2
    exact ⟨(v, cs'), h1, hv⟩
   exact Deep.choose_lt hx
  have hlen : ((List.range len).map fun i => (F i).1).length = len := by simp
  refine ⟨(List.range len).map fun i => (F i).1, some a, m, by rw [hlen], by rw [hlen]; exact hl, rfl, ?_, fun _ => ⟨a, rfl, fun j p hj => ?_⟩⟩
  ·
   rw [hlen]
   have : maxLen ≤ 9223372036854775807 := by decide
   omega
  ·
   obtain ⟨hj1, hj2⟩ := List.getElem?_eq_some_iff.1 hj
   have hjl : j < len := by simpa using hj1
   have hp : p = (F j).1 := by simpa using hj2.symm
   subst hp
   obtain ⟨h1, h2⟩ := hF j hjl
   refine ⟨(F j).2, d.K_len h2, h2, fun i u hu => ?_⟩
   have h3 := (cell_of_cells h1).2 i u hu
   rw [Deep.add_add, hz] at h3
   exact h3
theorem K_pair {α β : Type} {a : Kd α} {b : Kd β} {w : World} {cs : List Value} {o : Nat} {x : α} {y : β} (h1 : a.K w x ((cs.drop o).take a.sz)) (h2 : b.K w y (cs.drop (o + a.sz))) : (Kd.pair a b).K w (x, y) (cs.drop o) :=
 ⟨_, _, by have h := (List.take_append_drop a.sz (cs.drop o)).symm; rwa [List.drop_drop] at h, h1, h2⟩
theorem K_last {α : Type} {a : Kd α} {w : World} {cs : List Value} {o : Nat} {x : α} (h1 : a.K w x ((cs.drop o).take a.sz)) (hl : cs.length = o + a.sz) : a.K w x (cs.drop o) := by
 rwa [List.take_of_length_le (by simp; omega)] at h1
theorem field_of {α : Type} {d : Kd α} {t : TypeId} (hd : Opens d t) (hz : Try.prog.cellsOf t = d.sz) {H : Type} {enc : TypeId × Value → H} {w : World} {base n o : Nat} {cs : List Value} {xs : List (DataW H × List MemPlace)} {i : Nat} (hi : i < xs.length)
  (h : DataW.trod enc Try.prog w base (fun _ => true) true n t ((cs.drop o).take (Try.prog.cellsOf t)) = xs[i]?) : ∃ v, d.K w v ((cs.drop o).take d.sz) := by
 rw [hz, List.getElem?_eq_getElem hi] at h
 exact hd H enc w base n _ _ h
theorem opens_37 : Opens k37 37 := by
 intro H enc w base fuel cs x h
 obtain ⟨xs, n, rfl, rfl, hl, hxl, hf⟩ := DataW.trod_struct Try.underlying37 h
 have hl' : cs.length = 2 := hl.trans (by kernel_rfl)
 have hx : xs.length = 2 := hxl
 obtain ⟨v0, e0⟩ := field_of opens_int (by kernel_rfl) (i := 0) (by omega) (hf 0 _ rfl)
 obtain ⟨v1, e1⟩ := field_of opens_int (by kernel_rfl) (i := 1) (by omega) (hf 1 _ rfl)
 exact ⟨⟨v0, v1⟩, K_pair (o := 0) e0 (K_last (o := 0 + 1) e1 hl')⟩
theorem opens_39 : Opens k39 39 := by
 intro H enc w base fuel cs x h
 obtain ⟨xs, n, rfl, rfl, hl, hxl, hf⟩ := DataW.trod_struct Try.underlying39 h
 have hl' : cs.length = 12 := hl.trans (by kernel_rfl)
 have hx : xs.length = 8 := hxl
 obtain ⟨v0, e0⟩ := field_of opens_37 (by kernel_rfl) (i := 0) (by omega) (hf 0 _ rfl)
 obtain ⟨v1, e1⟩ := field_of opens_37 (by kernel_rfl) (i := 1) (by omega) (hf 1 _ rfl)
 obtain ⟨v2, e2⟩ := field_of opens_37 (by kernel_rfl) (i := 2) (by omega) (hf 2 _ rfl)
 obtain ⟨v3, e3⟩ := field_of opens_int (by kernel_rfl) (i := 3) (by omega) (hf 3 _ rfl)
 obtain ⟨v4, e4⟩ := field_of opens_int (by kernel_rfl) (i := 4) (by omega) (hf 4 _ rfl)
 obtain ⟨v5, e5⟩ := field_of opens_int (by kernel_rfl) (i := 5) (by omega) (hf 5 _ rfl)
 obtain ⟨v6, e6⟩ := field_of opens_int (by kernel_rfl) (i := 6) (by omega) (hf 6 _ rfl)
 obtain ⟨v7, e7⟩ := field_of opens_37 (by kernel_rfl) (i := 7) (by omega) (hf 7 _ rfl)
 exact ⟨⟨v0, v1, v2, v3, v4, v5, v6, v7⟩, K_pair (o := 0) e0 (K_pair (o := 0 + 2) e1 (K_pair (o := 0 + 2 + 2) e2 (K_pair (o := 0 + 2 + 2 + 2) e3 (K_pair (o := 0 + 2 + 2 + 2 + 1) e4 (K_pair (o := 0 + 2 + 2 + 2 + 1 + 1) e5 (K_pair (o := 0 + 2 + 2 + 2 + 1 + 1 + 1) e6 (K_last (o := 0 + 2 + 2 + 2 + 1 + 1 + 1 + 1) e7 hl')))))))⟩
theorem opens_22 : Opens (Kd.slice 39 k39) 22 := opens_slice z39 Try.underlying22 (by kernel_rfl) opens_39
theorem opens_23 : Opens (Kd.slice 37 k37) 23 := opens_slice z37 Try.underlying23 (by kernel_rfl) opens_37
theorem opens_47 : Opens (Kd.slice 3 (Kd.int .i64)) 47 := opens_slice 0 Try.underlying47 (by kernel_rfl) opens_int
theorem opens_24 : Opens (Kd.slice 47 (Kd.slice 3 (Kd.int .i64))) 24 := opens_slice [] Try.underlying24 (by kernel_rfl) opens_47
set_option maxRecDepth 100000 in
theorem open_net {H : Type} {enc : TypeId × Value → H} {w : World} {b0 : Nat} {v : Value} {d : DataW H} {p : List MemPlace} (hv : Value.okWide Try.prog w .any b0 26 v) (h : DataW.Trod enc Try.prog w 0 (fun _ => true) true 26 v d p) :
  ∃ (A0 : Option Addr) (c0 : Nat) (l0 : List S39) (A1 : Option Addr) (c1 : Nat) (l1 : List S37) (A2 : Option Addr) (c2 : Nat) (l2 : List (List Int)), v = .agg #[.slice A0 l0.length c0, .slice A1 l1.length c1, .slice A2 l2.length c2] ∧
   Kd.C k39 w A0 l0.length l0 ∧ l0.length ≤ c0 ∧ Kd.C k37 w A1 l1.length l1 ∧ l1.length ≤ c1 ∧ Kd.C (Kd.slice 3 (Kd.int .i64)) w A2 l2.length l2 ∧ l2.length ≤ c2 := by
 obtain ⟨v0, v1, v2, y0, y1, y2, n, rfl, _, _, h0, h1, h2⟩ := Joins.open_agg3 Try.underlying26 (by kernel_rfl) (by kernel_rfl) hv h
 obtain ⟨l0, A0, c0, e0, f0, g0⟩ := opens_22 H enc w 0 n _ _ h0
 obtain ⟨l1, A1, c1, e1, f1, g1⟩ := opens_23 H enc w 0 n _ _ h1
 obtain ⟨l2, A2, c2, e2, f2, g2⟩ := opens_24 H enc w 0 n _ _ h2
 injection e0 with e0 _
 injection e1 with e1 _
 injection e2 with e2 _
 subst e0 e1 e2
 exact ⟨A0, c0, l0, A1, c1, l1, A2, c2, l2, rfl, g0, f0, g1, f1, g2, f2⟩
end Go.Proofs.Ytipphcjgdebecaa.PA
