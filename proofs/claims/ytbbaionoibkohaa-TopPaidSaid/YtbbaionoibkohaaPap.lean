/- Part 16 of the proof that stands in the last text. -/
import Derived.Sort.AssemblyPlain
import Derived.Test.YtbbaionoibkohaaPao
set_option linter.all false
section
namespace Go.Proofs.Ytbbaionoibkohaa
open Go Go.Pal Go.Pal.Db Go.Conc View
open Go.Proofs.Try
set_option maxHeartbeats 4000000
theorem ones {α : Type} (l : List α) (f : α → Value) (h : ∀ x, oneCell (f x) = true) : (l.map f).all oneCell = true := List.all_eq_true.2 fun y hy => by
  obtain ⟨x, _, rfl⟩ := List.mem_map.1 hy
  exact h x
def pairsOf (n : Nat) : List Pr := (List.range n).flatMap fun b => (List.range b).map fun a => (a, b)
def prC (x : Pr) : List Value := [natV x.1, natV x.2]
theorem pairsOf_succ (n : Nat) : pairsOf (n + 1) = pairsOf n ++ (List.range n).map fun a => (a, n) := by
  unfold pairsOf; rw [List.range_succ, List.flatMap_append]; simp
theorem prs_len (l : List Pr) : (l.map prC).flatten.length = l.length * 2 := by
  induction l with
  | nil => rfl
  | cons x l ih => simp only [List.map_cons, List.flatten_cons, List.length_append, ih, List.length_cons]; show 2 + _ = _; omega
theorem pairs_len {n : Nat} (h : n ≤ 4) : (pairsOf n).length ≤ 6 := by
  rcases (by omega : n = 0 ∨ n = 1 ∨ n = 2 ∨ n = 3 ∨ n = 4) with rfl | rfl | rfl | rfl | rfl <;> decide
theorem pairs_mem {n : Nat} {x : Pr} (h : x ∈ pairsOf n) : x.1 < x.2 ∧ x.2 < n := by
  unfold pairsOf at h
  obtain ⟨b, hb, hx⟩ := List.mem_flatMap.1 h
  obtain ⟨a, ha, rfl⟩ := List.mem_map.1 hx
  rw [List.mem_range] at ha hb
  exact ⟨ha, hb⟩
def befV (d e : Dt) : Int := if d.f ≠ e.f then (d.f : Int) - e.f else if d.t ≠ e.t then (d.t : Int) - e.t else d.m - e.m
structure Dt.fit (d : Dt) : Prop where
  f : d.f < 5
  t : d.t < 5
  m : -(2 ^ 50) ≤ d.m ∧ d.m ≤ 2 ^ 50
section
variable {mn : Who} {v : View}
theorem before_x {d e : Dt} (hd : d.fit) (he : e.fit) : Ret1 Try.prog mn 38 [d.val, e.val] (intV (befV d e)) v := by
  obtain ⟨f, t, m⟩ := d
  obtain ⟨f', t', m'⟩ := e
  obtain ⟨h1, h2, h3, h4⟩ := hd
  obtain ⟨h1', h2', h3', h4'⟩ := he
  simp only at h1 h2 h3 h4 h1' h2' h3' h4'
  refine callsB_fn tab func38 rfl (Nat.le_of_ble_eq_true rfl) (args := [.agg (List.toArray [natV f, natV t, intV m]), .agg (List.toArray [natV f', natV t', intV m'])]) ?_
  repeat' (first | refine cs ?_ | refine ss ?_ | (((with_reducible apply Q_box); (focus (exact rfl)); (focus (exact rfl)); (focus (exact rfl))); intro bx) | (((with_reducible apply Q_alloc tab); (focus (exact rfl)); (focus (exact rfl)); (focus (exact rfl))); intro bx) | refine S_do (by kernel_rfl) (A_storeN tab rfl rfl rfl rfl rfl rfl rfl (by ((repeat (first | exact InB.head | apply InB.tail | (with_reducible apply InB.app))); done)) (by exact rfl) (by ((repeat (first | exact SetB.head | apply SetB.tail | (with_reducible apply SetB.app))); done)) ⟨Le.refl _, (by (repeat (first | exact trivial | (apply And.intro; (focus (first | (apply Or.inr; (try dsimp only); ((repeat (first | exact InB.head | apply InB.tail | (with_reducible apply InB.app))); done)) | (apply Or.inl; kernel_rfl))))))), ?_⟩))
  by_cases hf : f = f'
  · subst hf
    rw [show ((f : Int) != f) = false by simp]
    repeat' (first | refine cs ?_ | refine ss ?_ | (((with_reducible apply Q_box); (focus (exact rfl)); (focus (exact rfl)); (focus (exact rfl))); intro bx) | (((with_reducible apply Q_alloc tab); (focus (exact rfl)); (focus (exact rfl)); (focus (exact rfl))); intro bx) | refine S_do (by kernel_rfl) (A_storeN tab rfl rfl rfl rfl rfl rfl rfl (by ((repeat (first | exact InB.head | apply InB.tail | (with_reducible apply InB.app))); done)) (by exact rfl) (by ((repeat (first | exact SetB.head | apply SetB.tail | (with_reducible apply SetB.app))); done)) ⟨Le.refl _, (by (repeat (first | exact trivial | (apply And.intro; (focus (first | (apply Or.inr; (try dsimp only); ((repeat (first | exact InB.head | apply InB.tail | (with_reducible apply InB.app))); done)) | (apply Or.inl; kernel_rfl))))))), ?_⟩))
    by_cases ht : t = t'
    · subst ht
      rw [show ((t : Int) != t) = false by simp]
      repeat' (first | refine cs ?_ | refine ss ?_ | (((with_reducible apply Q_box); (focus (exact rfl)); (focus (exact rfl)); (focus (exact rfl))); intro bx) | (((with_reducible apply Q_alloc tab); (focus (exact rfl)); (focus (exact rfl)); (focus (exact rfl))); intro bx) | refine S_do (by kernel_rfl) (A_storeN tab rfl rfl rfl rfl rfl rfl rfl (by ((repeat (first | exact InB.head | apply InB.tail | (with_reducible apply InB.app))); done)) (by exact rfl) (by ((repeat (first | exact SetB.head | apply SetB.tail | (with_reducible apply SetB.app))); done)) ⟨Le.refl _, (by (repeat (first | exact trivial | (apply And.intro; (focus (first | (apply Or.inr; (try dsimp only); ((repeat (first | exact InB.head | apply InB.tail | (with_reducible apply InB.app))); done)) | (apply Or.inl; kernel_rfl))))))), ?_⟩))
      refine Fn_ret tab [] (by exact .tmp rfl .nil) (Back.here cntL) ?_
      exact ⟨by simp [befV, oneOf], rfl⟩
    · rw [show ((t : Int) != t') = true from bne_iff_ne.2 (by omega)]
      repeat' (first | refine cs ?_ | refine ss ?_ | (((with_reducible apply Q_box); (focus (exact rfl)); (focus (exact rfl)); (focus (exact rfl))); intro bx) | (((with_reducible apply Q_alloc tab); (focus (exact rfl)); (focus (exact rfl)); (focus (exact rfl))); intro bx) | refine S_do (by kernel_rfl) (A_storeN tab rfl rfl rfl rfl rfl rfl rfl (by ((repeat (first | exact InB.head | apply InB.tail | (with_reducible apply InB.app))); done)) (by exact rfl) (by ((repeat (first | exact SetB.head | apply SetB.tail | (with_reducible apply SetB.app))); done)) ⟨Le.refl _, (by (repeat (first | exact trivial | (apply And.intro; (focus (first | (apply Or.inr; (try dsimp only); ((repeat (first | exact InB.head | apply InB.tail | (with_reducible apply InB.app))); done)) | (apply Or.inl; kernel_rfl))))))), ?_⟩))
      refine Fn_ret tab [] (by exact .tmp rfl .nil) (Back.here cntL) ?_
      exact ⟨by simp [befV, oneOf, ht], rfl⟩
  · rw [show ((f : Int) != f') = true from bne_iff_ne.2 (by omega)]
    repeat' (first | refine cs ?_ | refine ss ?_ | (((with_reducible apply Q_box); (focus (exact rfl)); (focus (exact rfl)); (focus (exact rfl))); intro bx) | (((with_reducible apply Q_alloc tab); (focus (exact rfl)); (focus (exact rfl)); (focus (exact rfl))); intro bx) | refine S_do (by kernel_rfl) (A_storeN tab rfl rfl rfl rfl rfl rfl rfl (by ((repeat (first | exact InB.head | apply InB.tail | (with_reducible apply InB.app))); done)) (by exact rfl) (by ((repeat (first | exact SetB.head | apply SetB.tail | (with_reducible apply SetB.app))); done)) ⟨Le.refl _, (by (repeat (first | exact trivial | (apply And.intro; (focus (first | (apply Or.inr; (try dsimp only); ((repeat (first | exact InB.head | apply InB.tail | (with_reducible apply InB.app))); done)) | (apply Or.inl; kernel_rfl))))))), ?_⟩))
    refine Fn_ret tab [] (by exact .tmp rfl .nil) (Back.here cntL) ?_
    exact ⟨by simp [befV, oneOf, hf], rfl⟩
theorem paid_x {L : List Int} {f t : Nat} {m B : Int} (hl : L.length = 5) (hf : f < 5) (ht : t < 5) (hs : Sm B L) (hB : 0 ≤ B ∧ B ≤ 2 ^ 50) (hm : -B ≤ m ∧ m ≤ B) : Ret1 Try.prog mn 52 [netV L, Dt.val ⟨f, t, m⟩] (netV (paid L f t m)) v := by
  refine callsB_fn tab func52 rfl (Nat.le_of_ble_eq_true rfl) (args := [netV L, .agg (List.toArray [natV f, natV t, intV m])]) ?_
  have hs1 := hs f
  have hsm2 : Sm (B + B) (addAt L f m) := hs.add (by omega) hm
  have hs2 := hsm2 t
  have hl' : (addAt L f m).length = 5 := by rw [addAt_len]; exact hl
  repeat' (first | refine cs ?_ | refine ss ?_ | (((with_reducible apply Q_box); (focus (exact rfl)); (focus (exact rfl)); (focus (exact rfl))); intro bx) | (((with_reducible apply Q_alloc tab); (focus (exact rfl)); (focus (exact rfl)); (focus (exact rfl))); intro bx) | refine S_do (by kernel_rfl) (A_storeN tab rfl rfl rfl rfl rfl rfl rfl (by ((repeat (first | exact InB.head | apply InB.tail | (with_reducible apply InB.app))); done)) (by exact rfl) (by ((repeat (first | exact SetB.head | apply SetB.tail | (with_reducible apply SetB.app))); done)) ⟨Le.refl _, (by (repeat (first | exact trivial | (apply And.intro; (focus (first | (apply Or.inr; (try dsimp only); ((repeat (first | exact InB.head | apply InB.tail | (with_reducible apply InB.app))); done)) | (apply Or.inl; kernel_rfl))))))), ?_⟩))
  rename_i b2 b3
  obtain ⟨b4, rfl⟩ : ∃ b : Nat, b = bx := ⟨bx, rfl⟩
  refine C_draw [8] [0, 1, 2, 3, 4, 5, 6, 7, 8] mixed rfl (by kernel_rfl) ?_
  repeat' (first | refine cs ?_ | refine ss ?_ | (((with_reducible apply Q_box); (focus (exact rfl)); (focus (exact rfl)); (focus (exact rfl))); intro bx) | (((with_reducible apply Q_alloc tab); (focus (exact rfl)); (focus (exact rfl)); (focus (exact rfl))); intro bx) | refine S_do (by kernel_rfl) (A_storeN tab rfl rfl rfl rfl rfl rfl rfl (by ((repeat (first | exact InB.head | apply InB.tail | (with_reducible apply InB.app))); done)) (by exact rfl) (by ((repeat (first | exact SetB.head | apply SetB.tail | (with_reducible apply SetB.app))); done)) ⟨Le.refl _, (by (repeat (first | exact trivial | (apply And.intro; (focus (first | (apply Or.inr; (try dsimp only); ((repeat (first | exact InB.head | apply InB.tail | (with_reducible apply InB.app))); done)) | (apply Or.inl; kernel_rfl))))))), ?_⟩))
  refine S_elemA tab f rfl rfl rfl (by kernel_rfl) rfl rfl rfl rfl rfl (by omega) ?_
  refine S_loadB tab rfl rfl rfl (by kernel_rfl) rfl (by ((repeat (first | exact InB.head | apply InB.tail | (with_reducible apply InB.app))); done)) (readB_one tab rfl rfl rfl (netC_get L (by omega))) ?_
  repeat (refine ss ?_)
  refine S_elemA tab f rfl rfl rfl (by kernel_rfl) rfl rfl rfl rfl rfl (by omega) ?_
  refine S_do (by kernel_rfl) (A_store tab (c := netC L) (x := intV (gat L f + m)) rfl rfl rfl rfl rfl rfl rfl (by ((repeat (first | exact InB.head | apply InB.tail | (with_reducible apply InB.app))); done)) (Nat.ble_eq_true_of_le (by show 0 + f * 1 + 1 ≤ 5; omega)) (by rw [netC_write hl (by omega)]; ((repeat (first | exact SetB.head | apply SetB.tail | (with_reducible apply SetB.app))); done)) ⟨Le.refl _, (by (repeat (first | exact trivial | (apply And.intro; (focus (first | (apply Or.inr; (try dsimp only); ((repeat (first | exact InB.head | apply InB.tail | (with_reducible apply InB.app))); done)) | (apply Or.inl; kernel_rfl))))))), ?_⟩)
  change XS _ _ _ _ _ _ _ _ _ _ ⟨_, _, [_, _, (b2, netC (addAt L f m), 77)]⟩ _
  repeat' (first | refine cs ?_ | refine ss ?_ | (((with_reducible apply Q_box); (focus (exact rfl)); (focus (exact rfl)); (focus (exact rfl))); intro bx) | (((with_reducible apply Q_alloc tab); (focus (exact rfl)); (focus (exact rfl)); (focus (exact rfl))); intro bx) | refine S_do (by kernel_rfl) (A_storeN tab rfl rfl rfl rfl rfl rfl rfl (by ((repeat (first | exact InB.head | apply InB.tail | (with_reducible apply InB.app))); done)) (by exact rfl) (by ((repeat (first | exact SetB.head | apply SetB.tail | (with_reducible apply SetB.app))); done)) ⟨Le.refl _, (by (repeat (first | exact trivial | (apply And.intro; (focus (first | (apply Or.inr; (try dsimp only); ((repeat (first | exact InB.head | apply InB.tail | (with_reducible apply InB.app))); done)) | (apply Or.inl; kernel_rfl))))))), ?_⟩))
  refine C_draw [8] [0, 1, 2, 3, 4, 5, 6, 7, 8] mixed rfl (by kernel_rfl) ?_
  repeat' (first | refine cs ?_ | refine ss ?_ | (((with_reducible apply Q_box); (focus (exact rfl)); (focus (exact rfl)); (focus (exact rfl))); intro bx) | (((with_reducible apply Q_alloc tab); (focus (exact rfl)); (focus (exact rfl)); (focus (exact rfl))); intro bx) | refine S_do (by kernel_rfl) (A_storeN tab rfl rfl rfl rfl rfl rfl rfl (by ((repeat (first | exact InB.head | apply InB.tail | (with_reducible apply InB.app))); done)) (by exact rfl) (by ((repeat (first | exact SetB.head | apply SetB.tail | (with_reducible apply SetB.app))); done)) ⟨Le.refl _, (by (repeat (first | exact trivial | (apply And.intro; (focus (first | (apply Or.inr; (try dsimp only); ((repeat (first | exact InB.head | apply InB.tail | (with_reducible apply InB.app))); done)) | (apply Or.inl; kernel_rfl))))))), ?_⟩))
  refine S_elemA tab t rfl rfl rfl (by kernel_rfl) rfl rfl rfl rfl rfl (by omega) ?_
  refine S_loadB tab rfl rfl rfl (by kernel_rfl) rfl (by ((repeat (first | exact InB.head | apply InB.tail | (with_reducible apply InB.app))); done)) (readB_one tab rfl rfl rfl (netC_get (addAt L f m) (by omega))) ?_
  repeat (refine ss ?_)
  refine S_elemA tab t rfl rfl rfl (by kernel_rfl) rfl rfl rfl rfl rfl (by omega) ?_
  refine S_do (by kernel_rfl) (A_store tab (c := netC (addAt L f m)) (x := intV (gat (addAt L f m) t - m)) rfl rfl rfl rfl rfl rfl rfl (by ((repeat (first | exact InB.head | apply InB.tail | (with_reducible apply InB.app))); done)) (Nat.ble_eq_true_of_le (by show 0 + t * 1 + 1 ≤ 5; omega)) (by rw [netC_write hl' (by omega)]; ((repeat (first | exact SetB.head | apply SetB.tail | (with_reducible apply SetB.app))); done)) ⟨Le.refl _, (by (repeat (first | exact trivial | (apply And.intro; (focus (first | (apply Or.inr; (try dsimp only); ((repeat (first | exact InB.head | apply InB.tail | (with_reducible apply InB.app))); done)) | (apply Or.inl; kernel_rfl))))))), ?_⟩)
  change XS _ _ _ _ _ _ _ _ _ _ ⟨_, _, [_, _, (b2, netC (paid L f t m), 77)]⟩ _
  repeat' (first | refine cs ?_ | refine ss ?_ | (((with_reducible apply Q_box); (focus (exact rfl)); (focus (exact rfl)); (focus (exact rfl))); intro bx) | (((with_reducible apply Q_alloc tab); (focus (exact rfl)); (focus (exact rfl)); (focus (exact rfl))); intro bx) | refine S_do (by kernel_rfl) (A_storeN tab rfl rfl rfl rfl rfl rfl rfl (by ((repeat (first | exact InB.head | apply InB.tail | (with_reducible apply InB.app))); done)) (by exact rfl) (by ((repeat (first | exact SetB.head | apply SetB.tail | (with_reducible apply SetB.app))); done)) ⟨Le.refl _, (by (repeat (first | exact trivial | (apply And.intro; (focus (first | (apply Or.inr; (try dsimp only); ((repeat (first | exact InB.head | apply InB.tail | (with_reducible apply InB.app))); done)) | (apply Or.inl; kernel_rfl))))))), ?_⟩))
  refine Fn_ret tab [] (xs := [netV (paid L f t m)]) (resL_cell tab rfl (by ((repeat (first | exact InB.head | apply InB.tail | (with_reducible apply InB.app))); done)) rfl .nil) (Back.here cntL) ?_
  exact ⟨rfl, rfl⟩
theorem clone_x {l : List Int} {a : Addr} {cap N : Nat} (hrow : RowAt v (some a) (l.map intV)) (hlen : l.length < 2 ^ 30) (hN : l.length = N) : CallsB Try.prog mn 24 #[.slice (some a) N cap] (RetB fun r β' => ∃ a' cap', r = .slice a' N cap' ∧ OwnS 3 1 β' a' N cap' (l.map intV)) [] v := by
  subst hN
  refine callsB_fn tab func24 rfl (Nat.le_of_ble_eq_true rfl) (args := [_]) ?_
  repeat' (first | refine cs ?_ | refine ss ?_ | (((with_reducible apply Q_box); (focus (exact rfl)); (focus (exact rfl)); (focus (exact rfl))); intro bx) | (((with_reducible apply Q_alloc tab); (focus (exact rfl)); (focus (exact rfl)); (focus (exact rfl))); intro bx) | refine S_do (by kernel_rfl) (A_storeN tab rfl rfl rfl rfl rfl rfl rfl (by ((repeat (first | exact InB.head | apply InB.tail | (with_reducible apply InB.app))); done)) (by exact rfl) (by ((repeat (first | exact SetB.head | apply SetB.tail | (with_reducible apply SetB.app))); done)) ⟨Le.refl _, (by (repeat (first | exact trivial | (apply And.intro; (focus (first | (apply Or.inr; (try dsimp only); ((repeat (first | exact InB.head | apply InB.tail | (with_reducible apply InB.app))); done)) | (apply Or.inl; kernel_rfl))))))), ?_⟩))
  refine Q_op fun ho => A_lit tab ho rfl rfl rfl rfl rfl rfl rfl rfl rfl (fun b3 c3 hL => ?_)
  clear ho
  repeat' (first | refine cs ?_ | refine ss ?_ | (((with_reducible apply Q_box); (focus (exact rfl)); (focus (exact rfl)); (focus (exact rfl))); intro bx) | (((with_reducible apply Q_alloc tab); (focus (exact rfl)); (focus (exact rfl)); (focus (exact rfl))); intro bx) | refine S_do (by kernel_rfl) (A_storeN tab rfl rfl rfl rfl rfl rfl rfl (by ((repeat (first | exact InB.head | apply InB.tail | (with_reducible apply InB.app))); done)) (by exact rfl) (by ((repeat (first | exact SetB.head | apply SetB.tail | (with_reducible apply SetB.app))); done)) ⟨Le.refl _, (by (repeat (first | exact trivial | (apply And.intro; (focus (first | (apply Or.inr; (try dsimp only); ((repeat (first | exact InB.head | apply InB.tail | (with_reducible apply InB.app))); done)) | (apply Or.inl; kernel_rfl))))))), ?_⟩))
  refine Q_op fun ho => A_append tab (xs := l.map intV) [(b3, c3, 3)] [] [] ho rfl rfl rfl rfl rfl rfl rfl rfl rfl rfl cntA hL
    (fun hb => RowAt.le hrow (union_le _ _)) (by simp) (ones l intV fun _ => rfl) (by show (2 * (0 + l.length) + 768) * 8 ≤ 2 ^ 48; omega) (by omega) (fun seg' a' cap' hS' => ?_)
  clear ho
  repeat' (first | refine cs ?_ | refine ss ?_ | (((with_reducible apply Q_box); (focus (exact rfl)); (focus (exact rfl)); (focus (exact rfl))); intro bx) | (((with_reducible apply Q_alloc tab); (focus (exact rfl)); (focus (exact rfl)); (focus (exact rfl))); intro bx) | refine S_do (by kernel_rfl) (A_storeN tab rfl rfl rfl rfl rfl rfl rfl (by ((repeat (first | exact InB.head | apply InB.tail | (with_reducible apply InB.app))); done)) (by exact rfl) (by ((repeat (first | exact SetB.head | apply SetB.tail | (with_reducible apply SetB.app))); done)) ⟨Le.refl _, (by (repeat (first | exact trivial | (apply And.intro; (focus (first | (apply Or.inr; (try dsimp only); ((repeat (first | exact InB.head | apply InB.tail | (with_reducible apply InB.app))); done)) | (apply Or.inl; kernel_rfl))))))), ?_⟩))
  refine Fn_ret tab seg' (by exact .tmp rfl .nil) (Back.here cntL) ?_
  rw [Nat.zero_add] at hS'
  exact ⟨a', cap', by show Value.slice a' (0 + l.length) cap' = _; rw [Nat.zero_add], hS'⟩
theorem bit_x {a b : Nat} (hab : a < b) (hb : b < 4) : CallsB Try.prog mn 49 #[natV a, natV b] (RetB fun r β' => ∃ z, r = .int .u32 z ∧ β' = []) [] v := by
  refine callsB_fn tab func49 rfl (Nat.le_of_ble_eq_true rfl) (args := [_, _]) ?_
  have : (a = 0 ∧ b = 1) ∨ (a = 0 ∧ b = 2) ∨ (a = 0 ∧ b = 3) ∨ (a = 1 ∧ b = 2) ∨ (a = 1 ∧ b = 3) ∨ (a = 2 ∧ b = 3) := by omega
  rcases this with ⟨rfl, rfl⟩ | ⟨rfl, rfl⟩ | ⟨rfl, rfl⟩ | ⟨rfl, rfl⟩ | ⟨rfl, rfl⟩ | ⟨rfl, rfl⟩
  all_goals repeat' (first | refine cs ?_ | refine ss ?_ | (((with_reducible apply Q_box); (focus (exact rfl)); (focus (exact rfl)); (focus (exact rfl))); intro bx) | (((with_reducible apply Q_alloc tab); (focus (exact rfl)); (focus (exact rfl)); (focus (exact rfl))); intro bx) | refine S_do (by kernel_rfl) (A_storeN tab rfl rfl rfl rfl rfl rfl rfl (by ((repeat (first | exact InB.head | apply InB.tail | (with_reducible apply InB.app))); done)) (by exact rfl) (by ((repeat (first | exact SetB.head | apply SetB.tail | (with_reducible apply SetB.app))); done)) ⟨Le.refl _, (by (repeat (first | exact trivial | (apply And.intro; (focus (first | (apply Or.inr; (try dsimp only); ((repeat (first | exact InB.head | apply InB.tail | (with_reducible apply InB.app))); done)) | (apply Or.inl; kernel_rfl))))))), ?_⟩))
  all_goals first | (refine Q_op fun ho => A_indexA tab (j := 0) ho rfl rfl rfl rfl (by decide) rfl rfl (by decide) rfl ?_; clear ho) | (refine Q_op fun ho => A_indexA tab (j := 1) ho rfl rfl rfl rfl (by decide) rfl rfl (by decide) rfl ?_; clear ho) | (refine Q_op fun ho => A_indexA tab (j := 2) ho rfl rfl rfl rfl (by decide) rfl rfl (by decide) rfl ?_; clear ho)
  all_goals repeat' (first | refine cs ?_ | refine ss ?_ | (((with_reducible apply Q_box); (focus (exact rfl)); (focus (exact rfl)); (focus (exact rfl))); intro bx) | (((with_reducible apply Q_alloc tab); (focus (exact rfl)); (focus (exact rfl)); (focus (exact rfl))); intro bx) | refine S_do (by kernel_rfl) (A_storeN tab rfl rfl rfl rfl rfl rfl rfl (by ((repeat (first | exact InB.head | apply InB.tail | (with_reducible apply InB.app))); done)) (by exact rfl) (by ((repeat (first | exact SetB.head | apply SetB.tail | (with_reducible apply SetB.app))); done)) ⟨Le.refl _, (by (repeat (first | exact trivial | (apply And.intro; (focus (first | (apply Or.inr; (try dsimp only); ((repeat (first | exact InB.head | apply InB.tail | (with_reducible apply InB.app))); done)) | (apply Or.inl; kernel_rfl))))))), ?_⟩))
  all_goals refine Fn_ret tab [] (by exact .tmp rfl .nil) (Back.here cntL) ?_
  all_goals exact ⟨_, rfl, rfl⟩
theorem zeroAnd (z : Int) : (IntKind.u32.wrap ((BitVec.ofInt IntKind.u32.bits 0 &&& BitVec.ofInt IntKind.u32.bits z).toNat : Int) != 0) = false := by
  have h : (BitVec.ofInt IntKind.u32.bits 0 &&& BitVec.ofInt IntKind.u32.bits z) = 0 := by simp
  rw [h]; rfl
theorem has_x {a b : Nat} (hab : a < b) (hb : b < 4) : Ret1 Try.prog mn 46 [.int .u32 0, natV a, natV b] (.bool false) v := by
  refine callsB_fn tab func46 rfl (Nat.le_of_ble_eq_true rfl) (args := [_, _, _]) ?_
  repeat' (first | refine cs ?_ | refine ss ?_ | (((with_reducible apply Q_box); (focus (exact rfl)); (focus (exact rfl)); (focus (exact rfl))); intro bx) | (((with_reducible apply Q_alloc tab); (focus (exact rfl)); (focus (exact rfl)); (focus (exact rfl))); intro bx) | refine S_do (by kernel_rfl) (A_storeN tab rfl rfl rfl rfl rfl rfl rfl (by ((repeat (first | exact InB.head | apply InB.tail | (with_reducible apply InB.app))); done)) (by exact rfl) (by ((repeat (first | exact SetB.head | apply SetB.tail | (with_reducible apply SetB.app))); done)) ⟨Le.refl _, (by (repeat (first | exact trivial | (apply And.intro; (focus (first | (apply Or.inr; (try dsimp only); ((repeat (first | exact InB.head | apply InB.tail | (with_reducible apply InB.app))); done)) | (apply Or.inl; kernel_rfl))))))), ?_⟩))
  refine Q_op fun ho => A_callR ([]) (_) ho bod49 rfl rfl rfl rfl rfl split0 (bit_x hab hb) (fun x β' hR => ?_)
  clear ho
  obtain ⟨z, rfl, rfl⟩ := hR
  repeat' (first | refine cs ?_ | refine ss ?_ | (((with_reducible apply Q_box); (focus (exact rfl)); (focus (exact rfl)); (focus (exact rfl))); intro bx) | (((with_reducible apply Q_alloc tab); (focus (exact rfl)); (focus (exact rfl)); (focus (exact rfl))); intro bx) | refine S_do (by kernel_rfl) (A_storeN tab rfl rfl rfl rfl rfl rfl rfl (by ((repeat (first | exact InB.head | apply InB.tail | (with_reducible apply InB.app))); done)) (by exact rfl) (by ((repeat (first | exact SetB.head | apply SetB.tail | (with_reducible apply SetB.app))); done)) ⟨Le.refl _, (by (repeat (first | exact trivial | (apply And.intro; (focus (first | (apply Or.inr; (try dsimp only); ((repeat (first | exact InB.head | apply InB.tail | (with_reducible apply InB.app))); done)) | (apply Or.inl; kernel_rfl))))))), ?_⟩))
  refine Fn_ret tab [] (by exact .tmp rfl .nil) (Back.here cntL) ?_
  exact ⟨by show Value.bool _ = _; rw [zeroAnd], rfl⟩
theorem net_x {o : Ow} (ho : o.ok v) : CallsB Try.prog mn 9 #[o.val] (RetB fun r β' => ∃ a cap, r = .tuple #[.slice a o.n cap, intV 0] ∧ OwnS 3 1 β' a o.n cap (((netsOf o.ds).take o.n).map intV)) [] v := by
  have hn := ho.n
  refine callsB_fn tab func9 rfl (Nat.le_of_ble_eq_true rfl) (args := [.agg (List.toArray [.slice o.ap o.n o.cp, .slice o.ad o.ds.length o.cd])]) ?_
  repeat' (first | refine cs ?_ | refine ss ?_ | (((with_reducible apply Q_box); (focus (exact rfl)); (focus (exact rfl)); (focus (exact rfl))); intro bx) | (((with_reducible apply Q_alloc tab); (focus (exact rfl)); (focus (exact rfl)); (focus (exact rfl))); intro bx) | refine S_do (by kernel_rfl) (A_storeN tab rfl rfl rfl rfl rfl rfl rfl (by ((repeat (first | exact InB.head | apply InB.tail | (with_reducible apply InB.app))); done)) (by exact rfl) (by ((repeat (first | exact SetB.head | apply SetB.tail | (with_reducible apply SetB.app))); done)) ⟨Le.refl _, (by (repeat (first | exact trivial | (apply And.intro; (focus (first | (apply Or.inr; (try dsimp only); ((repeat (first | exact InB.head | apply InB.tail | (with_reducible apply InB.app))); done)) | (apply Or.inl; kernel_rfl))))))), ?_⟩))
  refine Q_op fun ho' => A_ret1 ho' bod22 rfl rfl rfl rfl rfl (openO_x ho) ?_
  clear ho'
  repeat' (first | refine cs ?_ | refine ss ?_ | (((with_reducible apply Q_box); (focus (exact rfl)); (focus (exact rfl)); (focus (exact rfl))); intro bx) | (((with_reducible apply Q_alloc tab); (focus (exact rfl)); (focus (exact rfl)); (focus (exact rfl))); intro bx) | refine S_do (by kernel_rfl) (A_storeN tab rfl rfl rfl rfl rfl rfl rfl (by ((repeat (first | exact InB.head | apply InB.tail | (with_reducible apply InB.app))); done)) (by exact rfl) (by ((repeat (first | exact SetB.head | apply SetB.tail | (with_reducible apply SetB.app))); done)) ⟨Le.refl _, (by (repeat (first | exact trivial | (apply And.intro; (focus (first | (apply Or.inr; (try dsimp only); ((repeat (first | exact InB.head | apply InB.tail | (with_reducible apply InB.app))); done)) | (apply Or.inl; kernel_rfl))))))), ?_⟩))
  refine Q_op fun ho' => A_ret1 ho' bod23 rfl rfl rfl rfl rfl (nets_x ho) ?_
  clear ho'
  have hl5 := netsOf_len o.ds
  generalize hL : netsOf o.ds = L at *
  repeat' (first | refine cs ?_ | refine ss ?_ | (((with_reducible apply Q_box); (focus (exact rfl)); (focus (exact rfl)); (focus (exact rfl))); intro bx) | (((with_reducible apply Q_alloc tab); (focus (exact rfl)); (focus (exact rfl)); (focus (exact rfl))); intro bx) | refine S_do (by kernel_rfl) (A_storeN tab rfl rfl rfl rfl rfl rfl rfl (by ((repeat (first | exact InB.head | apply InB.tail | (with_reducible apply InB.app))); done)) (by exact rfl) (by ((repeat (first | exact SetB.head | apply SetB.tail | (with_reducible apply SetB.app))); done)) ⟨Le.refl _, (by (repeat (first | exact trivial | (apply And.intro; (focus (first | (apply Or.inr; (try dsimp only); ((repeat (first | exact InB.head | apply InB.tail | (with_reducible apply InB.app))); done)) | (apply Or.inl; kernel_rfl))))))), ?_⟩))
  refine Q_op fun ho' => A_sliceArr_h tab (h' := o.n) ho' rfl rfl rfl rfl rfl rfl (by omega) ?_
  clear ho'
  repeat' (first | refine cs ?_ | refine ss ?_ | (((with_reducible apply Q_box); (focus (exact rfl)); (focus (exact rfl)); (focus (exact rfl))); intro bx) | (((with_reducible apply Q_alloc tab); (focus (exact rfl)); (focus (exact rfl)); (focus (exact rfl))); intro bx) | refine S_do (by kernel_rfl) (A_storeN tab rfl rfl rfl rfl rfl rfl rfl (by ((repeat (first | exact InB.head | apply InB.tail | (with_reducible apply InB.app))); done)) (by exact rfl) (by ((repeat (first | exact SetB.head | apply SetB.tail | (with_reducible apply SetB.app))); done)) ⟨Le.refl _, (by (repeat (first | exact trivial | (apply And.intro; (focus (first | (apply Or.inr; (try dsimp only); ((repeat (first | exact InB.head | apply InB.tail | (with_reducible apply InB.app))); done)) | (apply Or.inl; kernel_rfl))))))), ?_⟩))
  refine Q_op fun ho' => A_bok fun hbk => A_callR [] _ ho' bod24 rfl rfl rfl rfl rfl split0 (clone_x (l := L.take o.n) (RowAt.box (c := netC L) (off := 0 + 0 * 1) hbk (by ((repeat (first | exact InB.head | apply InB.tail | (with_reducible apply InB.app))); done)) (by rw [List.length_map, List.length_take]; show 0 + 0 * 1 + min o.n L.length ≤ 5; omega) (fun j y hy => ?_)) (by rw [List.length_take]; omega) (by rw [List.length_take]; omega)) (fun x β' hR => ?_)
  · rw [List.getElem?_map, List.getElem?_take] at hy
    split at hy
    · rename_i hj
      have hjl : j < L.length := by omega
      rw [List.getElem?_eq_getElem hjl] at hy
      have h0 := netC_get L (j := j) (by omega)
      rw [show 0 + 0 * 1 + j = 0 + j * 1 by omega, h0]
      simp only [Option.map_some, Option.some.injEq] at hy
      rw [← hy]
      unfold gat
      rw [List.getD_eq_getElem?_getD, List.getElem?_eq_getElem hjl]; rfl
    · cases hy
  · clear ho'
    obtain ⟨a', cap', rfl, hS⟩ := hR
    repeat' (first | refine cs ?_ | refine ss ?_ | (((with_reducible apply Q_box); (focus (exact rfl)); (focus (exact rfl)); (focus (exact rfl))); intro bx) | (((with_reducible apply Q_alloc tab); (focus (exact rfl)); (focus (exact rfl)); (focus (exact rfl))); intro bx) | refine S_do (by kernel_rfl) (A_storeN tab rfl rfl rfl rfl rfl rfl rfl (by ((repeat (first | exact InB.head | apply InB.tail | (with_reducible apply InB.app))); done)) (by exact rfl) (by ((repeat (first | exact SetB.head | apply SetB.tail | (with_reducible apply SetB.app))); done)) ⟨Le.refl _, (by (repeat (first | exact trivial | (apply And.intro; (focus (first | (apply Or.inr; (try dsimp only); ((repeat (first | exact InB.head | apply InB.tail | (with_reducible apply InB.app))); done)) | (apply Or.inl; kernel_rfl))))))), ?_⟩))
    refine Fn_ret tab β' (xs := [.slice a' o.n cap', intV 0]) (by exact .tmp rfl (.tmp rfl .nil)) (Back.here cntL) ?_
    exact ⟨a', cap', rfl, hS⟩
theorem pairs_x {o : Ow} (ho : o.ok v) : CallsB Try.prog mn 43 #[o.val] (RetB fun r β' => ∃ a cap, r = .slice a (pairsOf o.n).length cap ∧ OwnS 123 2 β' a (pairsOf o.n).length cap ((pairsOf o.n).map prC).flatten) [] v := by
  have hn := ho.n
  refine callsB_fn tab func43 rfl (Nat.le_of_ble_eq_true rfl) (args := [.agg (List.toArray [.slice o.ap o.n o.cp, .slice o.ad o.ds.length o.cd])]) ?_
  repeat' (first | refine cs ?_ | refine ss ?_ | (((with_reducible apply Q_box); (focus (exact rfl)); (focus (exact rfl)); (focus (exact rfl))); intro bx) | (((with_reducible apply Q_alloc tab); (focus (exact rfl)); (focus (exact rfl)); (focus (exact rfl))); intro bx) | refine S_do (by kernel_rfl) (A_storeN tab rfl rfl rfl rfl rfl rfl rfl (by ((repeat (first | exact InB.head | apply InB.tail | (with_reducible apply InB.app))); done)) (by exact rfl) (by ((repeat (first | exact SetB.head | apply SetB.tail | (with_reducible apply SetB.app))); done)) ⟨Le.refl _, (by (repeat (first | exact trivial | (apply And.intro; (focus (first | (apply Or.inr; (try dsimp only); ((repeat (first | exact InB.head | apply InB.tail | (with_reducible apply InB.app))); done)) | (apply Or.inl; kernel_rfl))))))), ?_⟩))
  refine C_loop (α := Nat × Boxes × Option Addr × Nat) (fun z => ⟨[], [(10, .int .i64 z.1), (9, .int .i64 o.n), (3, .slice z.2.2.1 (pairsOf z.1).length z.2.2.2)], z.2.1⟩)
    (fun z w => w = v ∧ z.1 ≤ o.n ∧ OwnS 123 2 z.2.1 z.2.2.1 (pairsOf z.1).length z.2.2.2 ((pairsOf z.1).map prC).flatten) (fun z => o.n - z.1) (0, [], none, 0) ⟨rfl, (by (repeat (first | exact trivial | refine ⟨rfl, ?_⟩))), cntL⟩ (Le.refl _) ⟨rfl, Nat.zero_le _, .nil⟩ ?_
  rintro ⟨b, seg, a, cap⟩ w ⟨rfl, hb, hS⟩
  simp only at hb hS
  dsimp only
  repeat' (first | refine cs ?_ | refine ss ?_ | (((with_reducible apply Q_box); (focus (exact rfl)); (focus (exact rfl)); (focus (exact rfl))); intro bx) | (((with_reducible apply Q_alloc tab); (focus (exact rfl)); (focus (exact rfl)); (focus (exact rfl))); intro bx) | refine S_do (by kernel_rfl) (A_storeN tab rfl rfl rfl rfl rfl rfl rfl (by ((repeat (first | exact InB.head | apply InB.tail | (with_reducible apply InB.app))); done)) (by exact rfl) (by ((repeat (first | exact SetB.head | apply SetB.tail | (with_reducible apply SetB.app))); done)) ⟨Le.refl _, (by (repeat (first | exact trivial | (apply And.intro; (focus (first | (apply Or.inr; (try dsimp only); ((repeat (first | exact InB.head | apply InB.tail | (with_reducible apply InB.app))); done)) | (apply Or.inl; kernel_rfl))))))), ?_⟩))
  refine XC_cond rfl (fun h => ?_) (fun h => ?_)
  · (simp only [decide_eq_true_eq, decide_eq_false_iff_not, beq_iff_eq, bne_iff_ne, Bool.not_eq_true', beq_eq_false_iff_ne, bne_eq_false_iff_eq, ne_eq] at h)
    have hlt : b < o.n := by omega
    clear h
    have hpl := pairs_len (n := b) (by omega)
    repeat' (first | refine cs ?_ | refine ss ?_ | (((with_reducible apply Q_box); (focus (exact rfl)); (focus (exact rfl)); (focus (exact rfl))); intro bx) | (((with_reducible apply Q_alloc tab); (focus (exact rfl)); (focus (exact rfl)); (focus (exact rfl))); intro bx) | refine S_do (by kernel_rfl) (A_storeN tab rfl rfl rfl rfl rfl rfl rfl (by ((repeat (first | exact InB.head | apply InB.tail | (with_reducible apply InB.app))); done)) (by exact rfl) (by ((repeat (first | exact SetB.head | apply SetB.tail | (with_reducible apply SetB.app))); done)) ⟨Le.refl _, (by (repeat (first | exact trivial | (apply And.intro; (focus (first | (apply Or.inr; (try dsimp only); ((repeat (first | exact InB.head | apply InB.tail | (with_reducible apply InB.app))); done)) | (apply Or.inl; kernel_rfl))))))), ?_⟩))
    refine C_loop (α := Nat × Boxes × Option Addr × Nat) (fun z => ⟨[], [(14, .int .i64 z.1), (13, .int .i64 b), (4, .int .i64 b), (10, .int .i64 b), (9, .int .i64 o.n), (3, .slice z.2.2.1 ((pairsOf b).length + z.1) z.2.2.2)], z.2.1⟩)
      (fun z w' => w' = w ∧ z.1 ≤ b ∧ OwnS 123 2 z.2.1 z.2.2.1 ((pairsOf b).length + z.1) z.2.2.2 ((pairsOf b ++ (List.range z.1).map fun x => (x, b)).map prC).flatten) (fun z => b - z.1) (0, seg, a, cap) ⟨rfl, (by (repeat (first | exact trivial | refine ⟨rfl, ?_⟩))), cntL⟩ (Le.refl _) ⟨rfl, Nat.zero_le _, by simpa using hS⟩ ?_
    rintro ⟨x, seg, a, cap⟩ w' ⟨rfl, hx, hS⟩
    simp only at hx hS
    dsimp only
    repeat' (first | refine cs ?_ | refine ss ?_ | (((with_reducible apply Q_box); (focus (exact rfl)); (focus (exact rfl)); (focus (exact rfl))); intro bx) | (((with_reducible apply Q_alloc tab); (focus (exact rfl)); (focus (exact rfl)); (focus (exact rfl))); intro bx) | refine S_do (by kernel_rfl) (A_storeN tab rfl rfl rfl rfl rfl rfl rfl (by ((repeat (first | exact InB.head | apply InB.tail | (with_reducible apply InB.app))); done)) (by exact rfl) (by ((repeat (first | exact SetB.head | apply SetB.tail | (with_reducible apply SetB.app))); done)) ⟨Le.refl _, (by (repeat (first | exact trivial | (apply And.intro; (focus (first | (apply Or.inr; (try dsimp only); ((repeat (first | exact InB.head | apply InB.tail | (with_reducible apply InB.app))); done)) | (apply Or.inl; kernel_rfl))))))), ?_⟩))
    refine XC_cond rfl (fun h => ?_) (fun h => ?_)
    · (simp only [decide_eq_true_eq, decide_eq_false_iff_not, beq_iff_eq, bne_iff_ne, Bool.not_eq_true', beq_eq_false_iff_ne, bne_eq_false_iff_eq, ne_eq] at h)
      have hlt2 : x < b := by omega
      clear h
      repeat' (first | refine cs ?_ | refine ss ?_ | (((with_reducible apply Q_box); (focus (exact rfl)); (focus (exact rfl)); (focus (exact rfl))); intro bx) | (((with_reducible apply Q_alloc tab); (focus (exact rfl)); (focus (exact rfl)); (focus (exact rfl))); intro bx) | refine S_do (by kernel_rfl) (A_storeN tab rfl rfl rfl rfl rfl rfl rfl (by ((repeat (first | exact InB.head | apply InB.tail | (with_reducible apply InB.app))); done)) (by exact rfl) (by ((repeat (first | exact SetB.head | apply SetB.tail | (with_reducible apply SetB.app))); done)) ⟨Le.refl _, (by (repeat (first | exact trivial | (apply And.intro; (focus (first | (apply Or.inr; (try dsimp only); ((repeat (first | exact InB.head | apply InB.tail | (with_reducible apply InB.app))); done)) | (apply Or.inl; kernel_rfl))))))), ?_⟩))
      refine Q_op fun ho' => A_lit tab ho' rfl rfl rfl rfl rfl rfl rfl rfl rfl (fun b3 c3 hL => ?_)
      clear ho'
      repeat' (first | refine cs ?_ | refine ss ?_ | (((with_reducible apply Q_box); (focus (exact rfl)); (focus (exact rfl)); (focus (exact rfl))); intro bx) | (((with_reducible apply Q_alloc tab); (focus (exact rfl)); (focus (exact rfl)); (focus (exact rfl))); intro bx) | refine S_do (by kernel_rfl) (A_storeN tab rfl rfl rfl rfl rfl rfl rfl (by ((repeat (first | exact InB.head | apply InB.tail | (with_reducible apply InB.app))); done)) (by exact rfl) (by ((repeat (first | exact SetB.head | apply SetB.tail | (with_reducible apply SetB.app))); done)) ⟨Le.refl _, (by (repeat (first | exact trivial | (apply And.intro; (focus (first | (apply Or.inr; (try dsimp only); ((repeat (first | exact InB.head | apply InB.tail | (with_reducible apply InB.app))); done)) | (apply Or.inl; kernel_rfl))))))), ?_⟩))
      refine Q_op fun ho' => A_append tab (xs := prC (x, b)) seg [(b3, c3, 123)] [] ho' rfl rfl rfl rfl rfl rfl rfl rfl rfl rfl cntA hS
        (fun hb => RowAt.own hb cntL hL) rfl rfl (by show (2 * ((pairsOf b).length + x + 1) + 768) * 16 ≤ 2 ^ 48; omega) (by omega) (fun seg' a' cap' hS' => ?_)
      clear ho'
      repeat' (first | refine cs ?_ | refine ss ?_ | (((with_reducible apply Q_box); (focus (exact rfl)); (focus (exact rfl)); (focus (exact rfl))); intro bx) | (((with_reducible apply Q_alloc tab); (focus (exact rfl)); (focus (exact rfl)); (focus (exact rfl))); intro bx) | refine S_do (by kernel_rfl) (A_storeN tab rfl rfl rfl rfl rfl rfl rfl (by ((repeat (first | exact InB.head | apply InB.tail | (with_reducible apply InB.app))); done)) (by exact rfl) (by ((repeat (first | exact SetB.head | apply SetB.tail | (with_reducible apply SetB.app))); done)) ⟨Le.refl _, (by (repeat (first | exact trivial | (apply And.intro; (focus (first | (apply Or.inr; (try dsimp only); ((repeat (first | exact InB.head | apply InB.tail | (with_reducible apply InB.app))); done)) | (apply Or.inl; kernel_rfl))))))), ?_⟩))
      refine Loop_normal ⟨(x + 1, seg', a', cap'), w', by simp only; omega, ⟨rfl, (by (repeat (first | exact trivial | refine ⟨rfl, ?_⟩))), cntL⟩, Le.refl _, rfl, hlt2, ?_⟩
      simp only
      have e : ((pairsOf b ++ (List.range (x + 1)).map fun y => (y, b)).map prC).flatten = ((pairsOf b ++ (List.range x).map fun y => (y, b)).map prC).flatten ++ prC (x, b) := by simp [List.range_succ]
      rw [e]
      exact hS'
    · (simp only [decide_eq_true_eq, decide_eq_false_iff_not, beq_iff_eq, bne_iff_ne, Bool.not_eq_true', beq_eq_false_iff_ne, bne_eq_false_iff_eq, ne_eq] at h)
      have hxb : x = b := by omega
      subst hxb
      repeat' (first | refine cs ?_ | refine ss ?_ | (((with_reducible apply Q_box); (focus (exact rfl)); (focus (exact rfl)); (focus (exact rfl))); intro bx) | (((with_reducible apply Q_alloc tab); (focus (exact rfl)); (focus (exact rfl)); (focus (exact rfl))); intro bx) | refine S_do (by kernel_rfl) (A_storeN tab rfl rfl rfl rfl rfl rfl rfl (by ((repeat (first | exact InB.head | apply InB.tail | (with_reducible apply InB.app))); done)) (by exact rfl) (by ((repeat (first | exact SetB.head | apply SetB.tail | (with_reducible apply SetB.app))); done)) ⟨Le.refl _, (by (repeat (first | exact trivial | (apply And.intro; (focus (first | (apply Or.inr; (try dsimp only); ((repeat (first | exact InB.head | apply InB.tail | (with_reducible apply InB.app))); done)) | (apply Or.inl; kernel_rfl))))))), ?_⟩))
      have e1 := pairsOf_succ x
      refine Loop_normal ⟨(x + 1, seg, a, cap), w', by simp only; omega, ⟨rfl, ⟨rfl, rfl, ?_, trivial⟩, cntL⟩, Le.refl _, rfl, hlt, ?_⟩
      · simp only [e1, List.length_append, List.length_map, List.length_range]; rfl
      · simp only [e1, List.length_append, List.length_map, List.length_range]
        exact hS
  · (simp only [decide_eq_true_eq, decide_eq_false_iff_not, beq_iff_eq, bne_iff_ne, Bool.not_eq_true', beq_eq_false_iff_ne, bne_eq_false_iff_eq, ne_eq] at h)
    have hbn : b = o.n := by omega
    subst hbn
    repeat' (first | refine cs ?_ | refine ss ?_ | (((with_reducible apply Q_box); (focus (exact rfl)); (focus (exact rfl)); (focus (exact rfl))); intro bx) | (((with_reducible apply Q_alloc tab); (focus (exact rfl)); (focus (exact rfl)); (focus (exact rfl))); intro bx) | refine S_do (by kernel_rfl) (A_storeN tab rfl rfl rfl rfl rfl rfl rfl (by ((repeat (first | exact InB.head | apply InB.tail | (with_reducible apply InB.app))); done)) (by exact rfl) (by ((repeat (first | exact SetB.head | apply SetB.tail | (with_reducible apply SetB.app))); done)) ⟨Le.refl _, (by (repeat (first | exact trivial | (apply And.intro; (focus (first | (apply Or.inr; (try dsimp only); ((repeat (first | exact InB.head | apply InB.tail | (with_reducible apply InB.app))); done)) | (apply Or.inl; kernel_rfl))))))), ?_⟩))
    refine Fn_ret tab seg (by exact .tmp rfl .nil) (Back.here cntL) ?_
    exact ⟨a, cap, rfl, hS⟩
end
end Go.Proofs.Ytbbaionoibkohaa
end
section
namespace Go.Pal
open Go Go.Conc View
open Go.Sort (swp)
structure DB {E : Type} [Inhabited E] (SZ : Nat) (cl : E → List Value) (ok : E → Prop) (cap : Nat) (d : Array E) (c : Array Value) : Prop where
  size : c.size = cap * SZ
  le : d.size ≤ cap
  len : ∀ x : E, (cl x).length = SZ
  ok : ∀ {i : Nat}, i < d.size → ok d[i]!
  get : ∀ i, i < d.size → c.extract (i * SZ) (i * SZ + SZ) = (cl d[i]!).toArray
section
variable {E : Type} [Inhabited E] {SZ : Nat} {cl : E → List Value} {okE : E → Prop} {cap : Nat} {d : Array E} {c : Array Value}
theorem DB.bound (h : DB SZ cl okE cap d c) {i : Nat} (hi : i < d.size) : i * SZ + SZ ≤ c.size := by
  rw [h.size]
  have : (i + 1) * SZ ≤ cap * SZ := Nat.mul_le_mul_right _ (by have := h.le; omega)
  rw [Nat.add_mul, Nat.one_mul] at this
  exact this
theorem DB.recd (h : DB SZ cl okE cap d c) {i : Nat} (hi : i < d.size) : 0 + i * SZ + SZ ≤ c.size ∧ c.extract (0 + i * SZ) (0 + i * SZ + SZ) = (cl d[i]!).toArray := by
  rw [Nat.zero_add]
  exact ⟨h.bound hi, h.get i hi⟩
theorem DB.off (h : DB SZ cl okE cap d c) {i : Nat} (hi : i < d.size) {n : Nat} (hn : n = SZ) : Nat.ble (0 + i * SZ + n) c.size = true := by
  subst hn
  rw [Nat.zero_add]
  exact Nat.ble_eq_true_of_le (h.bound hi)
theorem DB.set (h : DB SZ cl okE cap d c) {i : Nat} (hi : i < d.size) {x : E} (hx : okE x) : DB SZ cl okE cap (d.setIfInBounds i x) (writeB c (0 + i * SZ) (cl x)) := by
  have hbd := h.bound hi
  have hlen := h.len x
  have hw : ∀ j, (writeB c (0 + i * SZ) (cl x))[j]? = if i * SZ ≤ j ∧ j < i * SZ + SZ then (cl x)[j - i * SZ]? else c[j]? := by
    intro j
    rw [writeB_get (by rw [hlen]; omega), hlen, Nat.zero_add]
  refine ⟨by rw [writeB_size, h.size], by simpa using h.le, h.len, fun {k} hk => ?_, fun k hk => ?_⟩
  · by_cases e : i = k
    · subst e
      rw [getElem!_pos (d.setIfInBounds i x) i hk, Array.getElem_setIfInBounds_self]
      exact hx
    · have hk' : k < d.size := by simpa using hk
      rw [getElem!_pos (d.setIfInBounds i x) k hk, Array.getElem_setIfInBounds_ne (by simpa using hk') e, ← getElem!_pos]
      exact h.ok hk'
  · have hk' : k < d.size := by simpa using hk
    have hbk := h.bound hk'
    apply Array.ext_getElem?
    intro q
    rw [Array.getElem?_extract]
    by_cases e : i = k
    · subst e
      rw [getElem!_pos (d.setIfInBounds i x) i hk, Array.getElem_setIfInBounds_self]
      split
      · rw [hw, if_pos (by omega), show i * SZ + q - i * SZ = q by omega]
        simp
      · rename_i hq
        rw [writeB_size] at hq
        have : (cl x).length ≤ q := by omega
        simp [List.getElem?_eq_none this]
    · rw [getElem!_pos (d.setIfInBounds i x) k hk, Array.getElem_setIfInBounds_ne (by simpa using hk') e, ← getElem!_pos]
      have hg := congrArg (fun a : Array Value => a[q]?) (h.get k hk')
      simp only [Array.getElem?_extract] at hg
      rw [← hg, writeB_size]
      split
      · rename_i hq
        rw [hw, if_neg]
        have hlt : q < SZ := by omega
        rintro ⟨h1, h2⟩
        rcases Nat.lt_or_gt_of_ne e with h3 | h3
        · have : (i + 1) * SZ ≤ k * SZ := Nat.mul_le_mul_right _ (by omega)
          rw [Nat.add_mul, Nat.one_mul] at this
          omega
        · have : (k + 1) * SZ ≤ i * SZ := Nat.mul_le_mul_right _ (by omega)
          rw [Nat.add_mul, Nat.one_mul] at this
          omega
      · rfl
theorem DB.swp (h : DB SZ cl okE cap d c) {i j : Nat} (hi : i < d.size) (hj : j < d.size) : DB SZ cl okE cap (swp d i j) (writeB (writeB c (0 + i * SZ) (cl d[j]!)) (0 + j * SZ) (cl d[i]!)) :=
  (h.set hi (h.ok hj)).set (by simpa using hj) (h.ok hi)
end
end Go.Pal
end
