/- Part 11 of the proof that stands in the last text. -/
import Derived.Test.YtbbaionoibkohaaPaj
set_option linter.all false
section
namespace Go.Proofs.Ytbbaionoibkohaa
open Go Go.Pal Go.Conc View
open Go.Proofs.Try
set_option maxHeartbeats 4000000
variable {mn : Who}
structure Bg where
  b : Nat
  a : Option Addr
  cap : Nat
  ns : List Int
def Bg.at (g : Bg) (n : Nat) (β : Boxes) : Prop := ∃ st, β = [(g.b, #[.slice g.a g.ns.length g.cap, .int .i64 n, .int .u64 st], 52)]
def Bg.ok (g : Bg) (v : View) : Prop := RowAt v g.a (g.ns.map (.int .i64))
def Bg.ptr (g : Bg) : Value := .pointer (some ⟨g.b, 0, none⟩)
theorem Bg.ok.le {g : Bg} {u v : View} (h : g.ok u) (hl : u.Le v) : g.ok v := RowAt.le h hl
theorem wrapu_nonneg (x : Int) : 0 ≤ IntKind.u64.wrap x ∧ IntKind.u64.wrap x < 2 ^ 64 := by
  simp only [IntKind.wrap, IntKind.signed, IntKind.bits]
  simp
  omega
theorem fdiv_range {x : Int} (h : 0 ≤ x ∧ x < 2 ^ 64) (k : Nat) : 0 ≤ x.fdiv (2 ^ k) ∧ x.fdiv (2 ^ k) < 2 ^ 64 := by
  have hp : (0 : Int) < 2 ^ k := Int.pow_pos (by decide)
  rw [Int.fdiv_eq_ediv_of_nonneg _ (Int.le_of_lt hp)]
  refine ⟨Int.ediv_nonneg h.1 (Int.le_of_lt hp), Int.lt_of_le_of_lt ?_ h.2⟩
  exact Int.ediv_le_self _ h.1
theorem wrapu {x : Int} (h0 : 0 ≤ x) (h1 : x < 2 ^ 64) : IntKind.u64.wrap x = x := by
  simp only [IntKind.wrap, IntKind.signed, IntKind.bits]
  simp
  omega
theorem draw_x {v : View} {g : Bg} {at' : Nat} {β : Boxes} (hr : g.ok v) (hB : g.at at' β) (hat : at' < 2 ^ 62) :
    CallsB Try.prog mn 30 #[g.ptr] (RetB fun r β' => (∃ x, r = .int .u64 x ∧ 0 ≤ x ∧ x < 2 ^ 64) ∧ g.at (at' + 1) β') β v := by
  obtain ⟨b, a, cap, ns⟩ := g
  obtain ⟨st, rfl⟩ := hB
  simp only [Bg.ok] at hr
  refine callsB_fn tab func30 rfl (Nat.le_of_ble_eq_true rfl) (args := [_]) ?_
  repeat' (first | refine cr ?_ | refine ss ?_ | (((with_reducible apply Q_box); (focus (exact rfl)); (focus (exact rfl)); (focus (exact rfl))); intro bx) | (((with_reducible apply Q_alloc tab); (focus (exact rfl)); (focus (exact rfl)); (focus (exact rfl))); intro bx) | refine S_do (by kernel_rfl) (A_storeN tab rfl rfl rfl rfl rfl rfl rfl (by ((repeat (first | exact InB.head | apply InB.tail | (with_reducible apply InB.app))); done)) (by exact rfl) (by ((repeat (first | exact SetB.head | apply SetB.tail | (with_reducible apply SetB.app))); done)) ⟨Le.refl _, (by (repeat (first | exact trivial | (apply And.intro; (focus (first | (apply Or.inr; (try dsimp only); ((repeat (first | exact InB.head | apply InB.tail | (with_reducible apply InB.app))); done)) | (apply Or.inl; kernel_rfl))))))), ?_⟩))
  refine C_cut (fun σ u => u = v ∧ ∃ x, σ = ⟨[], [(3, .int .u64 x), (0, .pointer (some ⟨b, 0, none⟩))], [(b, #[.slice a ns.length cap, .int .i64 (at' + 1 : Nat), .int .u64 st], 52)]⟩) ?_ ?_
  · rintro σ u ⟨rfl, x, rfl⟩
    repeat' (first | refine cr ?_ | refine ss ?_ | (((with_reducible apply Q_box); (focus (exact rfl)); (focus (exact rfl)); (focus (exact rfl))); intro bx) | (((with_reducible apply Q_alloc tab); (focus (exact rfl)); (focus (exact rfl)); (focus (exact rfl))); intro bx) | refine S_do (by kernel_rfl) (A_storeN tab rfl rfl rfl rfl rfl rfl rfl (by ((repeat (first | exact InB.head | apply InB.tail | (with_reducible apply InB.app))); done)) (by exact rfl) (by ((repeat (first | exact SetB.head | apply SetB.tail | (with_reducible apply SetB.app))); done)) ⟨Le.refl _, (by (repeat (first | exact trivial | (apply And.intro; (focus (first | (apply Or.inr; (try dsimp only); ((repeat (first | exact InB.head | apply InB.tail | (with_reducible apply InB.app))); done)) | (apply Or.inl; kernel_rfl))))))), ?_⟩))
    refine C_draw [13] [0, 1, 2, 3, 4, 5, 6, 7, 8, 9, 10, 11, 12, 13] mixed rfl (by kernel_rfl) ?_
    repeat' (first | refine cr ?_ | refine ss ?_ | (((with_reducible apply Q_box); (focus (exact rfl)); (focus (exact rfl)); (focus (exact rfl))); intro bx) | (((with_reducible apply Q_alloc tab); (focus (exact rfl)); (focus (exact rfl)); (focus (exact rfl))); intro bx) | refine S_do (by kernel_rfl) (A_storeN tab rfl rfl rfl rfl rfl rfl rfl (by ((repeat (first | exact InB.head | apply InB.tail | (with_reducible apply InB.app))); done)) (by exact rfl) (by ((repeat (first | exact SetB.head | apply SetB.tail | (with_reducible apply SetB.app))); done)) ⟨Le.refl _, (by (repeat (first | exact trivial | (apply And.intro; (focus (first | (apply Or.inr; (try dsimp only); ((repeat (first | exact InB.head | apply InB.tail | (with_reducible apply InB.app))); done)) | (apply Or.inl; kernel_rfl))))))), ?_⟩))
    refine Fn_ret tab _ (by exact .tmp rfl .nil) (Back.here fun p => Nat.le_refl _) ?_
    refine ⟨⟨_, rfl, ?_⟩, _, rfl⟩
    exact fdiv_range (wrapu_nonneg _) 11
  · repeat' (first | refine cs ?_ | refine ss ?_ | (((with_reducible apply Q_box); (focus (exact rfl)); (focus (exact rfl)); (focus (exact rfl))); intro bx) | (((with_reducible apply Q_alloc tab); (focus (exact rfl)); (focus (exact rfl)); (focus (exact rfl))); intro bx) | refine S_do (by kernel_rfl) (A_storeN tab rfl rfl rfl rfl rfl rfl rfl (by ((repeat (first | exact InB.head | apply InB.tail | (with_reducible apply InB.app))); done)) (by exact rfl) (by ((repeat (first | exact SetB.head | apply SetB.tail | (with_reducible apply SetB.app))); done)) ⟨Le.refl _, (by (repeat (first | exact trivial | (apply And.intro; (focus (first | (apply Or.inr; (try dsimp only); ((repeat (first | exact InB.head | apply InB.tail | (with_reducible apply InB.app))); done)) | (apply Or.inl; kernel_rfl))))))), ?_⟩))
    refine XC_cond rfl (fun h => ?_) (fun h => ?_)
    · have h' : at' < ns.length := by have := of_decide_eq_true h; simp only at this; omega
      obtain ⟨bb, off, p, c, e, f, rfl, hv, hc⟩ := hr.ints h'
      repeat' (first | refine cs ?_ | refine ss ?_ | (((with_reducible apply Q_box); (focus (exact rfl)); (focus (exact rfl)); (focus (exact rfl))); intro bx) | (((with_reducible apply Q_alloc tab); (focus (exact rfl)); (focus (exact rfl)); (focus (exact rfl))); intro bx) | refine S_do (by kernel_rfl) (A_storeN tab rfl rfl rfl rfl rfl rfl rfl (by ((repeat (first | exact InB.head | apply InB.tail | (with_reducible apply InB.app))); done)) (by exact rfl) (by ((repeat (first | exact SetB.head | apply SetB.tail | (with_reducible apply SetB.app))); done)) ⟨Le.refl _, (by (repeat (first | exact trivial | (apply And.intro; (focus (first | (apply Or.inr; (try dsimp only); ((repeat (first | exact InB.head | apply InB.tail | (with_reducible apply InB.app))); done)) | (apply Or.inl; kernel_rfl))))))), ?_⟩))
      refine L_elem tab at' rfl rfl rfl rfl (by omega) rfl rfl h' ?_
      refine L_load tab rfl rfl rfl hv (readB_one tab rfl rfl rfl (by rw [Nat.mul_one]; exact hc _ h')) ?_
      repeat' (first | refine cs ?_ | refine ss ?_ | (((with_reducible apply Q_box); (focus (exact rfl)); (focus (exact rfl)); (focus (exact rfl))); intro bx) | (((with_reducible apply Q_alloc tab); (focus (exact rfl)); (focus (exact rfl)); (focus (exact rfl))); intro bx) | refine S_do (by kernel_rfl) (A_storeN tab rfl rfl rfl rfl rfl rfl rfl (by ((repeat (first | exact InB.head | apply InB.tail | (with_reducible apply InB.app))); done)) (by exact rfl) (by ((repeat (first | exact SetB.head | apply SetB.tail | (with_reducible apply SetB.app))); done)) ⟨Le.refl _, (by (repeat (first | exact trivial | (apply And.intro; (focus (first | (apply Or.inr; (try dsimp only); ((repeat (first | exact InB.head | apply InB.tail | (with_reducible apply InB.app))); done)) | (apply Or.inl; kernel_rfl))))))), ?_⟩))
      exact Loop_normal ⟨_, _, ⟨rfl, _, rfl⟩, ⟨rfl, ⟨rfl, rfl, trivial⟩, fun p => Nat.le_refl _⟩, Le.refl _⟩
    · repeat' (first | refine cs ?_ | refine ss ?_ | (((with_reducible apply Q_box); (focus (exact rfl)); (focus (exact rfl)); (focus (exact rfl))); intro bx) | (((with_reducible apply Q_alloc tab); (focus (exact rfl)); (focus (exact rfl)); (focus (exact rfl))); intro bx) | refine S_do (by kernel_rfl) (A_storeN tab rfl rfl rfl rfl rfl rfl rfl (by ((repeat (first | exact InB.head | apply InB.tail | (with_reducible apply InB.app))); done)) (by exact rfl) (by ((repeat (first | exact SetB.head | apply SetB.tail | (with_reducible apply SetB.app))); done)) ⟨Le.refl _, (by (repeat (first | exact trivial | (apply And.intro; (focus (first | (apply Or.inr; (try dsimp only); ((repeat (first | exact InB.head | apply InB.tail | (with_reducible apply InB.app))); done)) | (apply Or.inl; kernel_rfl))))))), ?_⟩))
      exact Loop_normal ⟨_, _, ⟨rfl, _, rfl⟩, ⟨rfl, ⟨rfl, rfl, trivial⟩, fun p => Nat.le_refl _⟩, Le.refl _⟩
theorem upTo_x {v : View} {g : Bg} {at' : Nat} {β : Boxes} (hr : g.ok v) (hB : g.at at' β) (hat : at' < 2 ^ 62) (n : Nat) (hn : n < 2 ^ 62) :
    CallsB Try.prog mn 13 #[g.ptr, .int .i64 n] (RetB fun r β' => (∃ x : Nat, r = .int .i64 x ∧ x ≤ n) ∧ g.at (at' + 1) β') β v := by
  refine callsB_fn tab func13 rfl (Nat.le_of_ble_eq_true rfl) (args := [_, _]) ?_
  repeat' (first | refine cs ?_ | refine ss ?_ | (((with_reducible apply Q_box); (focus (exact rfl)); (focus (exact rfl)); (focus (exact rfl))); intro bx) | (((with_reducible apply Q_alloc tab); (focus (exact rfl)); (focus (exact rfl)); (focus (exact rfl))); intro bx) | refine S_do (by kernel_rfl) (A_storeN tab rfl rfl rfl rfl rfl rfl rfl (by ((repeat (first | exact InB.head | apply InB.tail | (with_reducible apply InB.app))); done)) (by exact rfl) (by ((repeat (first | exact SetB.head | apply SetB.tail | (with_reducible apply SetB.app))); done)) ⟨Le.refl _, (by (repeat (first | exact trivial | (apply And.intro; (focus (first | (apply Or.inr; (try dsimp only); ((repeat (first | exact InB.head | apply InB.tail | (with_reducible apply InB.app))); done)) | (apply Or.inl; kernel_rfl))))))), ?_⟩))
  refine Q_op fun ho => A_callR β [] ho bod30 rfl rfl rfl rfl rfl cntA (draw_x (hr.le (union_le _ _)) hB hat) (fun x β' hR => ?_)
  obtain ⟨⟨x, rfl, hx0, hx1⟩, hB⟩ := hR
  repeat' (first | refine cs ?_ | refine ss ?_ | (((with_reducible apply Q_box); (focus (exact rfl)); (focus (exact rfl)); (focus (exact rfl))); intro bx) | (((with_reducible apply Q_alloc tab); (focus (exact rfl)); (focus (exact rfl)); (focus (exact rfl))); intro bx) | refine S_do (by kernel_rfl) (A_storeN tab rfl rfl rfl rfl rfl rfl rfl (by ((repeat (first | exact InB.head | apply InB.tail | (with_reducible apply InB.app))); done)) (by exact rfl) (by ((repeat (first | exact SetB.head | apply SetB.tail | (with_reducible apply SetB.app))); done)) ⟨Le.refl _, (by (repeat (first | exact trivial | (apply And.intro; (focus (first | (apply Or.inr; (try dsimp only); ((repeat (first | exact InB.head | apply InB.tail | (with_reducible apply InB.app))); done)) | (apply Or.inl; kernel_rfl))))))), ?_⟩))
  refine XC_cond rfl (fun h => ?_) (fun h => ?_)
  · repeat' (first | refine cs ?_ | refine ss ?_ | (((with_reducible apply Q_box); (focus (exact rfl)); (focus (exact rfl)); (focus (exact rfl))); intro bx) | (((with_reducible apply Q_alloc tab); (focus (exact rfl)); (focus (exact rfl)); (focus (exact rfl))); intro bx) | refine S_do (by kernel_rfl) (A_storeN tab rfl rfl rfl rfl rfl rfl rfl (by ((repeat (first | exact InB.head | apply InB.tail | (with_reducible apply InB.app))); done)) (by exact rfl) (by ((repeat (first | exact SetB.head | apply SetB.tail | (with_reducible apply SetB.app))); done)) ⟨Le.refl _, (by (repeat (first | exact trivial | (apply And.intro; (focus (first | (apply Or.inr; (try dsimp only); ((repeat (first | exact InB.head | apply InB.tail | (with_reducible apply InB.app))); done)) | (apply Or.inl; kernel_rfl))))))), ?_⟩))
    refine Fn_ret tab β' (by exact .tmp rfl .nil) (Back.here cntL) ?_
    exact ⟨⟨0, rfl, Nat.zero_le _⟩, hB⟩
  · repeat' (first | refine cs ?_ | refine ss ?_ | (((with_reducible apply Q_box); (focus (exact rfl)); (focus (exact rfl)); (focus (exact rfl))); intro bx) | (((with_reducible apply Q_alloc tab); (focus (exact rfl)); (focus (exact rfl)); (focus (exact rfl))); intro bx) | refine S_do (by kernel_rfl) (A_storeN tab rfl rfl rfl rfl rfl rfl rfl (by ((repeat (first | exact InB.head | apply InB.tail | (with_reducible apply InB.app))); done)) (by exact rfl) (by ((repeat (first | exact SetB.head | apply SetB.tail | (with_reducible apply SetB.app))); done)) ⟨Le.refl _, (by (repeat (first | exact trivial | (apply And.intro; (focus (first | (apply Or.inr; (try dsimp only); ((repeat (first | exact InB.head | apply InB.tail | (with_reducible apply InB.app))); done)) | (apply Or.inl; kernel_rfl))))))), ?_⟩))
    have h0 : IntKind.u64.wrap (n : Int) = n := wrapu (by omega) (by omega)
    have hnn : IntKind.u64.wrap (IntKind.u64.wrap (n : Int) + 1) = n + 1 := by rw [h0, wrapu (by omega) (by omega)]
    refine Q_bin tab (.int .u64 (x.tmod (n + 1))) rfl rfl rfl rfl (by simp only [binVal, hnn, if_true]; rw [if_neg (by omega)]) ?_
    repeat' (first | refine cs ?_ | refine ss ?_ | (((with_reducible apply Q_box); (focus (exact rfl)); (focus (exact rfl)); (focus (exact rfl))); intro bx) | (((with_reducible apply Q_alloc tab); (focus (exact rfl)); (focus (exact rfl)); (focus (exact rfl))); intro bx) | refine S_do (by kernel_rfl) (A_storeN tab rfl rfl rfl rfl rfl rfl rfl (by ((repeat (first | exact InB.head | apply InB.tail | (with_reducible apply InB.app))); done)) (by exact rfl) (by ((repeat (first | exact SetB.head | apply SetB.tail | (with_reducible apply SetB.app))); done)) ⟨Le.refl _, (by (repeat (first | exact trivial | (apply And.intro; (focus (first | (apply Or.inr; (try dsimp only); ((repeat (first | exact InB.head | apply InB.tail | (with_reducible apply InB.app))); done)) | (apply Or.inl; kernel_rfl))))))), ?_⟩))
    refine Fn_ret tab β' (by exact .tmp rfl .nil) (Back.here cntL) ?_
    have h1 := Int.tmod_lt_of_pos x (show (0 : Int) < n + 1 by omega)
    have h2 := Int.tmod_nonneg (n + 1 : Int) hx0
    refine ⟨⟨(x.tmod (n + 1)).toNat, ?_, by omega⟩, hB⟩
    show Value.int .i64 (IntKind.i64.wrap _) = _
    rw [wrap64 (by omega) (by omega)]
    congr 1
    omega
theorem among_x {v : View} {g : Bg} {at' : Nat} {β : Boxes} (hr : g.ok v) (hB : g.at at' β) (hat : at' < 2 ^ 62) (n m : Nat) (hnm : n ≤ m) (hn : m < 2 ^ 62) :
    CallsB Try.prog mn 7 #[g.ptr, .int .i64 n, .int .i64 m] (RetB fun r β' => (∃ x : Nat, r = .int .i64 x ∧ n ≤ x ∧ x ≤ m) ∧ g.at (at' + 1) β') β v := by
  refine callsB_fn tab func7 rfl (Nat.le_of_ble_eq_true rfl) (args := [_, _, _]) ?_
  repeat' (first | refine cs ?_ | refine ss ?_ | (((with_reducible apply Q_box); (focus (exact rfl)); (focus (exact rfl)); (focus (exact rfl))); intro bx) | (((with_reducible apply Q_alloc tab); (focus (exact rfl)); (focus (exact rfl)); (focus (exact rfl))); intro bx) | refine S_do (by kernel_rfl) (A_storeN tab rfl rfl rfl rfl rfl rfl rfl (by ((repeat (first | exact InB.head | apply InB.tail | (with_reducible apply InB.app))); done)) (by exact rfl) (by ((repeat (first | exact SetB.head | apply SetB.tail | (with_reducible apply SetB.app))); done)) ⟨Le.refl _, (by (repeat (first | exact trivial | (apply And.intro; (focus (first | (apply Or.inr; (try dsimp only); ((repeat (first | exact InB.head | apply InB.tail | (with_reducible apply InB.app))); done)) | (apply Or.inl; kernel_rfl))))))), ?_⟩))
  refine Q_op fun ho => A_callR β [] ho bod13 rfl rfl rfl rfl rfl cntA (by rw [show (m : Int) - n = ((m - n : Nat) : Int) by omega]; exact upTo_x (hr.le (union_le _ _)) hB hat (m - n) (by omega)) (fun x β' hR => ?_)
  obtain ⟨⟨x, rfl, hx⟩, hB⟩ := hR
  repeat' (first | refine cs ?_ | refine ss ?_ | (((with_reducible apply Q_box); (focus (exact rfl)); (focus (exact rfl)); (focus (exact rfl))); intro bx) | (((with_reducible apply Q_alloc tab); (focus (exact rfl)); (focus (exact rfl)); (focus (exact rfl))); intro bx) | refine S_do (by kernel_rfl) (A_storeN tab rfl rfl rfl rfl rfl rfl rfl (by ((repeat (first | exact InB.head | apply InB.tail | (with_reducible apply InB.app))); done)) (by exact rfl) (by ((repeat (first | exact SetB.head | apply SetB.tail | (with_reducible apply SetB.app))); done)) ⟨Le.refl _, (by (repeat (first | exact trivial | (apply And.intro; (focus (first | (apply Or.inr; (try dsimp only); ((repeat (first | exact InB.head | apply InB.tail | (with_reducible apply InB.app))); done)) | (apply Or.inl; kernel_rfl))))))), ?_⟩))
  refine Fn_ret tab β' (by exact .tmp rfl .nil) (Back.here cntL) ?_
  exact ⟨⟨n + x, rfl, by omega, by omega⟩, hB⟩
theorem once_x {v : View} {g : Bg} {at' : Nat} {β : Boxes} (hr : g.ok v) (hB : g.at at' β) (hat : at' < 2 ^ 62) (n : Nat) (hn : 1 ≤ n ∧ n < 2 ^ 62) :
    CallsB Try.prog mn 16 #[g.ptr, .int .i64 n] (RetB fun r β' => (∃ x : Bool, r = .bool x) ∧ g.at (at' + 1) β') β v := by
  refine callsB_fn tab func16 rfl (Nat.le_of_ble_eq_true rfl) (args := [_, _]) ?_
  repeat' (first | refine cs ?_ | refine ss ?_ | (((with_reducible apply Q_box); (focus (exact rfl)); (focus (exact rfl)); (focus (exact rfl))); intro bx) | (((with_reducible apply Q_alloc tab); (focus (exact rfl)); (focus (exact rfl)); (focus (exact rfl))); intro bx) | refine S_do (by kernel_rfl) (A_storeN tab rfl rfl rfl rfl rfl rfl rfl (by ((repeat (first | exact InB.head | apply InB.tail | (with_reducible apply InB.app))); done)) (by exact rfl) (by ((repeat (first | exact SetB.head | apply SetB.tail | (with_reducible apply SetB.app))); done)) ⟨Le.refl _, (by (repeat (first | exact trivial | (apply And.intro; (focus (first | (apply Or.inr; (try dsimp only); ((repeat (first | exact InB.head | apply InB.tail | (with_reducible apply InB.app))); done)) | (apply Or.inl; kernel_rfl))))))), ?_⟩))
  refine Q_op fun ho => A_callR β [] ho bod13 rfl rfl rfl rfl rfl cntA (by rw [show (n : Int) - 1 = ((n - 1 : Nat) : Int) by omega]; exact upTo_x (hr.le (union_le _ _)) hB hat (n - 1) (by omega)) (fun x β' hR => ?_)
  obtain ⟨⟨x, rfl, hx⟩, hB⟩ := hR
  repeat' (first | refine cs ?_ | refine ss ?_ | (((with_reducible apply Q_box); (focus (exact rfl)); (focus (exact rfl)); (focus (exact rfl))); intro bx) | (((with_reducible apply Q_alloc tab); (focus (exact rfl)); (focus (exact rfl)); (focus (exact rfl))); intro bx) | refine S_do (by kernel_rfl) (A_storeN tab rfl rfl rfl rfl rfl rfl rfl (by ((repeat (first | exact InB.head | apply InB.tail | (with_reducible apply InB.app))); done)) (by exact rfl) (by ((repeat (first | exact SetB.head | apply SetB.tail | (with_reducible apply SetB.app))); done)) ⟨Le.refl _, (by (repeat (first | exact trivial | (apply And.intro; (focus (first | (apply Or.inr; (try dsimp only); ((repeat (first | exact InB.head | apply InB.tail | (with_reducible apply InB.app))); done)) | (apply Or.inl; kernel_rfl))))))), ?_⟩))
  refine Fn_ret tab β' (by exact .tmp rfl .nil) (Back.here cntL) ?_
  exact ⟨⟨_, rfl⟩, hB⟩
theorem pick_x {v : View} {g : Bg} {at' : Nat} {β : Boxes} (hr : g.ok v) (hB : g.at at' β) (hat : at' < 2 ^ 62) {a : Option Addr} {cap : Nat} {xs : List Int} (hx : RowAt v a (xs.map (.int .i64))) (hxs : xs.length < 2 ^ 62) (hne : xs ≠ []) :
    CallsB Try.prog mn 31 #[g.ptr, .slice a xs.length cap] (RetB fun r β' => (∃ x, x ∈ xs ∧ r = .int .i64 x) ∧ g.at (at' + 1) β') β v := by
  refine callsB_fn tab func31 rfl (Nat.le_of_ble_eq_true rfl) (args := [_, _]) ?_
  have hpos : 0 < xs.length := List.length_pos_iff.2 hne
  obtain ⟨bb, off, p, c, e, f, rfl, hv, hc⟩ := hx.ints hpos
  repeat' (first | refine cs ?_ | refine ss ?_ | (((with_reducible apply Q_box); (focus (exact rfl)); (focus (exact rfl)); (focus (exact rfl))); intro bx) | (((with_reducible apply Q_alloc tab); (focus (exact rfl)); (focus (exact rfl)); (focus (exact rfl))); intro bx) | refine S_do (by kernel_rfl) (A_storeN tab rfl rfl rfl rfl rfl rfl rfl (by ((repeat (first | exact InB.head | apply InB.tail | (with_reducible apply InB.app))); done)) (by exact rfl) (by ((repeat (first | exact SetB.head | apply SetB.tail | (with_reducible apply SetB.app))); done)) ⟨Le.refl _, (by (repeat (first | exact trivial | (apply And.intro; (focus (first | (apply Or.inr; (try dsimp only); ((repeat (first | exact InB.head | apply InB.tail | (with_reducible apply InB.app))); done)) | (apply Or.inl; kernel_rfl))))))), ?_⟩))
  refine Q_op fun ho => A_callR β [] ho bod13 rfl rfl rfl rfl rfl cntA (by rw [show (xs.length : Int) - 1 = ((xs.length - 1 : Nat) : Int) by omega]; exact upTo_x (hr.le (union_le _ _)) hB hat (xs.length - 1) (by omega)) (fun x β' hR => ?_)
  obtain ⟨⟨x, rfl, hx'⟩, hB⟩ := hR
  repeat' (first | refine cs ?_ | refine ss ?_ | (((with_reducible apply Q_box); (focus (exact rfl)); (focus (exact rfl)); (focus (exact rfl))); intro bx) | (((with_reducible apply Q_alloc tab); (focus (exact rfl)); (focus (exact rfl)); (focus (exact rfl))); intro bx) | refine S_do (by kernel_rfl) (A_storeN tab rfl rfl rfl rfl rfl rfl rfl (by ((repeat (first | exact InB.head | apply InB.tail | (with_reducible apply InB.app))); done)) (by exact rfl) (by ((repeat (first | exact SetB.head | apply SetB.tail | (with_reducible apply SetB.app))); done)) ⟨Le.refl _, (by (repeat (first | exact trivial | (apply And.intro; (focus (first | (apply Or.inr; (try dsimp only); ((repeat (first | exact InB.head | apply InB.tail | (with_reducible apply InB.app))); done)) | (apply Or.inl; kernel_rfl))))))), ?_⟩))
  have hlt : x < xs.length := by omega
  refine Q_elem tab x rfl rfl rfl rfl rfl rfl rfl hlt ?_
  refine Q_load tab rfl rfl rfl hv (readB_one tab rfl rfl rfl (by rw [Nat.mul_one]; exact hc _ hlt)) ?_
  repeat' (first | refine cs ?_ | refine ss ?_ | (((with_reducible apply Q_box); (focus (exact rfl)); (focus (exact rfl)); (focus (exact rfl))); intro bx) | (((with_reducible apply Q_alloc tab); (focus (exact rfl)); (focus (exact rfl)); (focus (exact rfl))); intro bx) | refine S_do (by kernel_rfl) (A_storeN tab rfl rfl rfl rfl rfl rfl rfl (by ((repeat (first | exact InB.head | apply InB.tail | (with_reducible apply InB.app))); done)) (by exact rfl) (by ((repeat (first | exact SetB.head | apply SetB.tail | (with_reducible apply SetB.app))); done)) ⟨Le.refl _, (by (repeat (first | exact trivial | (apply And.intro; (focus (first | (apply Or.inr; (try dsimp only); ((repeat (first | exact InB.head | apply InB.tail | (with_reducible apply InB.app))); done)) | (apply Or.inl; kernel_rfl))))))), ?_⟩))
  refine Fn_ret tab β' (by exact .tmp rfl .nil) (Back.here cntL) ?_
  exact ⟨⟨_, List.getElem_mem _, rfl⟩, hB⟩
theorem newBag_x {v : View} {a : Option Addr} {cap : Nat} {ns : List Int} :
    CallsB Try.prog mn 4 #[.slice a ns.length cap] (RetB fun r β' => ∃ b, r = (Bg.mk b a cap ns).ptr ∧ (Bg.mk b a cap ns).at 0 β') [] v := by
  refine callsB_fn tab func4 rfl (Nat.le_of_ble_eq_true rfl) (args := [_]) ?_
  repeat' (first | refine cs ?_ | refine ss ?_ | (((with_reducible apply Q_box); (focus (exact rfl)); (focus (exact rfl)); (focus (exact rfl))); intro bx) | (((with_reducible apply Q_alloc tab); (focus (exact rfl)); (focus (exact rfl)); (focus (exact rfl))); intro bx) | refine S_do (by kernel_rfl) (A_storeN tab rfl rfl rfl rfl rfl rfl rfl (by ((repeat (first | exact InB.head | apply InB.tail | (with_reducible apply InB.app))); done)) (by exact rfl) (by ((repeat (first | exact SetB.head | apply SetB.tail | (with_reducible apply SetB.app))); done)) ⟨Le.refl _, (by (repeat (first | exact trivial | (apply And.intro; (focus (first | (apply Or.inr; (try dsimp only); ((repeat (first | exact InB.head | apply InB.tail | (with_reducible apply InB.app))); done)) | (apply Or.inl; kernel_rfl))))))), ?_⟩))
  refine Fn_ret tab _ (by exact .tmp rfl .nil) (Back.here fun p => Nat.le_refl _) ?_
  exact ⟨_, rfl, _, rfl⟩
end Go.Proofs.Ytbbaionoibkohaa
end
