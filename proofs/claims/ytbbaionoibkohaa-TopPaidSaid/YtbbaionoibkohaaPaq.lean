/- Part 17 of the proof that stands in the last text. -/
import Derived.Test.YtbbaionoibkohaaPap
set_option linter.all false
section
namespace Go.Proofs.Ytbbaionoibkohaa
open Go Go.Pal Go.Pal.Db Go.Conc View
open Go.Proofs.Try
open Go.Sort (swp)
set_option maxHeartbeats 4000000
instance : Inhabited Dt := ⟨⟨0, 0, 0⟩⟩
def eV (d : Dt) : Value := d.val
theorem eV_cells (d : Dt) : (eV d).cells.toList = d.cells := rfl
theorem eV_size (d : Dt) : (eV d).cells.size = 3 := rfl
theorem eV_one (d : Dt) : (eV d).cells.toList.all oneCell = true := rfl
theorem eV_val (d : Dt) : eV d = d.val := rfl
attribute [irreducible] eV
structure DBz (cap : Nat) (d : Array Dt) (c : Array Value) : Prop where
  db : DB 3 Dt.cells Dt.fit cap d c
abbrev slV (b n cap : Nat) : Value := .slice (some ⟨b, 0, none⟩) n cap
abbrev cmV : Value := .func (.func 38) #[] #[]
section
variable {mn : Who} {v : View} {cap : Nat} {d : Array Dt} {c : Array Value}
theorem lexL {P : Program} {rd : Option Nat} {n : Nat} {Q : Exit → St → View → Prop} {ds : List Deferred} {ρ : Regs} {β : Boxes} {id : Nat} {ops : Array Oper} {l : List Oper} (hm : P.follows .mixedOrders = true) (hl : ops.toList = l) (hB : (Region.lexB .any ops && ops.all (fun o => !isDefer o.op)) = true) (h : XL P mn n ops Q l ⟨ds, ρ, β⟩ v) : XC P mn rd n (.region id ops true) Q ⟨ds, ρ, β⟩ v := XC_lex hm hl hB h
theorem DBz.rdE (h : DBz cap d c) {i : Nat} (hi : i < d.size) : readB tab 42 c (0 + i * 3) = some (eV d[i]!) := by
  rw [eV_val]
  exact readB_rec tab rfl rfl rfl (h.db.recd hi)
theorem DBz.ok (h : DBz cap d c) {i : Nat} (hi : i < d.size) : d[i]!.fit := h.db.ok hi
theorem DBz.off (h : DBz cap d c) {i : Nat} (hi : i < d.size) {n : Nat} (hn : n = 3) : Nat.ble (0 + i * 3 + n) c.size = true := h.db.off hi hn
theorem DBz.set (h : DBz cap d c) {i : Nat} (hi : i < d.size) {x : Dt} (hx : x.fit) : DBz cap (d.setIfInBounds i x) (writeB c (0 + i * 3) (eV x).cells.toList) := by
  rw [eV_cells]
  exact ⟨h.db.set hi hx⟩
theorem DBz.swp (h : DBz cap d c) {i j : Nat} (hi : i < d.size) (hj : j < d.size) : DBz cap (Go.Sort.swp d i j) (writeB (writeB c (0 + i * 3) (eV d[j]!).cells.toList) (0 + j * 3) (eV d[i]!).cells.toList) :=
  (h.set hi (h.ok hj)).set (by simpa using hj) (h.ok hi)
theorem beforeE_x {x y : Dt} (hx : x.fit) (hy : y.fit) : Ret1 Try.prog mn 38 [eV x, eV y] (intV (befV x y)) v := by
  rw [eV_val, eV_val]; exact before_x hx hy
def SBox (cap n b : Nat) (β : Boxes) : Prop := ∃ d' c', d'.size = n ∧ DBz cap d' c' ∧ β = [(b, c', 42)]
abbrev AS := Nat × Array Dt × Array Value
theorem insertion_x {b : Nat} (hD : DBz cap d c) (hcap : d.size < 2 ^ 20) : CallsB Try.prog mn 58 #[slV b d.size cap, .int .i64 (0 : Nat), .int .i64 d.size, cmV] (RetB fun r β' => r = .tuple #[] ∧ SBox cap d.size b β') [(b, c, 42)] v := by
  refine callsB_fn tab func58 rfl (Nat.le_of_ble_eq_true rfl) (args := [_, _, _, _]) ?_
  have hle := hD.db.le
  repeat' (first | refine cs ?_ | refine ss ?_ | (((with_reducible apply Q_box); (focus (exact rfl)); (focus (exact rfl)); (focus (exact rfl))); intro bx) | (((with_reducible apply Q_alloc tab); (focus (exact rfl)); (focus (exact rfl)); (focus (exact rfl))); intro bx) | refine S_do (by kernel_rfl) (A_storeN tab rfl rfl rfl rfl rfl rfl rfl (by ((repeat (first | exact InB.head | apply InB.tail | (with_reducible apply InB.app))); done)) (by exact rfl) (by ((repeat (first | exact SetB.head | apply SetB.tail | (with_reducible apply SetB.app))); done)) ⟨Le.refl _, (by (repeat (first | exact trivial | (apply And.intro; (focus (first | (apply Or.inr; (try dsimp only); ((repeat (first | exact InB.head | apply InB.tail | (with_reducible apply InB.app))); done)) | (apply Or.inl; kernel_rfl))))))), ?_⟩))
  refine C_loop (α := AS) (fun z => ⟨[], [(8, .int .i64 z.1), (0, slV b d.size cap), (1, .int .i64 (0 : Nat)), (2, .int .i64 d.size), (3, cmV)], [(b, z.2.2, 42)]⟩)
    (fun z u => u = v ∧ DBz cap z.2.1 z.2.2 ∧ z.2.1.size = d.size ∧ 0 < z.1 ∧ z.1 ≤ d.size + 1) (fun z => d.size + 1 - z.1) (0 + 1, d, c)
    ⟨rfl, (by (repeat (first | exact trivial | refine ⟨rfl, ?_⟩))), cntL⟩ (Le.refl _) ⟨rfl, hD, rfl, by simp only; omega, by simp only; omega⟩ ?_
  rintro ⟨i, d1, c1⟩ u ⟨rfl, hD1, hs1, hxi, hiy⟩
  simp only at hD1 hs1 hxi hiy
  dsimp only
  repeat' (first | refine cs ?_ | refine ss ?_ | (((with_reducible apply Q_box); (focus (exact rfl)); (focus (exact rfl)); (focus (exact rfl))); intro bx) | (((with_reducible apply Q_alloc tab); (focus (exact rfl)); (focus (exact rfl)); (focus (exact rfl))); intro bx) | refine S_do (by kernel_rfl) (A_storeN tab rfl rfl rfl rfl rfl rfl rfl (by ((repeat (first | exact InB.head | apply InB.tail | (with_reducible apply InB.app))); done)) (by exact rfl) (by ((repeat (first | exact SetB.head | apply SetB.tail | (with_reducible apply SetB.app))); done)) ⟨Le.refl _, (by (repeat (first | exact trivial | (apply And.intro; (focus (first | (apply Or.inr; (try dsimp only); ((repeat (first | exact InB.head | apply InB.tail | (with_reducible apply InB.app))); done)) | (apply Or.inl; kernel_rfl))))))), ?_⟩))
  refine XC_cond rfl (fun h => ?_) (fun h => ?_)
  · (simp only [decide_eq_true_eq, decide_eq_false_iff_not, beq_iff_eq, bne_iff_ne, Bool.not_eq_true', beq_eq_false_iff_ne, bne_eq_false_iff_eq, ne_eq] at h)
    repeat' (first | refine cs ?_ | refine ss ?_ | (((with_reducible apply Q_box); (focus (exact rfl)); (focus (exact rfl)); (focus (exact rfl))); intro bx) | (((with_reducible apply Q_alloc tab); (focus (exact rfl)); (focus (exact rfl)); (focus (exact rfl))); intro bx) | refine S_do (by kernel_rfl) (A_storeN tab rfl rfl rfl rfl rfl rfl rfl (by ((repeat (first | exact InB.head | apply InB.tail | (with_reducible apply InB.app))); done)) (by exact rfl) (by ((repeat (first | exact SetB.head | apply SetB.tail | (with_reducible apply SetB.app))); done)) ⟨Le.refl _, (by (repeat (first | exact trivial | (apply And.intro; (focus (first | (apply Or.inr; (try dsimp only); ((repeat (first | exact InB.head | apply InB.tail | (with_reducible apply InB.app))); done)) | (apply Or.inl; kernel_rfl))))))), ?_⟩))
    refine C_loop (α := AS) (fun z => ⟨[], [(9, .int .i64 z.1), (8, .int .i64 i), (0, slV b d.size cap), (1, .int .i64 (0 : Nat)), (2, .int .i64 d.size), (3, cmV)], [(b, z.2.2, 42)]⟩)
      (fun z w => w = u ∧ DBz cap z.2.1 z.2.2 ∧ z.2.1.size = d.size ∧ z.1 ≤ i) (fun z => z.1) (i, d1, c1)
      ⟨rfl, (by (repeat (first | exact trivial | refine ⟨rfl, ?_⟩))), cntL⟩ (Le.refl _) ⟨rfl, hD1, hs1, Nat.le_refl _⟩ ?_
    rintro ⟨j, d2, c2⟩ w ⟨rfl, hD2, hs2, hji⟩
    simp only at hD2 hs2 hji
    dsimp only
    repeat' (first | refine cs ?_ | refine ss ?_ | (((with_reducible apply Q_box); (focus (exact rfl)); (focus (exact rfl)); (focus (exact rfl))); intro bx) | (((with_reducible apply Q_alloc tab); (focus (exact rfl)); (focus (exact rfl)); (focus (exact rfl))); intro bx) | refine S_do (by kernel_rfl) (A_storeN tab rfl rfl rfl rfl rfl rfl rfl (by ((repeat (first | exact InB.head | apply InB.tail | (with_reducible apply InB.app))); done)) (by exact rfl) (by ((repeat (first | exact SetB.head | apply SetB.tail | (with_reducible apply SetB.app))); done)) ⟨Le.refl _, (by (repeat (first | exact trivial | (apply And.intro; (focus (first | (apply Or.inr; (try dsimp only); ((repeat (first | exact InB.head | apply InB.tail | (with_reducible apply InB.app))); done)) | (apply Or.inl; kernel_rfl))))))), ?_⟩))
    refine lexL mixed rfl (by kernel_rfl) ?_
    repeat' (first | refine cs ?_ | refine ss ?_ | (((with_reducible apply Q_box); (focus (exact rfl)); (focus (exact rfl)); (focus (exact rfl))); intro bx) | (((with_reducible apply Q_alloc tab); (focus (exact rfl)); (focus (exact rfl)); (focus (exact rfl))); intro bx) | refine S_do (by kernel_rfl) (A_storeN tab rfl rfl rfl rfl rfl rfl rfl (by ((repeat (first | exact InB.head | apply InB.tail | (with_reducible apply InB.app))); done)) (by exact rfl) (by ((repeat (first | exact SetB.head | apply SetB.tail | (with_reducible apply SetB.app))); done)) ⟨Le.refl _, (by (repeat (first | exact trivial | (apply And.intro; (focus (first | (apply Or.inr; (try dsimp only); ((repeat (first | exact InB.head | apply InB.tail | (with_reducible apply InB.app))); done)) | (apply Or.inl; kernel_rfl))))))), ?_⟩))
    refine L_guard rfl rfl (fun h => ?_) (fun h => ?_)
    · (simp only [decide_eq_true_eq, decide_eq_false_iff_not, beq_iff_eq, bne_iff_ne, Bool.not_eq_true', beq_eq_false_iff_ne, bne_eq_false_iff_eq, ne_eq] at h)
      obtain ⟨j, rfl⟩ : ∃ k, j = k + 1 := ⟨j - 1, by omega⟩
      repeat' (first | refine cs ?_ | refine ss ?_ | (((with_reducible apply Q_box); (focus (exact rfl)); (focus (exact rfl)); (focus (exact rfl))); intro bx) | (((with_reducible apply Q_alloc tab); (focus (exact rfl)); (focus (exact rfl)); (focus (exact rfl))); intro bx) | refine S_do (by kernel_rfl) (A_storeN tab rfl rfl rfl rfl rfl rfl rfl (by ((repeat (first | exact InB.head | apply InB.tail | (with_reducible apply InB.app))); done)) (by exact rfl) (by ((repeat (first | exact SetB.head | apply SetB.tail | (with_reducible apply SetB.app))); done)) ⟨Le.refl _, (by (repeat (first | exact trivial | (apply And.intro; (focus (first | (apply Or.inr; (try dsimp only); ((repeat (first | exact InB.head | apply InB.tail | (with_reducible apply InB.app))); done)) | (apply Or.inl; kernel_rfl))))))), ?_⟩))
      refine L_elem tab (j + 1) rfl rfl rfl rfl rfl rfl rfl (by omega) ?_
      refine L_loadB tab rfl rfl rfl InB.head (hD2.rdE (by omega)) ?_
      repeat' (first | refine cs ?_ | refine ss ?_ | (((with_reducible apply Q_box); (focus (exact rfl)); (focus (exact rfl)); (focus (exact rfl))); intro bx) | (((with_reducible apply Q_alloc tab); (focus (exact rfl)); (focus (exact rfl)); (focus (exact rfl))); intro bx) | refine S_do (by kernel_rfl) (A_storeN tab rfl rfl rfl rfl rfl rfl rfl (by ((repeat (first | exact InB.head | apply InB.tail | (with_reducible apply InB.app))); done)) (by exact rfl) (by ((repeat (first | exact SetB.head | apply SetB.tail | (with_reducible apply SetB.app))); done)) ⟨Le.refl _, (by (repeat (first | exact trivial | (apply And.intro; (focus (first | (apply Or.inr; (try dsimp only); ((repeat (first | exact InB.head | apply InB.tail | (with_reducible apply InB.app))); done)) | (apply Or.inl; kernel_rfl))))))), ?_⟩))
      refine L_elem tab j rfl rfl rfl rfl (by omega) rfl rfl (by omega) ?_
      refine L_loadB tab rfl rfl rfl InB.head (hD2.rdE (by omega)) ?_
      repeat' (first | refine cs ?_ | refine ss ?_ | (((with_reducible apply Q_box); (focus (exact rfl)); (focus (exact rfl)); (focus (exact rfl))); intro bx) | (((with_reducible apply Q_alloc tab); (focus (exact rfl)); (focus (exact rfl)); (focus (exact rfl))); intro bx) | refine S_do (by kernel_rfl) (A_storeN tab rfl rfl rfl rfl rfl rfl rfl (by ((repeat (first | exact InB.head | apply InB.tail | (with_reducible apply InB.app))); done)) (by exact rfl) (by ((repeat (first | exact SetB.head | apply SetB.tail | (with_reducible apply SetB.app))); done)) ⟨Le.refl _, (by (repeat (first | exact trivial | (apply And.intro; (focus (first | (apply Or.inr; (try dsimp only); ((repeat (first | exact InB.head | apply InB.tail | (with_reducible apply InB.app))); done)) | (apply Or.inl; kernel_rfl))))))), ?_⟩))
      refine L_ret1 bod38 rfl rfl rfl rfl rfl (beforeE_x (hD2.ok (by omega)) (hD2.ok (by omega))) ?_
      repeat' (first | refine cs ?_ | refine ss ?_ | (((with_reducible apply Q_box); (focus (exact rfl)); (focus (exact rfl)); (focus (exact rfl))); intro bx) | (((with_reducible apply Q_alloc tab); (focus (exact rfl)); (focus (exact rfl)); (focus (exact rfl))); intro bx) | refine S_do (by kernel_rfl) (A_storeN tab rfl rfl rfl rfl rfl rfl rfl (by ((repeat (first | exact InB.head | apply InB.tail | (with_reducible apply InB.app))); done)) (by exact rfl) (by ((repeat (first | exact SetB.head | apply SetB.tail | (with_reducible apply SetB.app))); done)) ⟨Le.refl _, (by (repeat (first | exact trivial | (apply And.intro; (focus (first | (apply Or.inr; (try dsimp only); ((repeat (first | exact InB.head | apply InB.tail | (with_reducible apply InB.app))); done)) | (apply Or.inl; kernel_rfl))))))), ?_⟩))
      refine XC_cond rfl (fun h => ?_) (fun h => ?_)
      · repeat' (first | refine cs ?_ | refine ss ?_ | (((with_reducible apply Q_box); (focus (exact rfl)); (focus (exact rfl)); (focus (exact rfl))); intro bx) | (((with_reducible apply Q_alloc tab); (focus (exact rfl)); (focus (exact rfl)); (focus (exact rfl))); intro bx) | refine S_do (by kernel_rfl) (A_storeN tab rfl rfl rfl rfl rfl rfl rfl (by ((repeat (first | exact InB.head | apply InB.tail | (with_reducible apply InB.app))); done)) (by exact rfl) (by ((repeat (first | exact SetB.head | apply SetB.tail | (with_reducible apply SetB.app))); done)) ⟨Le.refl _, (by (repeat (first | exact trivial | (apply And.intro; (focus (first | (apply Or.inr; (try dsimp only); ((repeat (first | exact InB.head | apply InB.tail | (with_reducible apply InB.app))); done)) | (apply Or.inl; kernel_rfl))))))), ?_⟩))
        ((refine C_draw [15, 17] [0, 1, 2, 3, 4, 5, 6, 7, 8, 9, 10, 11, 12, 13, 14, 15, 16, 17] mixed rfl (by kernel_rfl) ?_); (repeat (refine ss ?_)); (refine S_elem tab (j) rfl rfl rfl (by kernel_rfl) rfl rfl (by first | rfl | omega) rfl rfl (by omega) ?_); (refine S_loadB tab rfl rfl rfl (by kernel_rfl) rfl (by ((repeat (first | exact InB.head | apply InB.tail | (with_reducible apply InB.app))); done)) (hD2.rdE (by omega)) ?_); (repeat (refine ss ?_)); (refine S_elem tab (j + 1) rfl rfl rfl (by kernel_rfl) rfl rfl (by first | rfl | omega) rfl rfl (by omega) ?_); (refine S_loadB tab rfl rfl rfl (by kernel_rfl) rfl (by ((repeat (first | exact InB.head | apply InB.tail | (with_reducible apply InB.app))); done)) (hD2.rdE (by omega)) ?_); (refine S_elem tab (j + 1) rfl rfl rfl (by kernel_rfl) rfl rfl (by first | rfl | omega) rfl rfl (by omega) ?_); (refine S_do (by kernel_rfl) (A_store tab rfl rfl rfl rfl rfl (by first | exact eV_size _ | rfl) (by first | exact eV_one _ | rfl) (by ((repeat (first | exact InB.head | apply InB.tail | (with_reducible apply InB.app))); done)) (hD2.off (by omega) rfl) (by ((repeat (first | exact SetB.head | apply SetB.tail | (with_reducible apply SetB.app))); done)) ⟨Le.refl _, (by (repeat (first | exact trivial | (apply And.intro; (focus (first | (apply Or.inr; (try dsimp only); ((repeat (first | exact InB.head | apply InB.tail | (with_reducible apply InB.app))); done)) | (apply Or.inl; kernel_rfl))))))), ?_⟩)); (refine S_elem tab (j) rfl rfl rfl (by kernel_rfl) rfl rfl (by first | rfl | omega) rfl rfl (by omega) ?_); (refine S_do (by kernel_rfl) (A_store tab rfl rfl rfl rfl rfl (by first | exact eV_size _ | rfl) (by first | exact eV_one _ | rfl) (by ((repeat (first | exact InB.head | apply InB.tail | (with_reducible apply InB.app))); done)) ((hD2.set (by omega) (hD2.ok (by omega))).off (by first | simpa using (by omega) | (simp; omega)) rfl) (by ((repeat (first | exact SetB.head | apply SetB.tail | (with_reducible apply SetB.app))); done)) ⟨Le.refl _, (by (repeat (first | exact trivial | (apply And.intro; (focus (first | (apply Or.inr; (try dsimp only); ((repeat (first | exact InB.head | apply InB.tail | (with_reducible apply InB.app))); done)) | (apply Or.inl; kernel_rfl))))))), ?_⟩)); (repeat (refine ss ?_)))
        repeat' (first | refine cs ?_ | refine ss ?_ | (((with_reducible apply Q_box); (focus (exact rfl)); (focus (exact rfl)); (focus (exact rfl))); intro bx) | (((with_reducible apply Q_alloc tab); (focus (exact rfl)); (focus (exact rfl)); (focus (exact rfl))); intro bx) | refine S_do (by kernel_rfl) (A_storeN tab rfl rfl rfl rfl rfl rfl rfl (by ((repeat (first | exact InB.head | apply InB.tail | (with_reducible apply InB.app))); done)) (by exact rfl) (by ((repeat (first | exact SetB.head | apply SetB.tail | (with_reducible apply SetB.app))); done)) ⟨Le.refl _, (by (repeat (first | exact trivial | (apply And.intro; (focus (first | (apply Or.inr; (try dsimp only); ((repeat (first | exact InB.head | apply InB.tail | (with_reducible apply InB.app))); done)) | (apply Or.inl; kernel_rfl))))))), ?_⟩))
        refine Loop_normal ⟨(j, swp d2 (j + 1) j, _), w, by simp only; omega, ⟨rfl, ?_, cntL⟩, Le.refl _, rfl, hD2.swp (by omega) (by omega), by rw [Go.Sort.size_swp, hs2], by simp only; omega⟩
        refine ⟨?_, (by (repeat (first | exact trivial | refine ⟨rfl, ?_⟩)))⟩
        show some (Value.int .i64 (((j + 1 : Nat) : Int) - 1)) = some (Value.int .i64 (j : Int))
        congr 2; omega
      · repeat' (first | refine cs ?_ | refine ss ?_ | (((with_reducible apply Q_box); (focus (exact rfl)); (focus (exact rfl)); (focus (exact rfl))); intro bx) | (((with_reducible apply Q_alloc tab); (focus (exact rfl)); (focus (exact rfl)); (focus (exact rfl))); intro bx) | refine S_do (by kernel_rfl) (A_storeN tab rfl rfl rfl rfl rfl rfl rfl (by ((repeat (first | exact InB.head | apply InB.tail | (with_reducible apply InB.app))); done)) (by exact rfl) (by ((repeat (first | exact SetB.head | apply SetB.tail | (with_reducible apply SetB.app))); done)) ⟨Le.refl _, (by (repeat (first | exact trivial | (apply And.intro; (focus (first | (apply Or.inr; (try dsimp only); ((repeat (first | exact InB.head | apply InB.tail | (with_reducible apply InB.app))); done)) | (apply Or.inl; kernel_rfl))))))), ?_⟩))
        refine Loop_normal ⟨(i + 1, d2, c2), w, by simp only; omega, ⟨rfl, (by (repeat (first | exact trivial | refine ⟨rfl, ?_⟩))), cntL⟩, Le.refl _, rfl, hD2, hs2, by simp only; omega, by simp only; omega⟩
    · (simp only [decide_eq_true_eq, decide_eq_false_iff_not, beq_iff_eq, bne_iff_ne, Bool.not_eq_true', beq_eq_false_iff_ne, bne_eq_false_iff_eq, ne_eq] at h)
      repeat' (first | refine cs ?_ | refine ss ?_ | (((with_reducible apply Q_box); (focus (exact rfl)); (focus (exact rfl)); (focus (exact rfl))); intro bx) | (((with_reducible apply Q_alloc tab); (focus (exact rfl)); (focus (exact rfl)); (focus (exact rfl))); intro bx) | refine S_do (by kernel_rfl) (A_storeN tab rfl rfl rfl rfl rfl rfl rfl (by ((repeat (first | exact InB.head | apply InB.tail | (with_reducible apply InB.app))); done)) (by exact rfl) (by ((repeat (first | exact SetB.head | apply SetB.tail | (with_reducible apply SetB.app))); done)) ⟨Le.refl _, (by (repeat (first | exact trivial | (apply And.intro; (focus (first | (apply Or.inr; (try dsimp only); ((repeat (first | exact InB.head | apply InB.tail | (with_reducible apply InB.app))); done)) | (apply Or.inl; kernel_rfl))))))), ?_⟩))
      refine Loop_normal ⟨(i + 1, d2, c2), w, by simp only; omega, ⟨rfl, (by (repeat (first | exact trivial | refine ⟨rfl, ?_⟩))), cntL⟩, Le.refl _, rfl, hD2, hs2, by simp only; omega, by simp only; omega⟩
  · (simp only [decide_eq_true_eq, decide_eq_false_iff_not, beq_iff_eq, bne_iff_ne, Bool.not_eq_true', beq_eq_false_iff_ne, bne_eq_false_iff_eq, ne_eq] at h)
    repeat' (first | refine cs ?_ | refine ss ?_ | (((with_reducible apply Q_box); (focus (exact rfl)); (focus (exact rfl)); (focus (exact rfl))); intro bx) | (((with_reducible apply Q_alloc tab); (focus (exact rfl)); (focus (exact rfl)); (focus (exact rfl))); intro bx) | refine S_do (by kernel_rfl) (A_storeN tab rfl rfl rfl rfl rfl rfl rfl (by ((repeat (first | exact InB.head | apply InB.tail | (with_reducible apply InB.app))); done)) (by exact rfl) (by ((repeat (first | exact SetB.head | apply SetB.tail | (with_reducible apply SetB.app))); done)) ⟨Le.refl _, (by (repeat (first | exact trivial | (apply And.intro; (focus (first | (apply Or.inr; (try dsimp only); ((repeat (first | exact InB.head | apply InB.tail | (with_reducible apply InB.app))); done)) | (apply Or.inl; kernel_rfl))))))), ?_⟩))
    refine Fn_normal tab [(b, c1, 42)] .nil (Back.here cntL) ?_
    exact ⟨rfl, d1, c1, hs1, hD1, rfl⟩
theorem wrap8 {x : Nat} (h : x < 256) : IntKind.u8.wrap (x : Int) = x := by
  simp only [IntKind.wrap, IntKind.signed, IntKind.bits]
  simp
  omega
noncomputable def lenS : ByteArray := match f67.body with
  | some (.seq _ (.seq _ (.seq _ (.seq _ (.seq (.region _ ops _) _))))) => match ops[3]? with
    | some o => match o.op with
      | .index _ (.const (.string s)) _ => s
      | _ => .empty
    | _ => .empty
  | _ => .empty
theorem len_tab : (List.range 256).all (fun x => (lenS[x]?).isSome) = true := by decide +kernel
theorem len64_x {x : Nat} (hx : x < 256) : CallsB Try.prog mn 67 #[.int .u64 x] (RetB fun r β' => ∃ z, r = intV z ∧ β' = []) [] v := by
  have hp := List.all_eq_true.1 len_tab _ (List.mem_range.2 hx)
  obtain ⟨b, hb⟩ := Option.isSome_iff_exists.1 hp
  refine callsB_fn tab func67 rfl (Nat.le_of_ble_eq_true rfl) (args := [_]) ?_
  repeat' (first | refine cs ?_ | refine ss ?_ | (((with_reducible apply Q_box); (focus (exact rfl)); (focus (exact rfl)); (focus (exact rfl))); intro bx) | (((with_reducible apply Q_alloc tab); (focus (exact rfl)); (focus (exact rfl)); (focus (exact rfl))); intro bx) | refine S_do (by kernel_rfl) (A_storeN tab rfl rfl rfl rfl rfl rfl rfl (by ((repeat (first | exact InB.head | apply InB.tail | (with_reducible apply InB.app))); done)) (by exact rfl) (by ((repeat (first | exact SetB.head | apply SetB.tail | (with_reducible apply SetB.app))); done)) ⟨Le.refl _, (by (repeat (first | exact trivial | (apply And.intro; (focus (first | (apply Or.inr; (try dsimp only); ((repeat (first | exact InB.head | apply InB.tail | (with_reducible apply InB.app))); done)) | (apply Or.inl; kernel_rfl))))))), ?_⟩))
  rw [show decide ((x : Int) ≥ 4294967296) = false from decide_eq_false (by omega)]
  repeat' (first | refine cs ?_ | refine ss ?_ | (((with_reducible apply Q_box); (focus (exact rfl)); (focus (exact rfl)); (focus (exact rfl))); intro bx) | (((with_reducible apply Q_alloc tab); (focus (exact rfl)); (focus (exact rfl)); (focus (exact rfl))); intro bx) | refine S_do (by kernel_rfl) (A_storeN tab rfl rfl rfl rfl rfl rfl rfl (by ((repeat (first | exact InB.head | apply InB.tail | (with_reducible apply InB.app))); done)) (by exact rfl) (by ((repeat (first | exact SetB.head | apply SetB.tail | (with_reducible apply SetB.app))); done)) ⟨Le.refl _, (by (repeat (first | exact trivial | (apply And.intro; (focus (first | (apply Or.inr; (try dsimp only); ((repeat (first | exact InB.head | apply InB.tail | (with_reducible apply InB.app))); done)) | (apply Or.inl; kernel_rfl))))))), ?_⟩))
  rw [show decide ((x : Int) ≥ 65536) = false from decide_eq_false (by omega)]
  repeat' (first | refine cs ?_ | refine ss ?_ | (((with_reducible apply Q_box); (focus (exact rfl)); (focus (exact rfl)); (focus (exact rfl))); intro bx) | (((with_reducible apply Q_alloc tab); (focus (exact rfl)); (focus (exact rfl)); (focus (exact rfl))); intro bx) | refine S_do (by kernel_rfl) (A_storeN tab rfl rfl rfl rfl rfl rfl rfl (by ((repeat (first | exact InB.head | apply InB.tail | (with_reducible apply InB.app))); done)) (by exact rfl) (by ((repeat (first | exact SetB.head | apply SetB.tail | (with_reducible apply SetB.app))); done)) ⟨Le.refl _, (by (repeat (first | exact trivial | (apply And.intro; (focus (first | (apply Or.inr; (try dsimp only); ((repeat (first | exact InB.head | apply InB.tail | (with_reducible apply InB.app))); done)) | (apply Or.inl; kernel_rfl))))))), ?_⟩))
  rw [show decide ((x : Int) ≥ 256) = false from decide_eq_false (by omega)]
  repeat' (first | refine cs ?_ | refine ss ?_ | (((with_reducible apply Q_box); (focus (exact rfl)); (focus (exact rfl)); (focus (exact rfl))); intro bx) | (((with_reducible apply Q_alloc tab); (focus (exact rfl)); (focus (exact rfl)); (focus (exact rfl))); intro bx) | refine S_do (by kernel_rfl) (A_storeN tab rfl rfl rfl rfl rfl rfl rfl (by ((repeat (first | exact InB.head | apply InB.tail | (with_reducible apply InB.app))); done)) (by exact rfl) (by ((repeat (first | exact SetB.head | apply SetB.tail | (with_reducible apply SetB.app))); done)) ⟨Le.refl _, (by (repeat (first | exact trivial | (apply And.intro; (focus (first | (apply Or.inr; (try dsimp only); ((repeat (first | exact InB.head | apply InB.tail | (with_reducible apply InB.app))); done)) | (apply Or.inl; kernel_rfl))))))), ?_⟩))
  refine Q_op fun ho => A_byte tab ho rfl rfl rfl rfl (wrap8 hx) rfl (s := lenS) hb ?_
  clear ho
  repeat' (first | refine cs ?_ | refine ss ?_ | (((with_reducible apply Q_box); (focus (exact rfl)); (focus (exact rfl)); (focus (exact rfl))); intro bx) | (((with_reducible apply Q_alloc tab); (focus (exact rfl)); (focus (exact rfl)); (focus (exact rfl))); intro bx) | refine S_do (by kernel_rfl) (A_storeN tab rfl rfl rfl rfl rfl rfl rfl (by ((repeat (first | exact InB.head | apply InB.tail | (with_reducible apply InB.app))); done)) (by exact rfl) (by ((repeat (first | exact SetB.head | apply SetB.tail | (with_reducible apply SetB.app))); done)) ⟨Le.refl _, (by (repeat (first | exact trivial | (apply And.intro; (focus (first | (apply Or.inr; (try dsimp only); ((repeat (first | exact InB.head | apply InB.tail | (with_reducible apply InB.app))); done)) | (apply Or.inl; kernel_rfl))))))), ?_⟩))
  refine Fn_ret tab [] (by exact .tmp rfl .nil) (Back.here cntL) ?_
  exact ⟨_, rfl, rfl⟩
theorem len_x {x : Nat} (hx : x < 256) : CallsB Try.prog mn 57 #[.int .u64 x] (RetB fun r β' => ∃ z, r = intV z ∧ β' = []) [] v := by
  refine callsB_fn tab func57 rfl (Nat.le_of_ble_eq_true rfl) (args := [_]) ?_
  repeat' (first | refine cs ?_ | refine ss ?_ | (((with_reducible apply Q_box); (focus (exact rfl)); (focus (exact rfl)); (focus (exact rfl))); intro bx) | (((with_reducible apply Q_alloc tab); (focus (exact rfl)); (focus (exact rfl)); (focus (exact rfl))); intro bx) | refine S_do (by kernel_rfl) (A_storeN tab rfl rfl rfl rfl rfl rfl rfl (by ((repeat (first | exact InB.head | apply InB.tail | (with_reducible apply InB.app))); done)) (by exact rfl) (by ((repeat (first | exact SetB.head | apply SetB.tail | (with_reducible apply SetB.app))); done)) ⟨Le.refl _, (by (repeat (first | exact trivial | (apply And.intro; (focus (first | (apply Or.inr; (try dsimp only); ((repeat (first | exact InB.head | apply InB.tail | (with_reducible apply InB.app))); done)) | (apply Or.inl; kernel_rfl))))))), ?_⟩))
  refine Q_op fun ho => A_callR ([]) (_) ho bod67 rfl rfl rfl rfl rfl split0 (len64_x hx) (fun x β' hR => ?_)
  clear ho
  obtain ⟨z, rfl, rfl⟩ := hR
  repeat' (first | refine cs ?_ | refine ss ?_ | (((with_reducible apply Q_box); (focus (exact rfl)); (focus (exact rfl)); (focus (exact rfl))); intro bx) | (((with_reducible apply Q_alloc tab); (focus (exact rfl)); (focus (exact rfl)); (focus (exact rfl))); intro bx) | refine S_do (by kernel_rfl) (A_storeN tab rfl rfl rfl rfl rfl rfl rfl (by ((repeat (first | exact InB.head | apply InB.tail | (with_reducible apply InB.app))); done)) (by exact rfl) (by ((repeat (first | exact SetB.head | apply SetB.tail | (with_reducible apply SetB.app))); done)) ⟨Le.refl _, (by (repeat (first | exact trivial | (apply And.intro; (focus (first | (apply Or.inr; (try dsimp only); ((repeat (first | exact InB.head | apply InB.tail | (with_reducible apply InB.app))); done)) | (apply Or.inl; kernel_rfl))))))), ?_⟩))
  refine Fn_ret tab [] (by exact .tmp rfl .nil) (Back.here cntL) ?_
  exact ⟨_, rfl, rfl⟩
theorem pdq_x {b : Nat} {lim : Int} (hD : DBz cap d c) (hcap : d.size ≤ 12) : CallsB Try.prog mn 56 #[slV b d.size cap, .int .i64 (0 : Nat), .int .i64 d.size, intV lim, cmV] (RetB fun r β' => r = .tuple #[] ∧ SBox cap d.size b β') [(b, c, 42)] v := by
  refine callsB_fn tab func56 rfl (Nat.le_of_ble_eq_true rfl) (args := [_, _, _, _, _]) ?_
  repeat' (first | refine cs ?_ | refine ss ?_ | (((with_reducible apply Q_box); (focus (exact rfl)); (focus (exact rfl)); (focus (exact rfl))); intro bx) | (((with_reducible apply Q_alloc tab); (focus (exact rfl)); (focus (exact rfl)); (focus (exact rfl))); intro bx) | refine S_do (by kernel_rfl) (A_storeN tab rfl rfl rfl rfl rfl rfl rfl (by ((repeat (first | exact InB.head | apply InB.tail | (with_reducible apply InB.app))); done)) (by exact rfl) (by ((repeat (first | exact SetB.head | apply SetB.tail | (with_reducible apply SetB.app))); done)) ⟨Le.refl _, (by (repeat (first | exact trivial | (apply And.intro; (focus (first | (apply Or.inr; (try dsimp only); ((repeat (first | exact InB.head | apply InB.tail | (with_reducible apply InB.app))); done)) | (apply Or.inl; kernel_rfl))))))), ?_⟩))
  refine C_loop (α := Unit) (fun z => ⟨[], [(0, slV b d.size cap), (1, .int .i64 (0 : Nat)), (2, .int .i64 d.size), (3, intV lim), (4, cmV)], [(b, c, 42)]⟩)
    (fun z u => u = v) (fun _ => 0) () ⟨rfl, (by (repeat (first | exact trivial | refine ⟨rfl, ?_⟩))), cntL⟩ (Le.refl _) rfl ?_
  rintro _ u rfl
  repeat' (first | refine cs ?_ | refine ss ?_ | (((with_reducible apply Q_box); (focus (exact rfl)); (focus (exact rfl)); (focus (exact rfl))); intro bx) | (((with_reducible apply Q_alloc tab); (focus (exact rfl)); (focus (exact rfl)); (focus (exact rfl))); intro bx) | refine S_do (by kernel_rfl) (A_storeN tab rfl rfl rfl rfl rfl rfl rfl (by ((repeat (first | exact InB.head | apply InB.tail | (with_reducible apply InB.app))); done)) (by exact rfl) (by ((repeat (first | exact SetB.head | apply SetB.tail | (with_reducible apply SetB.app))); done)) ⟨Le.refl _, (by (repeat (first | exact trivial | (apply And.intro; (focus (first | (apply Or.inr; (try dsimp only); ((repeat (first | exact InB.head | apply InB.tail | (with_reducible apply InB.app))); done)) | (apply Or.inl; kernel_rfl))))))), ?_⟩))
  rw [show decide ((d.size : Int) - (0 : Nat) ≤ 12) = true from decide_eq_true (by omega)]
  repeat' (first | refine cs ?_ | refine ss ?_ | (((with_reducible apply Q_box); (focus (exact rfl)); (focus (exact rfl)); (focus (exact rfl))); intro bx) | (((with_reducible apply Q_alloc tab); (focus (exact rfl)); (focus (exact rfl)); (focus (exact rfl))); intro bx) | refine S_do (by kernel_rfl) (A_storeN tab rfl rfl rfl rfl rfl rfl rfl (by ((repeat (first | exact InB.head | apply InB.tail | (with_reducible apply InB.app))); done)) (by exact rfl) (by ((repeat (first | exact SetB.head | apply SetB.tail | (with_reducible apply SetB.app))); done)) ⟨Le.refl _, (by (repeat (first | exact trivial | (apply And.intro; (focus (first | (apply Or.inr; (try dsimp only); ((repeat (first | exact InB.head | apply InB.tail | (with_reducible apply InB.app))); done)) | (apply Or.inl; kernel_rfl))))))), ?_⟩))
  refine Q_op fun ho => A_callR ([(b, c, 42)]) ([]) ho bod58 rfl rfl rfl rfl rfl cntA (insertion_x hD (by omega)) (fun x β' hR => ?_)
  clear ho
  obtain ⟨rfl, hS⟩ := hR
  repeat' (first | refine cs ?_ | refine ss ?_ | (((with_reducible apply Q_box); (focus (exact rfl)); (focus (exact rfl)); (focus (exact rfl))); intro bx) | (((with_reducible apply Q_alloc tab); (focus (exact rfl)); (focus (exact rfl)); (focus (exact rfl))); intro bx) | refine S_do (by kernel_rfl) (A_storeN tab rfl rfl rfl rfl rfl rfl rfl (by ((repeat (first | exact InB.head | apply InB.tail | (with_reducible apply InB.app))); done)) (by exact rfl) (by ((repeat (first | exact SetB.head | apply SetB.tail | (with_reducible apply SetB.app))); done)) ⟨Le.refl _, (by (repeat (first | exact trivial | (apply And.intro; (focus (first | (apply Or.inr; (try dsimp only); ((repeat (first | exact InB.head | apply InB.tail | (with_reducible apply InB.app))); done)) | (apply Or.inl; kernel_rfl))))))), ?_⟩))
  rw [List.append_nil]
  refine Fn_ret tab β' .nil (Back.here cntL) ?_
  exact ⟨rfl, hS⟩
theorem sort_x {b : Nat} (hD : DBz cap d c) (hcap : d.size ≤ 12) : CallsB Try.prog mn 55 #[slV b d.size cap, cmV] (RetB fun r β' => r = .tuple #[] ∧ SBox cap d.size b β') [(b, c, 42)] v := by
  refine callsB_fn tab func55 rfl (Nat.le_of_ble_eq_true rfl) (args := [_, _]) ?_
  repeat' (first | refine cs ?_ | refine ss ?_ | (((with_reducible apply Q_box); (focus (exact rfl)); (focus (exact rfl)); (focus (exact rfl))); intro bx) | (((with_reducible apply Q_alloc tab); (focus (exact rfl)); (focus (exact rfl)); (focus (exact rfl))); intro bx) | refine S_do (by kernel_rfl) (A_storeN tab rfl rfl rfl rfl rfl rfl rfl (by ((repeat (first | exact InB.head | apply InB.tail | (with_reducible apply InB.app))); done)) (by exact rfl) (by ((repeat (first | exact SetB.head | apply SetB.tail | (with_reducible apply SetB.app))); done)) ⟨Le.refl _, (by (repeat (first | exact trivial | (apply And.intro; (focus (first | (apply Or.inr; (try dsimp only); ((repeat (first | exact InB.head | apply InB.tail | (with_reducible apply InB.app))); done)) | (apply Or.inl; kernel_rfl))))))), ?_⟩))
  rw [wrapu (by omega) (by omega)]
  refine Q_op fun ho => A_callR ([]) (_) ho bod57 rfl rfl rfl rfl rfl split0 (len_x (x := d.size) (by omega)) (fun x β' hR => ?_)
  clear ho
  obtain ⟨z, rfl, rfl⟩ := hR
  repeat' (first | refine cs ?_ | refine ss ?_ | (((with_reducible apply Q_box); (focus (exact rfl)); (focus (exact rfl)); (focus (exact rfl))); intro bx) | (((with_reducible apply Q_alloc tab); (focus (exact rfl)); (focus (exact rfl)); (focus (exact rfl))); intro bx) | refine S_do (by kernel_rfl) (A_storeN tab rfl rfl rfl rfl rfl rfl rfl (by ((repeat (first | exact InB.head | apply InB.tail | (with_reducible apply InB.app))); done)) (by exact rfl) (by ((repeat (first | exact SetB.head | apply SetB.tail | (with_reducible apply SetB.app))); done)) ⟨Le.refl _, (by (repeat (first | exact trivial | (apply And.intro; (focus (first | (apply Or.inr; (try dsimp only); ((repeat (first | exact InB.head | apply InB.tail | (with_reducible apply InB.app))); done)) | (apply Or.inl; kernel_rfl))))))), ?_⟩))
  refine Q_op fun ho => A_callR ([(b, c, 42)]) ([]) ho bod56 rfl rfl rfl rfl rfl cntA (pdq_x hD hcap) (fun x β' hR => ?_)
  clear ho
  obtain ⟨rfl, hS⟩ := hR
  rw [List.append_nil]
  repeat' (first | refine cs ?_ | refine ss ?_ | (((with_reducible apply Q_box); (focus (exact rfl)); (focus (exact rfl)); (focus (exact rfl))); intro bx) | (((with_reducible apply Q_alloc tab); (focus (exact rfl)); (focus (exact rfl)); (focus (exact rfl))); intro bx) | refine S_do (by kernel_rfl) (A_storeN tab rfl rfl rfl rfl rfl rfl rfl (by ((repeat (first | exact InB.head | apply InB.tail | (with_reducible apply InB.app))); done)) (by exact rfl) (by ((repeat (first | exact SetB.head | apply SetB.tail | (with_reducible apply SetB.app))); done)) ⟨Le.refl _, (by (repeat (first | exact trivial | (apply And.intro; (focus (first | (apply Or.inr; (try dsimp only); ((repeat (first | exact InB.head | apply InB.tail | (with_reducible apply InB.app))); done)) | (apply Or.inl; kernel_rfl))))))), ?_⟩))
  refine Fn_normal tab β' .nil (Back.here cntL) ?_
  exact ⟨rfl, hS⟩
end
end Go.Proofs.Ytbbaionoibkohaa
end
section
namespace Go.Proofs.Ytbbaionoibkohaa
open Go Go.Pal Go.Pal.Db Go.Conc View
open Go.Proofs.Try
set_option maxHeartbeats 4000000
abbrev dtC (l : List Dt) : List Value := (l.map Dt.cells).flatten
theorem dtC_len (l : List Dt) : (dtC l).length = l.length * 3 := by
  have := flat_len (k := 3) (l.map Dt.cells) (by intro y hy; obtain ⟨z, _, rfl⟩ := List.mem_map.1 hy; rfl)
  rw [List.length_map] at this
  exact this
theorem dtC_get (l : List Dt) {j i : Nat} (hj : j < l.length) (hi : i < 3) : (dtC l)[j * 3 + i]? = l[j].cells[i]? := by
  have := flat_get (k := 3) (l.map Dt.cells) j i (by intro y hy; obtain ⟨z, _, rfl⟩ := List.mem_map.1 hy; rfl) hi
  rw [show dtC l = (l.map Dt.cells).flatten from rfl, this, List.getElem?_map, List.getElem?_eq_getElem hj]
  rfl
theorem db_of_own {b cap : Nat} {c : Array Value} {l : List Dt} (h : OwnS 42 3 [(b, c, 42)] (some ⟨b, 0, none⟩) l.length cap (dtC l)) (hf : ∀ d ∈ l, d.fit) : DBz cap l.toArray c := by
  cases h with
  | box h1 h2 h3 h4 =>
    refine ⟨h3, h2, fun x => rfl, fun {i} hi => ?_, fun i hi => ?_⟩
    · have hi' : i < l.length := by simpa using hi
      rw [getElem!_pos l.toArray i hi]
      exact hf _ (by simp)
    · have hi' : i < l.length := by simpa using hi
      rw [getElem!_pos l.toArray i hi, List.getElem_toArray]
      have hb : i * 3 + 3 ≤ c.size := by rw [h3]; omega
      apply Array.ext_getElem?
      intro q
      rw [Array.getElem?_extract]
      split
      · rename_i hq
        have hq3 : q < 3 := by omega
        have hg := dtC_get l hi' hq3
        have hlen : l[i].cells.length = 3 := rfl
        have hg2 : l[i].cells[q]? = some (l[i].cells[q]'(by rw [hlen]; exact hq3)) := List.getElem?_eq_getElem _
        rw [hg2] at hg
        rw [h4 _ _ hg]
        simp
      · rename_i hq
        have : l[i].cells.length ≤ q := by show 3 ≤ q; omega
        simp [List.getElem?_eq_none this]
theorem own_of_db {b cap : Nat} {c : Array Value} {d : Array Dt} (h : DBz cap d c) : OwnS 42 3 [(b, c, 42)] (some ⟨b, 0, none⟩) d.size cap (dtC d.toList) ∧ ∀ x ∈ d.toList, x.fit := by
  refine ⟨.box (by rw [dtC_len]; simp) h.db.le h.db.size fun i x hx => ?_, fun x hx => ?_⟩
  · have hlt : i < (dtC d.toList).length := (List.getElem?_eq_some_iff.1 hx).1
    rw [dtC_len] at hlt
    have hj : i / 3 < d.toList.length := by omega
    have hj' : i / 3 < d.size := by simpa using hj
    have he : i = i / 3 * 3 + i % 3 := by omega
    have hm : i % 3 < 3 := Nat.mod_lt _ (by omega)
    rw [he, dtC_get d.toList hj hm] at hx
    have hg := congrArg (fun a : Array Value => a[i % 3]?) (h.db.get (i / 3) hj')
    simp only [Array.getElem?_extract] at hg
    have hb := h.db.bound hj'
    rw [if_pos (by omega)] at hg
    rw [he, hg, getElem!_pos d (i / 3) hj']
    simpa using hx
  · obtain ⟨i, hi, rfl⟩ := List.getElem_of_mem hx
    have hi' : i < d.size := by simpa using hi
    have := h.ok hi'
    rw [getElem!_pos d i hi'] at this
    simpa using this
section
variable {mn : Who} {v : View}
theorem clone54_x {l : List Dt} {a : Addr} {cap : Nat} (hrow : RowAt v (some a) (dtC l)) (hlen : l.length < 2 ^ 20) : CallsB Try.prog mn 54 #[.slice (some a) l.length cap] (RetB fun r β' => ∃ a' cap', r = .slice a' l.length cap' ∧ OwnS 42 3 β' a' l.length cap' (dtC l)) [] v := by
  refine callsB_fn tab func54 rfl (Nat.le_of_ble_eq_true rfl) (args := [_]) ?_
  repeat' (first | refine cs ?_ | refine ss ?_ | (((with_reducible apply Q_box); (focus (exact rfl)); (focus (exact rfl)); (focus (exact rfl))); intro bx) | (((with_reducible apply Q_alloc tab); (focus (exact rfl)); (focus (exact rfl)); (focus (exact rfl))); intro bx) | refine S_do (by kernel_rfl) (A_storeN tab rfl rfl rfl rfl rfl rfl rfl (by ((repeat (first | exact InB.head | apply InB.tail | (with_reducible apply InB.app))); done)) (by exact rfl) (by ((repeat (first | exact SetB.head | apply SetB.tail | (with_reducible apply SetB.app))); done)) ⟨Le.refl _, (by (repeat (first | exact trivial | (apply And.intro; (focus (first | (apply Or.inr; (try dsimp only); ((repeat (first | exact InB.head | apply InB.tail | (with_reducible apply InB.app))); done)) | (apply Or.inl; kernel_rfl))))))), ?_⟩))
  refine Q_op fun ho => A_lit tab ho rfl rfl rfl rfl rfl rfl rfl rfl rfl (fun b3 c3 hL => ?_)
  clear ho
  repeat' (first | refine cs ?_ | refine ss ?_ | (((with_reducible apply Q_box); (focus (exact rfl)); (focus (exact rfl)); (focus (exact rfl))); intro bx) | (((with_reducible apply Q_alloc tab); (focus (exact rfl)); (focus (exact rfl)); (focus (exact rfl))); intro bx) | refine S_do (by kernel_rfl) (A_storeN tab rfl rfl rfl rfl rfl rfl rfl (by ((repeat (first | exact InB.head | apply InB.tail | (with_reducible apply InB.app))); done)) (by exact rfl) (by ((repeat (first | exact SetB.head | apply SetB.tail | (with_reducible apply SetB.app))); done)) ⟨Le.refl _, (by (repeat (first | exact trivial | (apply And.intro; (focus (first | (apply Or.inr; (try dsimp only); ((repeat (first | exact InB.head | apply InB.tail | (with_reducible apply InB.app))); done)) | (apply Or.inl; kernel_rfl))))))), ?_⟩))
  refine Q_op fun ho => A_append tab (xs := dtC l) [(b3, c3, 42)] [] [] ho rfl rfl rfl rfl rfl rfl rfl rfl rfl rfl cntA hL
    (fun hb => RowAt.le hrow (union_le _ _)) (dtC_len l) (by
      rw [List.all_eq_true]
      intro y hy
      obtain ⟨z, hz, hy⟩ := List.mem_flatten.1 hy
      obtain ⟨d, _, rfl⟩ := List.mem_map.1 hz
      simp only [Dt.cells, List.mem_cons, List.not_mem_nil, or_false] at hy
      rcases hy with rfl | rfl | rfl <;> rfl) (by show (2 * (0 + l.length) + 768) * 24 ≤ 2 ^ 48; omega) (by omega) (fun seg' a' cap' hS' => ?_)
  clear ho
  repeat' (first | refine cs ?_ | refine ss ?_ | (((with_reducible apply Q_box); (focus (exact rfl)); (focus (exact rfl)); (focus (exact rfl))); intro bx) | (((with_reducible apply Q_alloc tab); (focus (exact rfl)); (focus (exact rfl)); (focus (exact rfl))); intro bx) | refine S_do (by kernel_rfl) (A_storeN tab rfl rfl rfl rfl rfl rfl rfl (by ((repeat (first | exact InB.head | apply InB.tail | (with_reducible apply InB.app))); done)) (by exact rfl) (by ((repeat (first | exact SetB.head | apply SetB.tail | (with_reducible apply SetB.app))); done)) ⟨Le.refl _, (by (repeat (first | exact trivial | (apply And.intro; (focus (first | (apply Or.inr; (try dsimp only); ((repeat (first | exact InB.head | apply InB.tail | (with_reducible apply InB.app))); done)) | (apply Or.inl; kernel_rfl))))))), ?_⟩))
  refine Fn_ret tab seg' (by exact .tmp rfl .nil) (Back.here cntL) ?_
  rw [Nat.zero_add] at hS'
  exact ⟨a', cap', by show Value.slice a' (0 + l.length) cap' = _; rw [Nat.zero_add], hS'⟩
def OwnP (β : Boxes) (r : Value) (n : Nat) : Prop := ∃ l a cap, l.length = n ∧ (∀ d ∈ l, Dt.fit d) ∧ r = .slice a n cap ∧ OwnS 42 3 β a n cap (dtC l)
theorem sort_nil : CallsB Try.prog mn 55 #[.slice none 0 0, cmV] (RetB fun r β' => r = .tuple #[] ∧ β' = []) [] v := by
  have hins : CallsB Try.prog mn 58 #[.slice none 0 0, .int .i64 (0 : Nat), .int .i64 0, cmV] (RetB fun r β' => r = .tuple #[] ∧ β' = []) [] v := by
    refine callsB_fn tab func58 rfl (Nat.le_of_ble_eq_true rfl) (args := [_, _, _, _]) ?_
    repeat' (first | refine cs ?_ | refine ss ?_ | (((with_reducible apply Q_box); (focus (exact rfl)); (focus (exact rfl)); (focus (exact rfl))); intro bx) | (((with_reducible apply Q_alloc tab); (focus (exact rfl)); (focus (exact rfl)); (focus (exact rfl))); intro bx) | refine S_do (by kernel_rfl) (A_storeN tab rfl rfl rfl rfl rfl rfl rfl (by ((repeat (first | exact InB.head | apply InB.tail | (with_reducible apply InB.app))); done)) (by exact rfl) (by ((repeat (first | exact SetB.head | apply SetB.tail | (with_reducible apply SetB.app))); done)) ⟨Le.refl _, (by (repeat (first | exact trivial | (apply And.intro; (focus (first | (apply Or.inr; (try dsimp only); ((repeat (first | exact InB.head | apply InB.tail | (with_reducible apply InB.app))); done)) | (apply Or.inl; kernel_rfl))))))), ?_⟩))
    refine C_loop (α := Unit) (fun z => ⟨[], [(8, .int .i64 1), (2, .int .i64 0)], []⟩) (fun z u => u = v) (fun _ => 0) () ⟨rfl, (by (repeat (first | exact trivial | refine ⟨rfl, ?_⟩))), cntL⟩ (Le.refl _) rfl ?_
    rintro _ u rfl
    repeat' (first | refine cs ?_ | refine ss ?_ | (((with_reducible apply Q_box); (focus (exact rfl)); (focus (exact rfl)); (focus (exact rfl))); intro bx) | (((with_reducible apply Q_alloc tab); (focus (exact rfl)); (focus (exact rfl)); (focus (exact rfl))); intro bx) | refine S_do (by kernel_rfl) (A_storeN tab rfl rfl rfl rfl rfl rfl rfl (by ((repeat (first | exact InB.head | apply InB.tail | (with_reducible apply InB.app))); done)) (by exact rfl) (by ((repeat (first | exact SetB.head | apply SetB.tail | (with_reducible apply SetB.app))); done)) ⟨Le.refl _, (by (repeat (first | exact trivial | (apply And.intro; (focus (first | (apply Or.inr; (try dsimp only); ((repeat (first | exact InB.head | apply InB.tail | (with_reducible apply InB.app))); done)) | (apply Or.inl; kernel_rfl))))))), ?_⟩))
    refine Fn_normal tab [] .nil (Back.here cntL) ?_
    exact ⟨rfl, rfl⟩
  have hpdq : ∀ lim, CallsB Try.prog mn 56 #[.slice none 0 0, .int .i64 (0 : Nat), .int .i64 0, intV lim, cmV] (RetB fun r β' => r = .tuple #[] ∧ β' = []) [] v := by
    intro lim
    refine callsB_fn tab func56 rfl (Nat.le_of_ble_eq_true rfl) (args := [_, _, _, _, _]) ?_
    repeat' (first | refine cs ?_ | refine ss ?_ | (((with_reducible apply Q_box); (focus (exact rfl)); (focus (exact rfl)); (focus (exact rfl))); intro bx) | (((with_reducible apply Q_alloc tab); (focus (exact rfl)); (focus (exact rfl)); (focus (exact rfl))); intro bx) | refine S_do (by kernel_rfl) (A_storeN tab rfl rfl rfl rfl rfl rfl rfl (by ((repeat (first | exact InB.head | apply InB.tail | (with_reducible apply InB.app))); done)) (by exact rfl) (by ((repeat (first | exact SetB.head | apply SetB.tail | (with_reducible apply SetB.app))); done)) ⟨Le.refl _, (by (repeat (first | exact trivial | (apply And.intro; (focus (first | (apply Or.inr; (try dsimp only); ((repeat (first | exact InB.head | apply InB.tail | (with_reducible apply InB.app))); done)) | (apply Or.inl; kernel_rfl))))))), ?_⟩))
    refine C_loop (α := Unit) (fun z => ⟨[], [(0, .slice none 0 0), (1, .int .i64 (0 : Nat)), (2, .int .i64 0), (3, intV lim), (4, cmV)], []⟩)
      (fun z u => u = v) (fun _ => 0) () ⟨rfl, (by (repeat (first | exact trivial | refine ⟨rfl, ?_⟩))), cntL⟩ (Le.refl _) rfl ?_
    rintro _ u rfl
    repeat' (first | refine cs ?_ | refine ss ?_ | (((with_reducible apply Q_box); (focus (exact rfl)); (focus (exact rfl)); (focus (exact rfl))); intro bx) | (((with_reducible apply Q_alloc tab); (focus (exact rfl)); (focus (exact rfl)); (focus (exact rfl))); intro bx) | refine S_do (by kernel_rfl) (A_storeN tab rfl rfl rfl rfl rfl rfl rfl (by ((repeat (first | exact InB.head | apply InB.tail | (with_reducible apply InB.app))); done)) (by exact rfl) (by ((repeat (first | exact SetB.head | apply SetB.tail | (with_reducible apply SetB.app))); done)) ⟨Le.refl _, (by (repeat (first | exact trivial | (apply And.intro; (focus (first | (apply Or.inr; (try dsimp only); ((repeat (first | exact InB.head | apply InB.tail | (with_reducible apply InB.app))); done)) | (apply Or.inl; kernel_rfl))))))), ?_⟩))
    refine Q_op fun ho => A_ret1 ho bod58 rfl rfl rfl rfl rfl hins ?_
    clear ho
    repeat' (first | refine cs ?_ | refine ss ?_ | (((with_reducible apply Q_box); (focus (exact rfl)); (focus (exact rfl)); (focus (exact rfl))); intro bx) | (((with_reducible apply Q_alloc tab); (focus (exact rfl)); (focus (exact rfl)); (focus (exact rfl))); intro bx) | refine S_do (by kernel_rfl) (A_storeN tab rfl rfl rfl rfl rfl rfl rfl (by ((repeat (first | exact InB.head | apply InB.tail | (with_reducible apply InB.app))); done)) (by exact rfl) (by ((repeat (first | exact SetB.head | apply SetB.tail | (with_reducible apply SetB.app))); done)) ⟨Le.refl _, (by (repeat (first | exact trivial | (apply And.intro; (focus (first | (apply Or.inr; (try dsimp only); ((repeat (first | exact InB.head | apply InB.tail | (with_reducible apply InB.app))); done)) | (apply Or.inl; kernel_rfl))))))), ?_⟩))
    refine Fn_ret tab [] .nil (Back.here cntL) ?_
    exact ⟨rfl, rfl⟩
  have hsort : CallsB Try.prog mn 55 #[.slice none 0 0, cmV] (RetB fun r β' => r = .tuple #[] ∧ β' = []) [] v := by
    refine callsB_fn tab func55 rfl (Nat.le_of_ble_eq_true rfl) (args := [_, _]) ?_
    repeat' (first | refine cs ?_ | refine ss ?_ | (((with_reducible apply Q_box); (focus (exact rfl)); (focus (exact rfl)); (focus (exact rfl))); intro bx) | (((with_reducible apply Q_alloc tab); (focus (exact rfl)); (focus (exact rfl)); (focus (exact rfl))); intro bx) | refine S_do (by kernel_rfl) (A_storeN tab rfl rfl rfl rfl rfl rfl rfl (by ((repeat (first | exact InB.head | apply InB.tail | (with_reducible apply InB.app))); done)) (by exact rfl) (by ((repeat (first | exact SetB.head | apply SetB.tail | (with_reducible apply SetB.app))); done)) ⟨Le.refl _, (by (repeat (first | exact trivial | (apply And.intro; (focus (first | (apply Or.inr; (try dsimp only); ((repeat (first | exact InB.head | apply InB.tail | (with_reducible apply InB.app))); done)) | (apply Or.inl; kernel_rfl))))))), ?_⟩))
    refine Q_op fun ho => A_callR ([]) (_) ho bod57 rfl rfl rfl rfl rfl split0 (len_x (x := 0) (by omega)) (fun x β' hR => ?_)
    clear ho
    obtain ⟨z, rfl, rfl⟩ := hR
    repeat' (first | refine cs ?_ | refine ss ?_ | (((with_reducible apply Q_box); (focus (exact rfl)); (focus (exact rfl)); (focus (exact rfl))); intro bx) | (((with_reducible apply Q_alloc tab); (focus (exact rfl)); (focus (exact rfl)); (focus (exact rfl))); intro bx) | refine S_do (by kernel_rfl) (A_storeN tab rfl rfl rfl rfl rfl rfl rfl (by ((repeat (first | exact InB.head | apply InB.tail | (with_reducible apply InB.app))); done)) (by exact rfl) (by ((repeat (first | exact SetB.head | apply SetB.tail | (with_reducible apply SetB.app))); done)) ⟨Le.refl _, (by (repeat (first | exact trivial | (apply And.intro; (focus (first | (apply Or.inr; (try dsimp only); ((repeat (first | exact InB.head | apply InB.tail | (with_reducible apply InB.app))); done)) | (apply Or.inl; kernel_rfl))))))), ?_⟩))
    refine Q_op fun ho => A_ret1 ho bod56 rfl rfl rfl rfl rfl (hpdq z) ?_
    clear ho
    repeat' (first | refine cs ?_ | refine ss ?_ | (((with_reducible apply Q_box); (focus (exact rfl)); (focus (exact rfl)); (focus (exact rfl))); intro bx) | (((with_reducible apply Q_alloc tab); (focus (exact rfl)); (focus (exact rfl)); (focus (exact rfl))); intro bx) | refine S_do (by kernel_rfl) (A_storeN tab rfl rfl rfl rfl rfl rfl rfl (by ((repeat (first | exact InB.head | apply InB.tail | (with_reducible apply InB.app))); done)) (by exact rfl) (by ((repeat (first | exact SetB.head | apply SetB.tail | (with_reducible apply SetB.app))); done)) ⟨Le.refl _, (by (repeat (first | exact trivial | (apply And.intro; (focus (first | (apply Or.inr; (try dsimp only); ((repeat (first | exact InB.head | apply InB.tail | (with_reducible apply InB.app))); done)) | (apply Or.inl; kernel_rfl))))))), ?_⟩))
    refine Fn_normal tab [] .nil (Back.here cntL) ?_
    exact ⟨rfl, rfl⟩
  exact hsort
theorem sorted_x {l : List Dt} {a : Addr} {cap : Nat} (hrow : RowAt v (some a) (dtC l)) (hlen : l.length ≤ 12) (hf : ∀ d ∈ l, d.fit) : CallsB Try.prog mn 53 #[.slice (some a) l.length cap] (RetB fun r β' => OwnP β' r l.length) [] v := by
  refine callsB_fn tab func53 rfl (Nat.le_of_ble_eq_true rfl) (args := [_]) ?_
  repeat' (first | refine cs ?_ | refine ss ?_ | (((with_reducible apply Q_box); (focus (exact rfl)); (focus (exact rfl)); (focus (exact rfl))); intro bx) | (((with_reducible apply Q_alloc tab); (focus (exact rfl)); (focus (exact rfl)); (focus (exact rfl))); intro bx) | refine S_do (by kernel_rfl) (A_storeN tab rfl rfl rfl rfl rfl rfl rfl (by ((repeat (first | exact InB.head | apply InB.tail | (with_reducible apply InB.app))); done)) (by exact rfl) (by ((repeat (first | exact SetB.head | apply SetB.tail | (with_reducible apply SetB.app))); done)) ⟨Le.refl _, (by (repeat (first | exact trivial | (apply And.intro; (focus (first | (apply Or.inr; (try dsimp only); ((repeat (first | exact InB.head | apply InB.tail | (with_reducible apply InB.app))); done)) | (apply Or.inl; kernel_rfl))))))), ?_⟩))
  refine Q_op fun ho => A_callR ([]) (_) ho bod54 rfl rfl rfl rfl rfl split0 (clone54_x (hrow.le (union_le _ _)) (by omega)) (fun x β' hR => ?_)
  clear ho
  obtain ⟨a', cap', rfl, hS⟩ := hR
  have hcase : (a' = none ∧ cap' = 0 ∧ β' = [] ∧ l.length = 0) ∨ ∃ b c, a' = some ⟨b, 0, none⟩ ∧ β' = [(b, c, 42)] := by
    generalize dtC l = ll at hS
    generalize hnn : l.length = nn at hS
    cases hS with
    | nil => exact .inl ⟨rfl, rfl, rfl, rfl⟩
    | box _ _ _ _ => exact .inr ⟨_, _, rfl, rfl⟩
  rcases hcase with ⟨rfl, rfl, rfl, h0⟩ | ⟨b, c, rfl, rfl⟩
  · rw [h0]
    repeat' (first | refine cs ?_ | refine ss ?_ | (((with_reducible apply Q_box); (focus (exact rfl)); (focus (exact rfl)); (focus (exact rfl))); intro bx) | (((with_reducible apply Q_alloc tab); (focus (exact rfl)); (focus (exact rfl)); (focus (exact rfl))); intro bx) | refine S_do (by kernel_rfl) (A_storeN tab rfl rfl rfl rfl rfl rfl rfl (by ((repeat (first | exact InB.head | apply InB.tail | (with_reducible apply InB.app))); done)) (by exact rfl) (by ((repeat (first | exact SetB.head | apply SetB.tail | (with_reducible apply SetB.app))); done)) ⟨Le.refl _, (by (repeat (first | exact trivial | (apply And.intro; (focus (first | (apply Or.inr; (try dsimp only); ((repeat (first | exact InB.head | apply InB.tail | (with_reducible apply InB.app))); done)) | (apply Or.inl; kernel_rfl))))))), ?_⟩))
    refine Q_op fun ho => A_ret1 ho bod55 rfl rfl rfl rfl rfl sort_nil ?_
    clear ho
    repeat' (first | refine cs ?_ | refine ss ?_ | (((with_reducible apply Q_box); (focus (exact rfl)); (focus (exact rfl)); (focus (exact rfl))); intro bx) | (((with_reducible apply Q_alloc tab); (focus (exact rfl)); (focus (exact rfl)); (focus (exact rfl))); intro bx) | refine S_do (by kernel_rfl) (A_storeN tab rfl rfl rfl rfl rfl rfl rfl (by ((repeat (first | exact InB.head | apply InB.tail | (with_reducible apply InB.app))); done)) (by exact rfl) (by ((repeat (first | exact SetB.head | apply SetB.tail | (with_reducible apply SetB.app))); done)) ⟨Le.refl _, (by (repeat (first | exact trivial | (apply And.intro; (focus (first | (apply Or.inr; (try dsimp only); ((repeat (first | exact InB.head | apply InB.tail | (with_reducible apply InB.app))); done)) | (apply Or.inl; kernel_rfl))))))), ?_⟩))
    refine Fn_ret tab (xs := [.slice none 0 0]) [] (by exact .tmp rfl .nil) (Back.here fun p => Nat.zero_le _) ?_
    exact ⟨[], none, 0, rfl, by simp, rfl, .nil⟩
  have hD := db_of_own hS hf
  repeat' (first | refine cs ?_ | refine ss ?_ | (((with_reducible apply Q_box); (focus (exact rfl)); (focus (exact rfl)); (focus (exact rfl))); intro bx) | (((with_reducible apply Q_alloc tab); (focus (exact rfl)); (focus (exact rfl)); (focus (exact rfl))); intro bx) | refine S_do (by kernel_rfl) (A_storeN tab rfl rfl rfl rfl rfl rfl rfl (by ((repeat (first | exact InB.head | apply InB.tail | (with_reducible apply InB.app))); done)) (by exact rfl) (by ((repeat (first | exact SetB.head | apply SetB.tail | (with_reducible apply SetB.app))); done)) ⟨Le.refl _, (by (repeat (first | exact trivial | (apply And.intro; (focus (first | (apply Or.inr; (try dsimp only); ((repeat (first | exact InB.head | apply InB.tail | (with_reducible apply InB.app))); done)) | (apply Or.inl; kernel_rfl))))))), ?_⟩))
  refine Q_op fun ho => A_callR ([(b, c, 42)]) (_) ho bod55 rfl rfl rfl rfl rfl cntA (sort_x (d := l.toArray) hD (by simpa using hlen)) (fun x β' hR => ?_)
  clear ho
  obtain ⟨rfl, d', c', hs, hD', rfl⟩ := hR
  repeat' (first | refine cs ?_ | refine ss ?_ | (((with_reducible apply Q_box); (focus (exact rfl)); (focus (exact rfl)); (focus (exact rfl))); intro bx) | (((with_reducible apply Q_alloc tab); (focus (exact rfl)); (focus (exact rfl)); (focus (exact rfl))); intro bx) | refine S_do (by kernel_rfl) (A_storeN tab rfl rfl rfl rfl rfl rfl rfl (by ((repeat (first | exact InB.head | apply InB.tail | (with_reducible apply InB.app))); done)) (by exact rfl) (by ((repeat (first | exact SetB.head | apply SetB.tail | (with_reducible apply SetB.app))); done)) ⟨Le.refl _, (by (repeat (first | exact trivial | (apply And.intro; (focus (first | (apply Or.inr; (try dsimp only); ((repeat (first | exact InB.head | apply InB.tail | (with_reducible apply InB.app))); done)) | (apply Or.inl; kernel_rfl))))))), ?_⟩))
  refine Fn_ret tab (xs := [.slice (some ⟨b, 0, none⟩) l.length cap']) [(b, c', 42)] (by exact .tmp rfl .nil) (Back.here cntL) ?_
  have hs' : d'.size = l.length := by simpa using hs
  obtain ⟨h1, h2⟩ := own_of_db (b := b) hD'
  rw [hs'] at h1
  exact ⟨d'.toList, _, _, by simpa using hs', h2, rfl, h1⟩
theorem sorted_nil : CallsB Try.prog mn 53 #[.slice none 0 0] (RetB fun r β' => OwnP β' r 0) [] v := by
  have hclone : CallsB Try.prog mn 54 #[.slice none 0 0] (RetB fun r β' => r = .slice none 0 0 ∧ β' = []) [] v := by
    refine callsB_fn tab func54 rfl (Nat.le_of_ble_eq_true rfl) (args := [_]) ?_
    repeat' (first | refine cs ?_ | refine ss ?_ | (((with_reducible apply Q_box); (focus (exact rfl)); (focus (exact rfl)); (focus (exact rfl))); intro bx) | (((with_reducible apply Q_alloc tab); (focus (exact rfl)); (focus (exact rfl)); (focus (exact rfl))); intro bx) | refine S_do (by kernel_rfl) (A_storeN tab rfl rfl rfl rfl rfl rfl rfl (by ((repeat (first | exact InB.head | apply InB.tail | (with_reducible apply InB.app))); done)) (by exact rfl) (by ((repeat (first | exact SetB.head | apply SetB.tail | (with_reducible apply SetB.app))); done)) ⟨Le.refl _, (by (repeat (first | exact trivial | (apply And.intro; (focus (first | (apply Or.inr; (try dsimp only); ((repeat (first | exact InB.head | apply InB.tail | (with_reducible apply InB.app))); done)) | (apply Or.inl; kernel_rfl))))))), ?_⟩))
    refine Fn_ret tab [] (by exact .tmp rfl .nil) (Back.here cntL) ?_
    exact ⟨rfl, rfl⟩
  refine callsB_fn tab func53 rfl (Nat.le_of_ble_eq_true rfl) (args := [_]) ?_
  repeat' (first | refine cs ?_ | refine ss ?_ | (((with_reducible apply Q_box); (focus (exact rfl)); (focus (exact rfl)); (focus (exact rfl))); intro bx) | (((with_reducible apply Q_alloc tab); (focus (exact rfl)); (focus (exact rfl)); (focus (exact rfl))); intro bx) | refine S_do (by kernel_rfl) (A_storeN tab rfl rfl rfl rfl rfl rfl rfl (by ((repeat (first | exact InB.head | apply InB.tail | (with_reducible apply InB.app))); done)) (by exact rfl) (by ((repeat (first | exact SetB.head | apply SetB.tail | (with_reducible apply SetB.app))); done)) ⟨Le.refl _, (by (repeat (first | exact trivial | (apply And.intro; (focus (first | (apply Or.inr; (try dsimp only); ((repeat (first | exact InB.head | apply InB.tail | (with_reducible apply InB.app))); done)) | (apply Or.inl; kernel_rfl))))))), ?_⟩))
  refine Q_op fun ho => A_ret1 ho bod54 rfl rfl rfl rfl rfl hclone ?_
  clear ho
  repeat' (first | refine cs ?_ | refine ss ?_ | (((with_reducible apply Q_box); (focus (exact rfl)); (focus (exact rfl)); (focus (exact rfl))); intro bx) | (((with_reducible apply Q_alloc tab); (focus (exact rfl)); (focus (exact rfl)); (focus (exact rfl))); intro bx) | refine S_do (by kernel_rfl) (A_storeN tab rfl rfl rfl rfl rfl rfl rfl (by ((repeat (first | exact InB.head | apply InB.tail | (with_reducible apply InB.app))); done)) (by exact rfl) (by ((repeat (first | exact SetB.head | apply SetB.tail | (with_reducible apply SetB.app))); done)) ⟨Le.refl _, (by (repeat (first | exact trivial | (apply And.intro; (focus (first | (apply Or.inr; (try dsimp only); ((repeat (first | exact InB.head | apply InB.tail | (with_reducible apply InB.app))); done)) | (apply Or.inl; kernel_rfl))))))), ?_⟩))
  refine Q_op fun ho => A_ret1 ho bod55 rfl rfl rfl rfl rfl sort_nil ?_
  clear ho
  repeat' (first | refine cs ?_ | refine ss ?_ | (((with_reducible apply Q_box); (focus (exact rfl)); (focus (exact rfl)); (focus (exact rfl))); intro bx) | (((with_reducible apply Q_alloc tab); (focus (exact rfl)); (focus (exact rfl)); (focus (exact rfl))); intro bx) | refine S_do (by kernel_rfl) (A_storeN tab rfl rfl rfl rfl rfl rfl rfl (by ((repeat (first | exact InB.head | apply InB.tail | (with_reducible apply InB.app))); done)) (by exact rfl) (by ((repeat (first | exact SetB.head | apply SetB.tail | (with_reducible apply SetB.app))); done)) ⟨Le.refl _, (by (repeat (first | exact trivial | (apply And.intro; (focus (first | (apply Or.inr; (try dsimp only); ((repeat (first | exact InB.head | apply InB.tail | (with_reducible apply InB.app))); done)) | (apply Or.inl; kernel_rfl))))))), ?_⟩))
  refine Fn_ret tab [] (by exact .tmp rfl .nil) (Back.here cntL) ?_
  exact ⟨[], none, 0, rfl, by simp, rfl, .nil⟩
end
end Go.Proofs.Ytbbaionoibkohaa
end
section
namespace Go.Proofs.Ytbbaionoibkohaa
open Go Go.Pal Go.Pal.Db Go.Conc View
open Go.Proofs.Try
set_option maxHeartbeats 4000000
set_option maxRecDepth 20000
section
variable {v : View}
theorem i64_eq {d : Nat} {x y : Int} {K : Bool → View → Prop} {E : Value → View → Prop} (h : K (x == y) v) : SemX Try.prog (Op.equalIn (d + 1) 3 (.int .i64 x) (.int .i64 y)) K E v := by
  unfold Op.equalIn
  rw [sx_bind, tx_und tab (t := 3) rfl]
  simp only [if_true]
  exact h
theorem part_i64 {cs : Array Value} {off : Nat} {x : Value} {K : Value → View → Prop} {E : Value → View → Prop} (hx : cs[off]? = some x) (h : K x v) : SemX Try.prog (part 3 cs off) K E v := by
  unfold part
  simp only [sx_bind]
  rw [sx_isAgg (tab.und_ok 3 _ rfl)]
  simp only [aggOf, Bool.false_eq_true, if_false, hx]
  exact h
def five (a b c d e : Int) : Bool := a == 0 && b == 0 && c == 0 && d == 0 && e == 0
theorem arr_eq {a b c d e : Int} {K : Bool → View → Prop} {E : Value → View → Prop} (h : K (five a b c d e) v) : SemX Try.prog (Op.equal 77 (.agg (List.toArray [intV a, intV b, intV c, intV d, intV e])) (.agg (List.toArray [intV 0, intV 0, intV 0, intV 0, intV 0]))) K E v := by
  show SemX Try.prog (Op.equalIn (9998 + 1 + 1) 77 _ _) K E v
  unfold Op.equalIn
  rw [sx_bind, tx_und tab (t := 77) rfl]
  simp only [sx_bind, tx_siz tab (t := 3) rfl, Std.Legacy.Range.forIn_eq_forIn_range', Std.Legacy.Range.size]
  rw [show List.range' 0 ((5 - 0 + 1 - 1) / 1) 1 = [0, 1, 2, 3, 4] from rfl]
  simp only [List.forIn_cons, List.forIn_nil, sx_bind]
  refine part_i64 (x := intV a) rfl ?_
  refine part_i64 (x := intV 0) rfl ?_
  refine i64_eq ?_
  by_cases ha : (a == 0) = true
  · rw [ha]
    simp only [Bool.not_true, Bool.false_eq_true, if_false, sx_pure, sx_bind]
    refine part_i64 (x := intV b) rfl ?_
    refine part_i64 (x := intV 0) rfl ?_
    refine i64_eq ?_
    by_cases hb : (b == 0) = true
    · rw [hb]
      simp only [Bool.not_true, Bool.false_eq_true, if_false, sx_pure, sx_bind]
      refine part_i64 (x := intV c) rfl ?_
      refine part_i64 (x := intV 0) rfl ?_
      refine i64_eq ?_
      by_cases hc : (c == 0) = true
      · rw [hc]
        simp only [Bool.not_true, Bool.false_eq_true, if_false, sx_pure, sx_bind]
        refine part_i64 (x := intV d) rfl ?_
        refine part_i64 (x := intV 0) rfl ?_
        refine i64_eq ?_
        by_cases hd : (d == 0) = true
        · rw [hd]
          simp only [Bool.not_true, Bool.false_eq_true, if_false, sx_pure, sx_bind]
          refine part_i64 (x := intV e) rfl ?_
          refine part_i64 (x := intV 0) rfl ?_
          refine i64_eq ?_
          by_cases he : (e == 0) = true
          · rw [he]
            simp only [Bool.not_true, Bool.false_eq_true, if_false, sx_pure, sx_bind]
            rw [show five a b c d e = true from by simp only [five, ha, hb, hc, hd, he, Bool.and_self]] at h
            exact h
          · have he' : (e == 0) = false := by simpa using he
            rw [he']
            simp only [Bool.not_false, if_true, sx_pure, sx_bind]
            rw [show five a b c d e = false from by simp only [five, he', Bool.and_false, Bool.false_and]] at h
            exact h
        · have hd' : (d == 0) = false := by simpa using hd
          rw [hd']
          simp only [Bool.not_false, if_true, sx_pure, sx_bind]
          rw [show five a b c d e = false from by simp only [five, hd', Bool.and_false, Bool.false_and]] at h
          exact h
      · have hc' : (c == 0) = false := by simpa using hc
        rw [hc']
        simp only [Bool.not_false, if_true, sx_pure, sx_bind]
        rw [show five a b c d e = false from by simp only [five, hc', Bool.and_false, Bool.false_and]] at h
        exact h
    · have hb' : (b == 0) = false := by simpa using hb
      rw [hb']
      simp only [Bool.not_false, if_true, sx_pure, sx_bind]
      rw [show five a b c d e = false from by simp only [five, hb', Bool.and_false, Bool.false_and]] at h
      exact h
  · have ha' : (a == 0) = false := by simpa using ha
    rw [ha']
    simp only [Bool.not_false, if_true, sx_pure, sx_bind]
    rw [show five a b c d e = false from by simp only [five, ha', Bool.and_false, Bool.false_and]] at h
    exact h
end
section
variable {mn : Who} {rd : Option Nat} {n : Nat} {Q : Exit → St → View → Prop} {ds : List Deferred} {ρ : Regs} {β : Boxes} {v : View} {K : St → View → Prop}
  {ops : Array Oper} {i : Nat} {l : List Oper} {d : Nat} {ty : TypeId} {pos : String} {af : Array Edge} {gu : Option (Nat × Bool)}
theorem five_zero {L : List Int} (hl : L.length = 5) : five (gat L 0) (gat L 1) (gat L 2) (gat L 3) (gat L 4) = zeroL L := by
  match L, hl with
  | [a, b, c, d, e], _ => simp [five, zeroL, gat, Bool.and_assoc]
theorem A_neqN {y z : Operand} {t2 : TypeId} {L : List Int} (hl : L.length = 5) (ho : ops[i]? = some ⟨some d, .binOp .neq 77 y z t2, ty, pos, af, gu⟩) (hw : wantG ops gu ρ = some true) (hn : Nat.blt d n = true) (hy : ρ.val y = some (netV L)) (hz : ρ.val z = some (.agg (List.toArray [intV 0, intV 0, intV 0, intV 0, intV 0])))
    (h : K ⟨ds, (d, .bool (!zeroL L)) :: ρ, β⟩ v) : XOp Try.prog mn rd n ops i Q K ⟨ds, ρ, β⟩ v := by
  refine xop_sem ho (wantG_B hw) (.inr rfl) hn fun ev hev hbk => ?_
  have hg : Try.prog.eqGuardType Try.prog.depth 77 = false := by kernel_rfl
  simp only [execOp, sx_bind, hev _ _ hy, hev _ _ hz, eqGuard, binOp, sx_program, hg]
  simp only [Bool.not_true, Bool.false_eq_true, if_false, sx_bind]
  rw [sx_program, sx_program, hg]
  simp only [Bool.not_true, Bool.not_false, Bool.false_eq_true, if_false, if_true, sx_pure, sx_bind]
  refine arr_eq ?_
  rw [five_zero hl]
  exact ⟨β, v, ⟨hbk, Le.refl _⟩, h⟩
end
end Go.Proofs.Ytbbaionoibkohaa
end
section
namespace Go.Pal
open Go Go.Conc View
class Abs (P : outParam Program) (mn : outParam Who) (R : View → Goroutine → Prop) : Prop where
  run : ∀ {v : View} {g : Goroutine}, Run P mn R v g → R v g
theorem Abs.le {P : Program} {mn : Who} {R : View → Goroutine → Prop} [A : Abs P mn R] {u v : View} {g : Goroutine} (h : R u g) (hl : u.Le v) : R v g := A.run (.stop hl h)
instance Abs.sil {P : Program} {mn : Who} {R : View → Goroutine → Prop} [A : Abs P mn R] {v : View} : Sil P mn.main (R v) := ⟨fun hs h r => A.run (Run.ctl hs h (.stop (Le.refl _) r))⟩
instance {P : Program} {mn : Who} {Stop : View → Goroutine → Prop} : Abs P mn (Run P mn Stop) := ⟨fun h => h.mono fun _ _ h => h⟩
end Go.Pal
end
section
namespace Go.Pal.Mu
open Go Go.Conc Go.Pal View
open Go.ConcN (sumTo upd sumTo_upd upd_ne upd_same sumTo_congr le_sumTo)
structure OnB (B : Nat) (o : Obj) (w w' : World) : Prop where
  tape : w'.tape = w.tape
  output : w'.output = w.output
  os : Go.ConcM.OsLater w.os w'.os
  size : w'.heap.size = w.heap.size
  here : w'.heap[B]? = some o
  else_ : ∀ b, b ≠ B → w'.heap[b]? = w.heap[b]?
theorem OnB.same {B : Nat} {o : Obj} {w : World} (h : w.heap[B]? = some o) : OnB B o w w := ⟨rfl, rfl, .refl _, rfl, h, fun _ _ => rfl⟩
theorem OnB.set {B off : Nat} {c : Array Value} {t : TypeId} {fr : Nat × Nat} {w : World} (v : Value) (h : w.heap[B]? = some (.cells c t fr)) : OnB B (.cells (c.setIfInBounds off v) t fr) w (w.setCell ⟨B, off, none⟩ v) := by
  refine ⟨rfl, rfl, .refl _, ?_, ?_, fun b hb => ?_⟩
  · simp [World.setCell]
  · simp only [World.setCell, Array.getElem?_modify, if_true, h]
    rfl
  · simp only [World.setCell, Array.getElem?_modify]
    rw [if_neg (Ne.symm hb)]
end Go.Pal.Mu
end
section
namespace Go.Pal
open Go Go.Conc View
section
variable {P : Program} {mn : Who} (T : Tab P) {rd : Option Nat} {n : Nat} {Q : Exit → St → View → Prop} {ds : List Deferred} {ρ : Regs} {β : Boxes} {v : View} {K : St → View → Prop}
  {ops : Array Oper} {i : Nat} {d : Nat} {ty : TypeId} {pos : String} {af : Array Edge} {gu : Option (Nat × Bool)}
theorem A_allocN {t : TypeId} {z : Value} (ho : ops[i]? = some ⟨some d, .alloc t, ty, pos, af, gu⟩) (hw : wantG ops gu ρ = some true) (hn : Nat.blt d n = true) (hz : T.zer t = some z)
    (h : ∀ b, K ⟨ds, (d, .pointer (some ⟨b, 0, none⟩)) :: ρ, (b, z.cells, t) :: β⟩ v) : XOp P mn rd n ops i Q K ⟨ds, ρ, β⟩ v := by
  refine xop_sem ho (wantG_B hw) (.inr rfl) hn fun ev hev hbk => ?_
  simp only [execOp, Instr.alloc, sx_bind, tx_zer T hz]
  refine sx_newVar fun b hb' => ?_
  obtain ⟨h1, h2⟩ := bok_cons (c := z.cells) (t := t) hbk hb'
  exact ⟨_, v, ⟨h1, h2⟩, h b⟩
theorem A_mk {op : Op} {x : Value} (ho : ops[i]? = some ⟨some d, op, ty, pos, af, gu⟩) (hw : wantG ops gu ρ = some true) (hn : Nat.blt d n = true) (hx : evalOp T ρ.val op = some x) (h : K ⟨ds, (d, x) :: ρ, β⟩ v) (hnd : isDefer op = false := by rfl) : XOp P mn rd n ops i Q K ⟨ds, ρ, β⟩ v := by
  refine xop_sem ho (wantG_B hw) (.inr hnd) hn fun ev hev hbk => ?_
  exact evalOp_sound T hev hx ⟨β, v, ⟨hbk, Le.refl _⟩, h⟩
end
section
variable {P : Program} {mn : Who} {R : View → Goroutine → Prop} [A : Abs P mn R] {v : View} {g : Goroutine} {β β' : Boxes}
include A in
theorem Abs.drop (hs : Subm β' β) (hb : Bok β v) (h : R (v.union (bview β')) g) : R (v.union (bview β)) g :=
  Abs.le h fun b x hx => by
    unfold View.union at hx ⊢
    cases hv : v b with
    | some y => rw [hv] at hx; exact hx
    | none => rw [hv] at hx; exact (bview_subm hs hb.nodup).2 b x hx
theorem row_same {v : View} {a : Option Addr} {xs : List Value} {n k : Nat} (h : RowAt v a xs) (hn : n ≠ 0 → xs ≠ []) : (if n = 0 then a else a.map (·.add (0 * k))) = a := by
  split
  · rfl
  · rename_i h0
    rcases h with h | ⟨b, off, p, c, e, f, rfl, _⟩
    · exact absurd h (hn h0)
    · rw [Option.map_some, add_none]; simp
theorem OwnS.cap {e : TypeId} {k : Nat} {seg : Boxes} {a : Option Addr} {len cap : Nat} {xs : List Value} (h : OwnS e k seg a len cap xs) : len ≤ cap := by
  cases h with
  | nil => exact Nat.le_refl _
  | box _ h _ _ => exact h
end
end Go.Pal
end
