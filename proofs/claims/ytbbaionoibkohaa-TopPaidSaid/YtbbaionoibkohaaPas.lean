/- Part 19 of the proof that stands in the last text. -/
import Derived.Test.YtbbaionoibkohaaPar
set_option linter.all false
section
namespace Go.Proofs.Ytbbaionoibkohaa
open Go Go.Pal Go.Pal.Db Go.Conc View
open Go.Proofs.Try
set_option maxHeartbeats 4000000
abbrev prsC (l : List Pr) : List Value := (l.map prC).flatten
abbrev stk : List PanicEntry := [{ v := .iface 125 (.agg #[]), recovered := false }]
abbrev capG (b5 bo b6 bg : Nat) : List Value := [.pointer (some ⟨b5, 0, none⟩), .pointer (some ⟨bo, 0, none⟩), .pointer (some ⟨b6, 0, none⟩), .pointer (some ⟨bg, 0, none⟩)]
structure CapG (v : View) (n b5 bo b6 bg : Nat) : Prop where
  o : ∃ p f ap cp ad nd cd, v bo = some (p, .cells (List.toArray [.slice ap n cp, .slice ad nd cd]) 73 f)
  g : ∃ p f, v bg = some (p, .cells (List.toArray [.func (.func 50) #[] (capG b5 bo b6 bg).toArray]) 129 f)
theorem CapG.le {u v : View} {n b5 bo b6 bg : Nat} (h : CapG u n b5 bo b6 bg) (hl : u.Le v) : CapG v n b5 bo b6 bg := by
  obtain ⟨⟨p, f, ap, cp, ad, nd, cd, h1⟩, ⟨p', f', h2⟩⟩ := h
  exact ⟨⟨p, f, ap, cp, ad, nd, cd, hl _ _ h1⟩, ⟨p', f', hl _ _ h2⟩⟩
def GrowR (n k : Nat) (l : List Pr) (left : List Int) (m b5 b6 : Nat) : Pal.End → Boxes → Prop
  | .ret r, β' => ok n k l left = true ∧ r = .tuple #[] ∧ ∃ left' outs' seg' a' c', left'.length = 5 ∧ outs'.length = m + k ∧ (∀ d ∈ outs', Dt.fit d) ∧ OwnS 42 3 seg' a' (m + k) c' (dtC outs') ∧ β' = (b5, netC left', 77) :: (b6, List.toArray [.slice a' (m + k) c'], 79) :: seg'
  | .pan ch, _ => ok n k l left = false ∧ ch = stk
section
variable {v : View}
theorem row_take {a : Option Addr} {xs : List Value} (h : RowAt v a xs) (m : Nat) : RowAt v a (xs.take m) := by
  rcases h with rfl | ⟨b, off, p, c, e, f, h1, h2, h3, h4⟩
  · exact .inl (by simp)
  · refine .inr ⟨b, off, p, c, e, f, h1, h2, ?_, fun i x hx => ?_⟩
    · rw [List.length_take]; omega
    · rw [List.getElem?_take] at hx
      split at hx
      · exact h4 _ _ hx
      · cases hx
theorem row_drop {b off : Nat} {xs : List Value} (h : RowAt v (some ⟨b, off, none⟩) xs) {m : Nat} (hm : m ≤ xs.length) : RowAt v (some ⟨b, off + m, none⟩) (xs.drop m) := by
  rcases h with rfl | ⟨b', off', p, c, e, f, h1, h2, h3, h4⟩
  · exact .inl (by simp)
  · cases h1
    refine .inr ⟨b, off + m, p, c, e, f, rfl, h2, ?_, fun i x hx => ?_⟩
    · rw [List.length_drop]; omega
    · rw [List.getElem?_drop] at hx
      rw [Nat.add_assoc]
      exact h4 _ _ hx
end
theorem prs_app (l : List Pr) (j : Nat) : prsC l = prsC (l.take j) ++ prsC (l.drop j) := by
  rw [← List.flatten_append, ← List.map_append, List.take_append_drop]
theorem prs_take {l : List Pr} {j : Nat} (hj : j ≤ l.length) : prsC (l.take j) = (prsC l).take (j * 2) := by
  rw [prs_app l j, List.take_left' (by rw [prs_len, List.length_take]; omega)]
theorem prs_drop {l : List Pr} {j : Nat} (hj : j ≤ l.length) : prsC (l.drop j) = (prsC l).drop (j * 2) := by
  rw [prs_app l j, List.drop_left' (by rw [prs_len, List.length_take]; omega)]
theorem prs_get {v : View} {al : Option Addr} {l : List Pr} (h : RowAt v al (prsC l)) (hl : 0 < l.length) :
    ∃ b off p c e f, al = some ⟨b, off, none⟩ ∧ v b = some (p, .cells c e f) ∧ ∀ j (hj : j < l.length), (off + j * 2 + 2 ≤ c.size ∧ c.extract (off + j * 2) (off + j * 2 + 2) = (prC l[j]).toArray) ∧ c[off + j * 2]? = some (natV l[j].1) ∧ c[off + j * 2 + 1]? = some (natV l[j].2) := by
  obtain ⟨b, off, p, c, e, f, h1, h2, h3⟩ := RowAt.recs (k := 2) h (by intro y hy; obtain ⟨z, _, rfl⟩ := List.mem_map.1 hy; rfl) (by omega) (i := 0) (by simpa using hl)
  refine ⟨b, off, p, c, e, f, h1, h2, fun j hj => ?_⟩
  have h4 := h3 j (by simpa using hj)
  simp only [List.getElem_map] at h4
  obtain ⟨h5, h6⟩ := h4
  refine ⟨⟨h5, h6⟩, ?_, ?_⟩
  · have := congrArg (fun a : Array Value => a[0]?) h6
    simp only [Array.getElem?_extract] at this
    rw [if_pos (by omega)] at this
    simpa [prC] using this
  · have := congrArg (fun a : Array Value => a[1]?) h6
    simp only [Array.getElem?_extract] at this
    rw [if_pos (by omega)] at this
    simpa [prC] using this
def sp19 (L : List Int) (df dt : Nat) (dm : Int) : Nat → List (Value × Boxes) → Value → Boxes → Prop
  | 2, _, y, β => y = netV L ∧ β = []
  | _, _, y, β => ∃ b c, y = .slice (some ⟨b, 0, none⟩) 1 1 ∧ β = [(b, c, 42)] ∧ OwnS 42 3 [(b, c, 42)] (some ⟨b, 0, none⟩) 1 1 [natV df, natV dt, intV dm]
def pre19 : Nat → List Nat := fun _ => []
def dst19 : Nat → Nat | 2 => 88 | 5 => 91 | _ => 0
def sp14 (xa xb p q : Nat) (m : Int) : Nat → List (Value × Boxes) → Value → Boxes → Prop
  | 13, _, y, β => ∃ b c, y = .slice (some ⟨b, 0, none⟩) 3 3 ∧ β = [(b, c, 3)] ∧ OwnS 3 1 [(b, c, 3)] (some ⟨b, 0, none⟩) 3 3 [natV xa, natV xb, intV (-(p : Int))]
  | 14, _, y, β => y = intV q ∧ β = []
  | 19, _, y, β => y = .agg (List.toArray [natV p, natV q, intV m]) ∧ β = []
  | _, _, y, β => ∃ b, y = .pointer (some ⟨b, 0, none⟩) ∧ β = [(b, List.toArray [intV 0, intV 0, intV 0], 42)]
def pre14 : Nat → List Nat | 14 => [13] | 19 => [14] | _ => []
def dst14 : Nat → Nat | 13 => 63 | 14 => 64 | 19 => 69 | 20 => 11 | _ => 0
section
variable {mn : Who}
theorem grow_x {n b5 bo b6 bg : Nat} (hn : n ≤ 4) : ∀ (k : Nat) (l : List Pr) (left : List Int) (outs : List Dt) (B : Int) (v : View) (al : Option Addr) (cl : Nat) (seg : Boxes) (ao : Option Addr) (co : Nat),
    l.length = k → (∀ x ∈ l, x.1 < x.2 ∧ x.2 < n) → left.length = 5 → Sm B left → 0 ≤ B → B * 4 ^ k ≤ 2 ^ 40 → outs.length + k ≤ 8 → (∀ d ∈ outs, Dt.fit d) → l.length ≤ cl → RowAt v al (prsC l) → CapG v n b5 bo b6 bg → OwnS 42 3 seg ao outs.length co (dtC outs) →
    CallsB Try.prog mn 50 (List.toArray (.slice al l.length cl :: capG b5 bo b6 bg)) (GrowR n k l left outs.length b5 b6) ((b5, netC left, 77) :: (b6, List.toArray [.slice ao outs.length co], 79) :: seg) v := by
  intro k
  induction k with
  | zero =>
    intro l left outs B v al cl seg ao co hl hpr hll hsm hB0 hB hok hfit hcl hrow hcap hown
    obtain rfl := List.length_eq_zero_iff.1 hl
    refine callsB_fn tab func50 rfl (Nat.le_of_ble_eq_true rfl) (args := [_, _, _, _, _]) ?_
    repeat' (first | refine cs ?_ | refine ss ?_ | (((with_reducible apply Q_box); (focus (exact rfl)); (focus (exact rfl)); (focus (exact rfl))); intro bx) | (((with_reducible apply Q_alloc tab); (focus (exact rfl)); (focus (exact rfl)); (focus (exact rfl))); intro bx) | refine S_do (by kernel_rfl) (A_storeN tab rfl rfl rfl rfl rfl rfl rfl (by ((repeat (first | exact InB.head | apply InB.tail | (with_reducible apply InB.app))); done)) (by exact rfl) (by ((repeat (first | exact SetB.head | apply SetB.tail | (with_reducible apply SetB.app))); done)) ⟨Le.refl _, (by (repeat (first | exact trivial | (apply And.intro; (focus (first | (apply Or.inr; (try dsimp only); ((repeat (first | exact InB.head | apply InB.tail | (with_reducible apply InB.app))); done)) | (apply Or.inl; kernel_rfl))))))), ?_⟩))
    refine Q_op fun ho => A_neqN (L := left) hll ho rfl rfl rfl rfl ?_
    clear ho
    repeat' (first | refine cs ?_ | refine ss ?_ | (((with_reducible apply Q_box); (focus (exact rfl)); (focus (exact rfl)); (focus (exact rfl))); intro bx) | (((with_reducible apply Q_alloc tab); (focus (exact rfl)); (focus (exact rfl)); (focus (exact rfl))); intro bx) | refine S_do (by kernel_rfl) (A_storeN tab rfl rfl rfl rfl rfl rfl rfl (by ((repeat (first | exact InB.head | apply InB.tail | (with_reducible apply InB.app))); done)) (by exact rfl) (by ((repeat (first | exact SetB.head | apply SetB.tail | (with_reducible apply SetB.app))); done)) ⟨Le.refl _, (by (repeat (first | exact trivial | (apply And.intro; (focus (first | (apply Or.inr; (try dsimp only); ((repeat (first | exact InB.head | apply InB.tail | (with_reducible apply InB.app))); done)) | (apply Or.inl; kernel_rfl))))))), ?_⟩))
    cases hz : zeroL left with
    | true =>
      repeat' (first | refine cs ?_ | refine ss ?_ | (((with_reducible apply Q_box); (focus (exact rfl)); (focus (exact rfl)); (focus (exact rfl))); intro bx) | (((with_reducible apply Q_alloc tab); (focus (exact rfl)); (focus (exact rfl)); (focus (exact rfl))); intro bx) | refine S_do (by kernel_rfl) (A_storeN tab rfl rfl rfl rfl rfl rfl rfl (by ((repeat (first | exact InB.head | apply InB.tail | (with_reducible apply InB.app))); done)) (by exact rfl) (by ((repeat (first | exact SetB.head | apply SetB.tail | (with_reducible apply SetB.app))); done)) ⟨Le.refl _, (by (repeat (first | exact trivial | (apply And.intro; (focus (first | (apply Or.inr; (try dsimp only); ((repeat (first | exact InB.head | apply InB.tail | (with_reducible apply InB.app))); done)) | (apply Or.inl; kernel_rfl))))))), ?_⟩))
      refine Fn_ret tab _ .nil (Back.here fun _ => Nat.le_refl _) ?_
      exact ⟨hz, rfl, left, outs, seg, ao, co, hll, rfl, hfit, hown, rfl⟩
    | false =>
      repeat' (first | refine cs ?_ | refine ss ?_ | (((with_reducible apply Q_box); (focus (exact rfl)); (focus (exact rfl)); (focus (exact rfl))); intro bx) | (((with_reducible apply Q_alloc tab); (focus (exact rfl)); (focus (exact rfl)); (focus (exact rfl))); intro bx) | refine S_do (by kernel_rfl) (A_storeN tab rfl rfl rfl rfl rfl rfl rfl (by ((repeat (first | exact InB.head | apply InB.tail | (with_reducible apply InB.app))); done)) (by exact rfl) (by ((repeat (first | exact SetB.head | apply SetB.tail | (with_reducible apply SetB.app))); done)) ⟨Le.refl _, (by (repeat (first | exact trivial | (apply And.intro; (focus (first | (apply Or.inr; (try dsimp only); ((repeat (first | exact InB.head | apply InB.tail | (with_reducible apply InB.app))); done)) | (apply Or.inl; kernel_rfl))))))), ?_⟩))
      refine Q_op fun ho => A_panic ho rfl rfl (pn ?_)
      refine Fn_panic tab [] (Back.here fun p => Nat.zero_le _) ?_
      exact ⟨hz, rfl⟩
  | succ k ih =>
    intro l left outs B v al cl seg ao co hl hpr hll hsm hB0 hB hok hfit hcl hrow hcap hown
    obtain ⟨bl, offl, pl, c, e, f, rfl, hvl, hcl'⟩ := prs_get hrow (by omega)
    obtain ⟨⟨po, fo, ap, cp, ad, nd, cd, hvo⟩, ⟨pg, fg, hvg⟩⟩ := hcap
    refine callsB_fn tab func50 rfl (Nat.le_of_ble_eq_true rfl) (args := [_, _, _, _, _]) ?_
    repeat' (first | refine cs ?_ | refine ss ?_ | (((with_reducible apply Q_box); (focus (exact rfl)); (focus (exact rfl)); (focus (exact rfl))); intro bx) | (((with_reducible apply Q_alloc tab); (focus (exact rfl)); (focus (exact rfl)); (focus (exact rfl))); intro bx) | refine S_do (by kernel_rfl) (A_storeN tab rfl rfl rfl rfl rfl rfl rfl (by ((repeat (first | exact InB.head | apply InB.tail | (with_reducible apply InB.app))); done)) (by exact rfl) (by ((repeat (first | exact SetB.head | apply SetB.tail | (with_reducible apply SetB.app))); done)) ⟨Le.refl _, (by (repeat (first | exact trivial | (apply And.intro; (focus (first | (apply Or.inr; (try dsimp only); ((repeat (first | exact InB.head | apply InB.tail | (with_reducible apply InB.app))); done)) | (apply Or.inl; kernel_rfl))))))), ?_⟩))
    rw [show ((l.length : Int) == 0) = false from beq_eq_false_iff_ne.2 (by omega)]
    repeat' (first | refine cs ?_ | refine ss ?_ | (((with_reducible apply Q_box); (focus (exact rfl)); (focus (exact rfl)); (focus (exact rfl))); intro bx) | (((with_reducible apply Q_alloc tab); (focus (exact rfl)); (focus (exact rfl)); (focus (exact rfl))); intro bx) | refine S_do (by kernel_rfl) (A_storeN tab rfl rfl rfl rfl rfl rfl rfl (by ((repeat (first | exact InB.head | apply InB.tail | (with_reducible apply InB.app))); done)) (by exact rfl) (by ((repeat (first | exact SetB.head | apply SetB.tail | (with_reducible apply SetB.app))); done)) ⟨Le.refl _, (by (repeat (first | exact trivial | (apply And.intro; (focus (first | (apply Or.inr; (try dsimp only); ((repeat (first | exact InB.head | apply InB.tail | (with_reducible apply InB.app))); done)) | (apply Or.inl; kernel_rfl))))))), ?_⟩))
    refine Q_load tab rfl rfl rfl hvo (readB_one tab rfl rfl rfl rfl) ?_
    repeat' (first | refine cs ?_ | refine ss ?_ | (((with_reducible apply Q_box); (focus (exact rfl)); (focus (exact rfl)); (focus (exact rfl))); intro bx) | (((with_reducible apply Q_alloc tab); (focus (exact rfl)); (focus (exact rfl)); (focus (exact rfl))); intro bx) | refine S_do (by kernel_rfl) (A_storeN tab rfl rfl rfl rfl rfl rfl rfl (by ((repeat (first | exact InB.head | apply InB.tail | (with_reducible apply InB.app))); done)) (by exact rfl) (by ((repeat (first | exact SetB.head | apply SetB.tail | (with_reducible apply SetB.app))); done)) ⟨Le.refl _, (by (repeat (first | exact trivial | (apply And.intro; (focus (first | (apply Or.inr; (try dsimp only); ((repeat (first | exact InB.head | apply InB.tail | (with_reducible apply InB.app))); done)) | (apply Or.inl; kernel_rfl))))))), ?_⟩))
    refine C_loop (α := Nat) (fun p => ⟨[], [(24, .int .i64 p), (23, .int .i64 n), (0, .slice (some ⟨bl, offl, none⟩) l.length cl), (1, .pointer (some ⟨b5, 0, none⟩)), (2, .pointer (some ⟨bo, 0, none⟩)), (3, .pointer (some ⟨b6, 0, none⟩)), (4, .pointer (some ⟨bg, 0, none⟩))], (b5, netC left, 77) :: (b6, List.toArray [.slice ao outs.length co], 79) :: seg⟩)
      (fun p w => w = v ∧ p ≤ n ∧ leafIn l (List.range n) = leafIn l (List.range' p (n - p))) (fun p => n - p) 0 ⟨rfl, (by (repeat (first | exact trivial | refine ⟨rfl, ?_⟩))), cntL⟩ (Le.refl _) ⟨rfl, Nat.zero_le _, by rw [List.range_eq_range', Nat.sub_zero]⟩ ?_
    rintro p w ⟨rfl, hp, hleaf⟩
    repeat' (first | refine cs ?_ | refine ss ?_ | (((with_reducible apply Q_box); (focus (exact rfl)); (focus (exact rfl)); (focus (exact rfl))); intro bx) | (((with_reducible apply Q_alloc tab); (focus (exact rfl)); (focus (exact rfl)); (focus (exact rfl))); intro bx) | refine S_do (by kernel_rfl) (A_storeN tab rfl rfl rfl rfl rfl rfl rfl (by ((repeat (first | exact InB.head | apply InB.tail | (with_reducible apply InB.app))); done)) (by exact rfl) (by ((repeat (first | exact SetB.head | apply SetB.tail | (with_reducible apply SetB.app))); done)) ⟨Le.refl _, (by (repeat (first | exact trivial | (apply And.intro; (focus (first | (apply Or.inr; (try dsimp only); ((repeat (first | exact InB.head | apply InB.tail | (with_reducible apply InB.app))); done)) | (apply Or.inl; kernel_rfl))))))), ?_⟩))
    refine XC_cond rfl (fun h => ?_) (fun h => ?_)
    · (simp only [decide_eq_true_eq, decide_eq_false_iff_not, beq_iff_eq, bne_iff_ne, Bool.not_eq_true', beq_eq_false_iff_ne, bne_eq_false_iff_eq, ne_eq] at h)
      have hpn : p < n := by omega
      clear h
      have hrg : List.range' p (n - p) = p :: List.range' (p + 1) (n - (p + 1)) := by
        rw [show n - p = (n - (p + 1)) + 1 by omega, List.range'_succ]
      repeat' (first | refine cs ?_ | refine ss ?_ | (((with_reducible apply Q_box); (focus (exact rfl)); (focus (exact rfl)); (focus (exact rfl))); intro bx) | (((with_reducible apply Q_alloc tab); (focus (exact rfl)); (focus (exact rfl)); (focus (exact rfl))); intro bx) | refine S_do (by kernel_rfl) (A_storeN tab rfl rfl rfl rfl rfl rfl rfl (by ((repeat (first | exact InB.head | apply InB.tail | (with_reducible apply InB.app))); done)) (by exact rfl) (by ((repeat (first | exact SetB.head | apply SetB.tail | (with_reducible apply SetB.app))); done)) ⟨Le.refl _, (by (repeat (first | exact trivial | (apply And.intro; (focus (first | (apply Or.inr; (try dsimp only); ((repeat (first | exact InB.head | apply InB.tail | (with_reducible apply InB.app))); done)) | (apply Or.inl; kernel_rfl))))))), ?_⟩))
      refine C_loop (α := Nat) (fun i => ⟨[], [(29, .int .i64 i), (28, .int .i64 l.length), (27, .slice (some ⟨bl, offl, none⟩) l.length cl), (6, .int .i64 p), (7, .int .i64 (scanL p (l.take i)).1), (8, .int .i64 (scanL p (l.take i)).2), (24, .int .i64 p), (23, .int .i64 n), (0, .slice (some ⟨bl, offl, none⟩) l.length cl), (1, .pointer (some ⟨b5, 0, none⟩)), (2, .pointer (some ⟨bo, 0, none⟩)), (3, .pointer (some ⟨b6, 0, none⟩)), (4, .pointer (some ⟨bg, 0, none⟩))], (b5, netC left, 77) :: (b6, List.toArray [.slice ao outs.length co], 79) :: seg⟩)
        (fun i u => u = w ∧ i ≤ l.length) (fun i => l.length - i) 0 ⟨rfl, (by (repeat (first | exact trivial | refine ⟨rfl, ?_⟩))), cntL⟩ (Le.refl _) ⟨rfl, Nat.zero_le _⟩ ?_
      rintro i u ⟨rfl, hi⟩
      repeat' (first | refine cs ?_ | refine ss ?_ | (((with_reducible apply Q_box); (focus (exact rfl)); (focus (exact rfl)); (focus (exact rfl))); intro bx) | (((with_reducible apply Q_alloc tab); (focus (exact rfl)); (focus (exact rfl)); (focus (exact rfl))); intro bx) | refine S_do (by kernel_rfl) (A_storeN tab rfl rfl rfl rfl rfl rfl rfl (by ((repeat (first | exact InB.head | apply InB.tail | (with_reducible apply InB.app))); done)) (by exact rfl) (by ((repeat (first | exact SetB.head | apply SetB.tail | (with_reducible apply SetB.app))); done)) ⟨Le.refl _, (by (repeat (first | exact trivial | (apply And.intro; (focus (first | (apply Or.inr; (try dsimp only); ((repeat (first | exact InB.head | apply InB.tail | (with_reducible apply InB.app))); done)) | (apply Or.inl; kernel_rfl))))))), ?_⟩))
      refine XC_cond rfl (fun h => ?_) (fun h => ?_)
      · (simp only [decide_eq_true_eq, decide_eq_false_iff_not, beq_iff_eq, bne_iff_ne, Bool.not_eq_true', beq_eq_false_iff_ne, bne_eq_false_iff_eq, ne_eq] at h)
        have hlt : i < l.length := by omega
        clear h
        have htk := scanL_take p hlt
        have hle := scan_cnt p (l.take i) 0 (0, 0)
        repeat' (first | refine cs ?_ | refine ss ?_ | (((with_reducible apply Q_box); (focus (exact rfl)); (focus (exact rfl)); (focus (exact rfl))); intro bx) | (((with_reducible apply Q_alloc tab); (focus (exact rfl)); (focus (exact rfl)); (focus (exact rfl))); intro bx) | refine S_do (by kernel_rfl) (A_storeN tab rfl rfl rfl rfl rfl rfl rfl (by ((repeat (first | exact InB.head | apply InB.tail | (with_reducible apply InB.app))); done)) (by exact rfl) (by ((repeat (first | exact SetB.head | apply SetB.tail | (with_reducible apply SetB.app))); done)) ⟨Le.refl _, (by (repeat (first | exact trivial | (apply And.intro; (focus (first | (apply Or.inr; (try dsimp only); ((repeat (first | exact InB.head | apply InB.tail | (with_reducible apply InB.app))); done)) | (apply Or.inl; kernel_rfl))))))), ?_⟩))
        refine Q_elem tab i rfl rfl rfl rfl rfl rfl rfl hlt ?_
        refine Q_load tab rfl rfl rfl hvl (readB_rec tab (x := [natV l[i].1, natV l[i].2]) rfl rfl rfl (hcl' i hlt).1) ?_
        have hb1 : (scanL p (l.take i)).2 ≤ i := by
          unfold scanL
          rw [hle]
          have := List.length_filter_le (touch p) (l.take i)
          rw [List.length_take] at this
          omega
        repeat' (first | refine cs ?_ | refine ss ?_ | (((with_reducible apply Q_box); (focus (exact rfl)); (focus (exact rfl)); (focus (exact rfl))); intro bx) | (((with_reducible apply Q_alloc tab); (focus (exact rfl)); (focus (exact rfl)); (focus (exact rfl))); intro bx) | refine S_do (by kernel_rfl) (A_storeN tab rfl rfl rfl rfl rfl rfl rfl (by ((repeat (first | exact InB.head | apply InB.tail | (with_reducible apply InB.app))); done)) (by exact rfl) (by ((repeat (first | exact SetB.head | apply SetB.tail | (with_reducible apply SetB.app))); done)) ⟨Le.refl _, (by (repeat (first | exact trivial | (apply And.intro; (focus (first | (apply Or.inr; (try dsimp only); ((repeat (first | exact InB.head | apply InB.tail | (with_reducible apply InB.app))); done)) | (apply Or.inl; kernel_rfl))))))), ?_⟩))
        by_cases h1 : l[i].1 = p
        · rw [show ((l[i].1 : Int) == p) = true from beq_iff_eq.2 (by omega)]
          have htk' : scanL p (l.take (i + 1)) = (i, (scanL p (l.take i)).2 + 1) := by rw [htk, if_pos (by simp [touch, h1])]
          repeat' (first | refine cs ?_ | refine ss ?_ | (((with_reducible apply Q_box); (focus (exact rfl)); (focus (exact rfl)); (focus (exact rfl))); intro bx) | (((with_reducible apply Q_alloc tab); (focus (exact rfl)); (focus (exact rfl)); (focus (exact rfl))); intro bx) | refine S_do (by kernel_rfl) (A_storeN tab rfl rfl rfl rfl rfl rfl rfl (by ((repeat (first | exact InB.head | apply InB.tail | (with_reducible apply InB.app))); done)) (by exact rfl) (by ((repeat (first | exact SetB.head | apply SetB.tail | (with_reducible apply SetB.app))); done)) ⟨Le.refl _, (by (repeat (first | exact trivial | (apply And.intro; (focus (first | (apply Or.inr; (try dsimp only); ((repeat (first | exact InB.head | apply InB.tail | (with_reducible apply InB.app))); done)) | (apply Or.inl; kernel_rfl))))))), ?_⟩))
          exact Loop_normal ⟨i + 1, u, by omega, ⟨rfl, (by rw [htk']; (repeat (first | exact trivial | refine ⟨rfl, ?_⟩))), cntL⟩, Le.refl _, rfl, hlt⟩
        · rw [show ((l[i].1 : Int) == p) = false from beq_eq_false_iff_ne.2 (by omega)]
          repeat' (first | refine cs ?_ | refine ss ?_ | (((with_reducible apply Q_box); (focus (exact rfl)); (focus (exact rfl)); (focus (exact rfl))); intro bx) | (((with_reducible apply Q_alloc tab); (focus (exact rfl)); (focus (exact rfl)); (focus (exact rfl))); intro bx) | refine S_do (by kernel_rfl) (A_storeN tab rfl rfl rfl rfl rfl rfl rfl (by ((repeat (first | exact InB.head | apply InB.tail | (with_reducible apply InB.app))); done)) (by exact rfl) (by ((repeat (first | exact SetB.head | apply SetB.tail | (with_reducible apply SetB.app))); done)) ⟨Le.refl _, (by (repeat (first | exact trivial | (apply And.intro; (focus (first | (apply Or.inr; (try dsimp only); ((repeat (first | exact InB.head | apply InB.tail | (with_reducible apply InB.app))); done)) | (apply Or.inl; kernel_rfl))))))), ?_⟩))
          by_cases h2 : l[i].2 = p
          · rw [show ((l[i].2 : Int) == p) = true from beq_iff_eq.2 (by omega)]
            have htk' : scanL p (l.take (i + 1)) = (i, (scanL p (l.take i)).2 + 1) := by rw [htk, if_pos (by simp [touch, h2])]
            repeat' (first | refine cs ?_ | refine ss ?_ | (((with_reducible apply Q_box); (focus (exact rfl)); (focus (exact rfl)); (focus (exact rfl))); intro bx) | (((with_reducible apply Q_alloc tab); (focus (exact rfl)); (focus (exact rfl)); (focus (exact rfl))); intro bx) | refine S_do (by kernel_rfl) (A_storeN tab rfl rfl rfl rfl rfl rfl rfl (by ((repeat (first | exact InB.head | apply InB.tail | (with_reducible apply InB.app))); done)) (by exact rfl) (by ((repeat (first | exact SetB.head | apply SetB.tail | (with_reducible apply SetB.app))); done)) ⟨Le.refl _, (by (repeat (first | exact trivial | (apply And.intro; (focus (first | (apply Or.inr; (try dsimp only); ((repeat (first | exact InB.head | apply InB.tail | (with_reducible apply InB.app))); done)) | (apply Or.inl; kernel_rfl))))))), ?_⟩))
            exact Loop_normal ⟨i + 1, u, by omega, ⟨rfl, (by rw [htk']; (repeat (first | exact trivial | refine ⟨rfl, ?_⟩))), cntL⟩, Le.refl _, rfl, hlt⟩
          · rw [show ((l[i].2 : Int) == p) = false from beq_eq_false_iff_ne.2 (by omega)]
            have htk' : scanL p (l.take (i + 1)) = scanL p (l.take i) := by rw [htk, if_neg (by simp [touch, h1, h2])]
            repeat' (first | refine cs ?_ | refine ss ?_ | (((with_reducible apply Q_box); (focus (exact rfl)); (focus (exact rfl)); (focus (exact rfl))); intro bx) | (((with_reducible apply Q_alloc tab); (focus (exact rfl)); (focus (exact rfl)); (focus (exact rfl))); intro bx) | refine S_do (by kernel_rfl) (A_storeN tab rfl rfl rfl rfl rfl rfl rfl (by ((repeat (first | exact InB.head | apply InB.tail | (with_reducible apply InB.app))); done)) (by exact rfl) (by ((repeat (first | exact SetB.head | apply SetB.tail | (with_reducible apply SetB.app))); done)) ⟨Le.refl _, (by (repeat (first | exact trivial | (apply And.intro; (focus (first | (apply Or.inr; (try dsimp only); ((repeat (first | exact InB.head | apply InB.tail | (with_reducible apply InB.app))); done)) | (apply Or.inl; kernel_rfl))))))), ?_⟩))
            exact Loop_normal ⟨i + 1, u, by omega, ⟨rfl, (by rw [htk']; (repeat (first | exact trivial | refine ⟨rfl, ?_⟩))), cntL⟩, Le.refl _, rfl, hlt⟩
      · (simp only [decide_eq_true_eq, decide_eq_false_iff_not, beq_iff_eq, bne_iff_ne, Bool.not_eq_true', beq_eq_false_iff_ne, bne_eq_false_iff_eq, ne_eq] at h)
        have hil : i = l.length := by omega
        subst hil
        rw [List.take_length]
        repeat' (first | refine cs ?_ | refine ss ?_ | (((with_reducible apply Q_box); (focus (exact rfl)); (focus (exact rfl)); (focus (exact rfl))); intro bx) | (((with_reducible apply Q_alloc tab); (focus (exact rfl)); (focus (exact rfl)); (focus (exact rfl))); intro bx) | refine S_do (by kernel_rfl) (A_storeN tab rfl rfl rfl rfl rfl rfl rfl (by ((repeat (first | exact InB.head | apply InB.tail | (with_reducible apply InB.app))); done)) (by exact rfl) (by ((repeat (first | exact SetB.head | apply SetB.tail | (with_reducible apply SetB.app))); done)) ⟨Le.refl _, (by (repeat (first | exact trivial | (apply And.intro; (focus (first | (apply Or.inr; (try dsimp only); ((repeat (first | exact InB.head | apply InB.tail | (with_reducible apply InB.app))); done)) | (apply Or.inl; kernel_rfl))))))), ?_⟩))
        by_cases hone : (scanL p l).2 = 1
        · rw [show (((scanL p l).2 : Int) != 1) = false from bne_eq_false_iff_eq.2 (by omega)]
          have hleaf2 : leafIn l (List.range n) = some (p, (scanL p l).1) := by rw [hleaf, hrg]; unfold leafIn; rw [if_pos hone]
          obtain ⟨hj, ht⟩ := scanL_one hone
          generalize (scanL p l).1 = j at *
          have hokj : ok n (k + 1) l left = (if -gat left p = 0 then false else ok n k (l.eraseIdx j) (paid left p (l[j].1 + l[j].2 - p) (-gat left p))) := by
            have hx : l.getD j (0, 0) = l[j] := by rw [List.getD_eq_getElem?_getD, List.getElem?_eq_getElem hj]; rfl
            conv => { lhs; unfold ok }
            rw [hleaf2]
            simp only [hx]
          have hab := hpr l[j] (List.getElem_mem hj)
          obtain ⟨hrec, ha, hb⟩ := hcl' j hj
          have htp : l[j].1 = p ∨ l[j].2 = p := by simpa [touch] using ht
          generalize hxa : l[j].1 = xa at *
          generalize hxb : l[j].2 = xb at *
          repeat' (first | refine cs ?_ | refine ss ?_ | (((with_reducible apply Q_box); (focus (exact rfl)); (focus (exact rfl)); (focus (exact rfl))); intro bx) | (((with_reducible apply Q_alloc tab); (focus (exact rfl)); (focus (exact rfl)); (focus (exact rfl))); intro bx) | refine S_do (by kernel_rfl) (A_storeN tab rfl rfl rfl rfl rfl rfl rfl (by ((repeat (first | exact InB.head | apply InB.tail | (with_reducible apply InB.app))); done)) (by exact rfl) (by ((repeat (first | exact SetB.head | apply SetB.tail | (with_reducible apply SetB.app))); done)) ⟨Le.refl _, (by (repeat (first | exact trivial | (apply And.intro; (focus (first | (apply Or.inr; (try dsimp only); ((repeat (first | exact InB.head | apply InB.tail | (with_reducible apply InB.app))); done)) | (apply Or.inl; kernel_rfl))))))), ?_⟩))
          refine C_draw [13, 14, 19, 20, 21] [0, 1, 2, 3, 4, 5, 6, 7, 8, 9, 10, 11, 12, 15, 16, 17, 18, 13, 14, 19, 20, 21] mixed rfl (by kernel_rfl) ?_
          repeat' (first | refine cs ?_ | refine ss ?_ | (((with_reducible apply Q_box); (focus (exact rfl)); (focus (exact rfl)); (focus (exact rfl))); intro bx) | (((with_reducible apply Q_alloc tab); (focus (exact rfl)); (focus (exact rfl)); (focus (exact rfl))); intro bx) | refine S_do (by kernel_rfl) (A_storeN tab rfl rfl rfl rfl rfl rfl rfl (by ((repeat (first | exact InB.head | apply InB.tail | (with_reducible apply InB.app))); done)) (by exact rfl) (by ((repeat (first | exact SetB.head | apply SetB.tail | (with_reducible apply SetB.app))); done)) ⟨Le.refl _, (by (repeat (first | exact trivial | (apply And.intro; (focus (first | (apply Or.inr; (try dsimp only); ((repeat (first | exact InB.head | apply InB.tail | (with_reducible apply InB.app))); done)) | (apply Or.inl; kernel_rfl))))))), ?_⟩))
          refine S_elem tab j rfl rfl rfl (by kernel_rfl) rfl rfl rfl rfl rfl hj ?_
          repeat' (first | refine cs ?_ | refine ss ?_ | (((with_reducible apply Q_box); (focus (exact rfl)); (focus (exact rfl)); (focus (exact rfl))); intro bx) | (((with_reducible apply Q_alloc tab); (focus (exact rfl)); (focus (exact rfl)); (focus (exact rfl))); intro bx) | refine S_do (by kernel_rfl) (A_storeN tab rfl rfl rfl rfl rfl rfl rfl (by ((repeat (first | exact InB.head | apply InB.tail | (with_reducible apply InB.app))); done)) (by exact rfl) (by ((repeat (first | exact SetB.head | apply SetB.tail | (with_reducible apply SetB.app))); done)) ⟨Le.refl _, (by (repeat (first | exact trivial | (apply And.intro; (focus (first | (apply Or.inr; (try dsimp only); ((repeat (first | exact InB.head | apply InB.tail | (with_reducible apply InB.app))); done)) | (apply Or.inl; kernel_rfl))))))), ?_⟩))
          refine S_load tab rfl rfl rfl (by kernel_rfl) rfl hvl (readB_one tab rfl rfl rfl ha) ?_
          repeat' (first | refine cs ?_ | refine ss ?_ | (((with_reducible apply Q_box); (focus (exact rfl)); (focus (exact rfl)); (focus (exact rfl))); intro bx) | (((with_reducible apply Q_alloc tab); (focus (exact rfl)); (focus (exact rfl)); (focus (exact rfl))); intro bx) | refine S_do (by kernel_rfl) (A_storeN tab rfl rfl rfl rfl rfl rfl rfl (by ((repeat (first | exact InB.head | apply InB.tail | (with_reducible apply InB.app))); done)) (by exact rfl) (by ((repeat (first | exact SetB.head | apply SetB.tail | (with_reducible apply SetB.app))); done)) ⟨Le.refl _, (by (repeat (first | exact trivial | (apply And.intro; (focus (first | (apply Or.inr; (try dsimp only); ((repeat (first | exact InB.head | apply InB.tail | (with_reducible apply InB.app))); done)) | (apply Or.inl; kernel_rfl))))))), ?_⟩))
          refine S_elem tab j rfl rfl rfl (by kernel_rfl) rfl rfl rfl rfl rfl hj ?_
          repeat' (first | refine cs ?_ | refine ss ?_ | (((with_reducible apply Q_box); (focus (exact rfl)); (focus (exact rfl)); (focus (exact rfl))); intro bx) | (((with_reducible apply Q_alloc tab); (focus (exact rfl)); (focus (exact rfl)); (focus (exact rfl))); intro bx) | refine S_do (by kernel_rfl) (A_storeN tab rfl rfl rfl rfl rfl rfl rfl (by ((repeat (first | exact InB.head | apply InB.tail | (with_reducible apply InB.app))); done)) (by exact rfl) (by ((repeat (first | exact SetB.head | apply SetB.tail | (with_reducible apply SetB.app))); done)) ⟨Le.refl _, (by (repeat (first | exact trivial | (apply And.intro; (focus (first | (apply Or.inr; (try dsimp only); ((repeat (first | exact InB.head | apply InB.tail | (with_reducible apply InB.app))); done)) | (apply Or.inl; kernel_rfl))))))), ?_⟩))
          refine S_load tab rfl rfl rfl (by kernel_rfl) rfl hvl (readB_one tab rfl rfl rfl hb) ?_
          repeat' (first | refine cs ?_ | refine ss ?_ | (((with_reducible apply Q_box); (focus (exact rfl)); (focus (exact rfl)); (focus (exact rfl))); intro bx) | (((with_reducible apply Q_alloc tab); (focus (exact rfl)); (focus (exact rfl)); (focus (exact rfl))); intro bx) | refine S_do (by kernel_rfl) (A_storeN tab rfl rfl rfl rfl rfl rfl rfl (by ((repeat (first | exact InB.head | apply InB.tail | (with_reducible apply InB.app))); done)) (by exact rfl) (by ((repeat (first | exact SetB.head | apply SetB.tail | (with_reducible apply SetB.app))); done)) ⟨Le.refl _, (by (repeat (first | exact trivial | (apply And.intro; (focus (first | (apply Or.inr; (try dsimp only); ((repeat (first | exact InB.head | apply InB.tail | (with_reducible apply InB.app))); done)) | (apply Or.inl; kernel_rfl))))))), ?_⟩))
          refine S_elemA tab p rfl rfl rfl (by kernel_rfl) rfl rfl rfl rfl rfl (by omega) ?_
          refine S_loadB tab rfl rfl rfl (by kernel_rfl) rfl (by ((repeat (first | exact InB.head | apply InB.tail | (with_reducible apply InB.app))); done)) (readB_one tab rfl rfl rfl (netC_get left (by omega))) ?_
          repeat' (first | refine cs ?_ | refine ss ?_ | (((with_reducible apply Q_box); (focus (exact rfl)); (focus (exact rfl)); (focus (exact rfl))); intro bx) | (((with_reducible apply Q_alloc tab); (focus (exact rfl)); (focus (exact rfl)); (focus (exact rfl))); intro bx) | refine S_do (by kernel_rfl) (A_storeN tab rfl rfl rfl rfl rfl rfl rfl (by ((repeat (first | exact InB.head | apply InB.tail | (with_reducible apply InB.app))); done)) (by exact rfl) (by ((repeat (first | exact SetB.head | apply SetB.tail | (with_reducible apply SetB.app))); done)) ⟨Le.refl _, (by (repeat (first | exact trivial | (apply And.intro; (focus (first | (apply Or.inr; (try dsimp only); ((repeat (first | exact InB.head | apply InB.tail | (with_reducible apply InB.app))); done)) | (apply Or.inl; kernel_rfl))))))), ?_⟩))
          have hsp := hsm p
          have hBs : B ≤ 2 ^ 40 := by
            have : (1 : Int) ≤ 4 ^ (k + 1) := by exact_mod_cast Nat.one_le_pow _ _ (by decide)
            have h2 := Int.mul_le_mul_of_nonneg_left this hB0
            omega
          have e1 : IntKind.i64.wrap (0 - (p : Int)) = -(p : Int) := by rw [wrap64 (by omega) (by omega)]; omega
          have e2 : IntKind.i64.wrap (0 - gat left p) = -gat left p := by rw [wrap64 (by omega) (by omega)]; omega
          rw [e1, e2]
          obtain ⟨q, hq⟩ : ∃ q, q = xa + xb - p := ⟨_, rfl⟩
          rw [← hq] at hokj
          have e3 : (xa : Int) + xb + -(p : Int) = (q : Int) := by omega
          have hqn : q < n ∧ q ≠ p := by omega
          generalize hm : -gat left p = m at *
          refine S_net (Sp := sp14 xa xb p q m) (pre := pre14) [13, 14, 19, 20] dst14 (by decide) (by decide) (fun i hi => ?_) (by decide) (fun i hi => ?_) (by repeat (first | exact trivial | (refine ⟨?_, ?_⟩; focus ((repeat (first | exact InB.head | apply InB.tail | (with_reducible apply InB.app))); done)))) (by kernel_rfl) (fun j hj c hc u' hu' => ?_) (fun c hc => ?_)
          · simp only [List.mem_cons, List.not_mem_nil, or_false] at hi
            rcases hi with rfl | rfl | rfl | rfl <;> rfl
          · simp only [List.mem_cons, List.not_mem_nil, or_false] at hi
            rcases hi with rfl | rfl | rfl | rfl <;> exact ⟨fun o ho => by cases ho; rfl, rfl⟩
          · simp only [List.mem_cons, List.not_mem_nil, or_false] at hj
            rcases hj with rfl | rfl | rfl | rfl
            · exact A_lit tab rfl rfl rfl rfl rfl rfl rfl rfl rfl rfl (fun b c hL => ⟨rfl, _, _, ⟨b, c, rfl, rfl, hL⟩, rfl⟩)
            · obtain ⟨b', c', h1, h2, hL⟩ := hc 13 (by decide)
              simp only [show pre14 14 = [13] from rfl, netR, netβ, h1, h2]
              obtain ⟨hc3s, hc3⟩ := lit_box hL
              refine A_bok fun hbk => A_callR [] _ rfl bod51 rfl rfl rfl rfl rfl split0 (sum3_x (a := xa) (b := xb) (c := -(p : Int)) (union_box hbk InB.head) (hc3 0 _ rfl) (hc3 1 _ rfl) (hc3 2 _ rfl) (by omega) (by omega) (by omega)) (fun x β' hR => ?_)
              obtain ⟨rfl, rfl⟩ := hR
              exact ⟨rfl, _, [], ⟨congrArg intV e3, rfl⟩, rfl⟩
            · obtain ⟨h1, h2⟩ : (c 14).1 = intV q ∧ (c 14).2 = [] := hc 14 (by decide)
              simp only [show pre14 19 = [14] from rfl, netR, netβ, h1, h2]
              exact A_mk tab rfl rfl rfl rfl ⟨rfl, _, [], ⟨rfl, rfl⟩, rfl⟩
            · exact A_allocN tab rfl rfl rfl rfl (fun b => ⟨rfl, _, _, ⟨b, rfl, rfl⟩, rfl⟩)
          · obtain ⟨b13, c13, e13, e13', _⟩ := hc 13 (by decide)
            obtain ⟨e14, e14'⟩ : (c 14).1 = intV q ∧ (c 14).2 = [] := hc 14 (by decide)
            obtain ⟨e19, e19'⟩ : (c 19).1 = .agg (List.toArray [natV p, natV q, intV m]) ∧ (c 19).2 = [] := hc 19 (by decide)
            obtain ⟨b11, e20, e20'⟩ : ∃ b, (c 20).1 = .pointer (some ⟨b, 0, none⟩) ∧ (c 20).2 = [(b, List.toArray [intV 0, intV 0, intV 0], 42)] := hc 20 (by decide)
            simp only [netR, netβ, e13, e13', e14, e14', e19, e19', e20, e20']
            clear e13 e13' e14 e14' e19 e19' e20 e20' hc
            repeat' (first | refine cs ?_ | refine ss ?_ | (((with_reducible apply Q_box); (focus (exact rfl)); (focus (exact rfl)); (focus (exact rfl))); intro bx) | (((with_reducible apply Q_alloc tab); (focus (exact rfl)); (focus (exact rfl)); (focus (exact rfl))); intro bx) | refine S_do (by kernel_rfl) (A_storeN tab rfl rfl rfl rfl rfl rfl rfl (by ((repeat (first | exact InB.head | apply InB.tail | (with_reducible apply InB.app))); done)) (by exact rfl) (by ((repeat (first | exact SetB.head | apply SetB.tail | (with_reducible apply SetB.app))); done)) ⟨Le.refl _, (by (repeat (first | exact trivial | (apply And.intro; (focus (first | (apply Or.inr; (try dsimp only); ((repeat (first | exact InB.head | apply InB.tail | (with_reducible apply InB.app))); done)) | (apply Or.inl; kernel_rfl))))))), ?_⟩))
            by_cases hm0 : m = 0
            · rw [show (m == 0) = true from beq_iff_eq.2 hm0]
              repeat' (first | refine cs ?_ | refine ss ?_ | (((with_reducible apply Q_box); (focus (exact rfl)); (focus (exact rfl)); (focus (exact rfl))); intro bx) | (((with_reducible apply Q_alloc tab); (focus (exact rfl)); (focus (exact rfl)); (focus (exact rfl))); intro bx) | refine S_do (by kernel_rfl) (A_storeN tab rfl rfl rfl rfl rfl rfl rfl (by ((repeat (first | exact InB.head | apply InB.tail | (with_reducible apply InB.app))); done)) (by exact rfl) (by ((repeat (first | exact SetB.head | apply SetB.tail | (with_reducible apply SetB.app))); done)) ⟨Le.refl _, (by (repeat (first | exact trivial | (apply And.intro; (focus (first | (apply Or.inr; (try dsimp only); ((repeat (first | exact InB.head | apply InB.tail | (with_reducible apply InB.app))); done)) | (apply Or.inl; kernel_rfl))))))), ?_⟩))
              refine Q_op fun ho => A_panic ho rfl rfl (pn ?_)
              refine Fn_panic tab [] (Back.here fun p => Nat.zero_le _) ?_
              exact ⟨by rw [hokj, if_pos hm0], rfl⟩
            · rw [show (m == 0) = false from beq_eq_false_iff_ne.2 hm0]
              rw [if_neg hm0] at hokj
              have hlp : paid left q p (-m) = paid left p q m := paid_swap (fun e => hqn.2 e.symm) (by omega) (by omega) m
              repeat' (first | refine cr ?_ | refine ss ?_ | (((with_reducible apply Q_box); (focus (exact rfl)); (focus (exact rfl)); (focus (exact rfl))); intro bx) | (((with_reducible apply Q_alloc tab); (focus (exact rfl)); (focus (exact rfl)); (focus (exact rfl))); intro bx) | refine S_do (by kernel_rfl) (A_storeN tab rfl rfl rfl rfl rfl rfl rfl (by ((repeat (first | exact InB.head | apply InB.tail | (with_reducible apply InB.app))); done)) (by exact rfl) (by ((repeat (first | exact SetB.head | apply SetB.tail | (with_reducible apply SetB.app))); done)) ⟨Le.refl _, (by (repeat (first | exact trivial | (apply And.intro; (focus (first | (apply Or.inr; (try dsimp only); ((repeat (first | exact InB.head | apply InB.tail | (with_reducible apply InB.app))); done)) | (apply Or.inl; kernel_rfl))))))), ?_⟩))
              refine C_cut (fun σ w' => w' = u ∧ ∃ d : Dt, d.fit ∧ d.f < n ∧ d.t < n ∧ (-B ≤ d.m ∧ d.m ≤ B) ∧ paid left d.f d.t d.m = paid left p q m ∧ σ = ⟨[], [(11, .pointer (some ⟨b11, 0, none⟩)), (7, .int .i64 j), (0, .slice (some ⟨bl, offl, none⟩) l.length cl), (1, .pointer (some ⟨b5, 0, none⟩)), (2, .pointer (some ⟨bo, 0, none⟩)), (3, .pointer (some ⟨b6, 0, none⟩)), (4, .pointer (some ⟨bg, 0, none⟩))], (b11, d.cells.toArray, 42) :: (b5, netC left, 77) :: (b6, List.toArray [.slice ao outs.length co], 79) :: seg⟩) ?_ ?_
              · rintro σ w' ⟨rfl, ⟨df, dt, dm⟩, hdf, hd1, hd2, hd3, hpd, rfl⟩
                simp only at hd1 hd2 hd3 hpd
                change XC _ _ _ _ _ _ ⟨_, _, (b11, List.toArray [natV df, natV dt, intV dm], 42) :: _⟩ _
                have hpx : Ret1 Try.prog mn 52 [netV left, Dt.val ⟨df, dt, dm⟩] (netV (paid left p q m)) w' := by rw [← hpd]; exact paid_x hll (by omega) (by omega) hsm ⟨hB0, by omega⟩ hd3
                repeat' (first | refine cs ?_ | refine ss ?_ | (((with_reducible apply Q_box); (focus (exact rfl)); (focus (exact rfl)); (focus (exact rfl))); intro bx) | (((with_reducible apply Q_alloc tab); (focus (exact rfl)); (focus (exact rfl)); (focus (exact rfl))); intro bx) | refine S_do (by kernel_rfl) (A_storeN tab rfl rfl rfl rfl rfl rfl rfl (by ((repeat (first | exact InB.head | apply InB.tail | (with_reducible apply InB.app))); done)) (by exact rfl) (by ((repeat (first | exact SetB.head | apply SetB.tail | (with_reducible apply SetB.app))); done)) ⟨Le.refl _, (by (repeat (first | exact trivial | (apply And.intro; (focus (first | (apply Or.inr; (try dsimp only); ((repeat (first | exact InB.head | apply InB.tail | (with_reducible apply InB.app))); done)) | (apply Or.inl; kernel_rfl))))))), ?_⟩))
                refine C_draw [2, 5, 6, 7, 8] [0, 1, 3, 4, 2, 5, 6, 7, 8] mixed rfl (by kernel_rfl) ?_
                repeat' (first | refine cs ?_ | refine ss ?_ | (((with_reducible apply Q_box); (focus (exact rfl)); (focus (exact rfl)); (focus (exact rfl))); intro bx) | (((with_reducible apply Q_alloc tab); (focus (exact rfl)); (focus (exact rfl)); (focus (exact rfl))); intro bx) | refine S_do (by kernel_rfl) (A_storeN tab rfl rfl rfl rfl rfl rfl rfl (by ((repeat (first | exact InB.head | apply InB.tail | (with_reducible apply InB.app))); done)) (by exact rfl) (by ((repeat (first | exact SetB.head | apply SetB.tail | (with_reducible apply SetB.app))); done)) ⟨Le.refl _, (by (repeat (first | exact trivial | (apply And.intro; (focus (first | (apply Or.inr; (try dsimp only); ((repeat (first | exact InB.head | apply InB.tail | (with_reducible apply InB.app))); done)) | (apply Or.inl; kernel_rfl))))))), ?_⟩))
                refine S_net (Sp := sp19 (paid left p q m) df dt dm) (pre := pre19) [2, 5] dst19 (by decide) (by decide) (fun i hi => ?_) (by decide) (fun i hi => ?_) (by repeat (first | exact trivial | (refine ⟨?_, ?_⟩; focus ((repeat (first | exact InB.head | apply InB.tail | (with_reducible apply InB.app))); done)))) (by kernel_rfl) (fun j hj c hc u' hu' => ?_) (fun c hc => ?_)
                · simp only [List.mem_cons, List.not_mem_nil, or_false] at hi
                  rcases hi with rfl | rfl <;> rfl
                · simp only [List.mem_cons, List.not_mem_nil, or_false] at hi
                  rcases hi with rfl | rfl <;> exact ⟨fun o ho => by cases ho; rfl, rfl⟩
                · simp only [List.mem_cons, List.not_mem_nil, or_false] at hj
                  rcases hj with rfl | rfl
                  · exact A_ret1 rfl bod52 rfl rfl rfl rfl rfl (hpx.le hu') ⟨rfl, _, [], ⟨rfl, rfl⟩, rfl⟩
                  · exact A_lit tab rfl rfl rfl rfl rfl rfl rfl rfl rfl rfl (fun b c hL => ⟨rfl, _, _, ⟨b, c, rfl, rfl, hL⟩, rfl⟩)
                · obtain ⟨e2, e2'⟩ : (c 2).1 = netV (paid left p q m) ∧ (c 2).2 = [] := hc 2 (by decide)
                  obtain ⟨b15, c15, e5, e5', hL⟩ : ∃ b c', (c 5).1 = .slice (some ⟨b, 0, none⟩) 1 1 ∧ (c 5).2 = [(b, c', 42)] ∧ OwnS 42 3 [(b, c', 42)] (some ⟨b, 0, none⟩) 1 1 [natV df, natV dt, intV dm] := hc 5 (by decide)
                  simp only [netR, netβ, e2, e2', e5, e5']
                  clear e2 e2' e5 e5' hc
                  refine S_do (by kernel_rfl) (A_append tab (xs := [natV df, natV dt, intV dm]) seg [(b15, c15, 42)] [(b11, List.toArray [natV df, natV dt, intV dm], 42), (b5, netC left, 77), (b6, List.toArray [.slice ao outs.length co], 79)] rfl rfl rfl rfl rfl rfl rfl rfl rfl rfl rfl cntA hown
                    (fun hb => RowAt.own hb cntL hL) rfl rfl (by show (2 * (outs.length + 1) + 768) * 24 ≤ 2 ^ 48; omega) (by omega) (fun seg' a' cap' hS' => ⟨Le.refl _, ?_, ?_⟩))
                  · (repeat (first | exact trivial | (apply And.intro; (focus (first | (apply Or.inr; (try dsimp only); ((repeat (first | exact InB.head | apply InB.tail | (with_reducible apply InB.app))); done)) | (apply Or.inl; kernel_rfl))))))
                  repeat' (first | refine cs ?_ | refine ss ?_ | (((with_reducible apply Q_box); (focus (exact rfl)); (focus (exact rfl)); (focus (exact rfl))); intro bx) | (((with_reducible apply Q_alloc tab); (focus (exact rfl)); (focus (exact rfl)); (focus (exact rfl))); intro bx) | refine S_do (by kernel_rfl) (A_storeN tab rfl rfl rfl rfl rfl rfl rfl (by ((repeat (first | exact InB.head | apply InB.tail | (with_reducible apply InB.app))); done)) (by exact rfl) (by ((repeat (first | exact SetB.head | apply SetB.tail | (with_reducible apply SetB.app))); done)) ⟨Le.refl _, (by (repeat (first | exact trivial | (apply And.intro; (focus (first | (apply Or.inr; (try dsimp only); ((repeat (first | exact InB.head | apply InB.tail | (with_reducible apply InB.app))); done)) | (apply Or.inl; kernel_rfl))))))), ?_⟩))
                  obtain ⟨L', hL'⟩ : ∃ L', L' = paid left p q m := ⟨_, rfl⟩
                  have hl5 : L'.length = 5 := by rw [hL', paid_len]; exact hll
                  have hsm3 : Sm (B + B + B) L' := by
                    rw [hL', ← hpd]
                    exact (hsm.add (C := B) (x := dm) (i := df) (by omega) hd3).add (C := B) (x := -dm) (i := dt) (by rw [addAt_len]; omega) (by omega)
                  rw [← hL'] at hokj ⊢
                  change XC _ _ _ _ _ _ ⟨_, _, seg' ++ [(b11, List.toArray [natV df, natV dt, intV dm], 42), (b5, netC L', 77), (b6, List.toArray [.slice a' (outs.length + 1) cap'], 79)]⟩ _
                  have e5 : (if j = 0 then (some ⟨bl, offl, none⟩ : Option Addr) else (some ⟨bl, offl, none⟩ : Option Addr).map (·.add (0 * 2))) = some ⟨bl, offl, none⟩ := by
                    split
                    · rfl
                    · simp [Addr.add]
                  refine C_drawAJ 9 mixed (by kernel_rfl) ?_
                  change XL _ _ _ _ _ [_, _, _, _, _, _, _, _, _] _ _
                  repeat' (first | refine cs ?_ | refine ss ?_ | (((with_reducible apply Q_box); (focus (exact rfl)); (focus (exact rfl)); (focus (exact rfl))); intro bx) | (((with_reducible apply Q_alloc tab); (focus (exact rfl)); (focus (exact rfl)); (focus (exact rfl))); intro bx) | refine S_do (by kernel_rfl) (A_storeN tab rfl rfl rfl rfl rfl rfl rfl (by ((repeat (first | exact InB.head | apply InB.tail | (with_reducible apply InB.app))); done)) (by exact rfl) (by ((repeat (first | exact SetB.head | apply SetB.tail | (with_reducible apply SetB.app))); done)) ⟨Le.refl _, (by (repeat (first | exact trivial | (apply And.intro; (focus (first | (apply Or.inr; (try dsimp only); ((repeat (first | exact InB.head | apply InB.tail | (with_reducible apply InB.app))); done)) | (apply Or.inl; kernel_rfl))))))), ?_⟩))
                  refine L_load tab rfl rfl rfl hvg (readB_one tab rfl rfl rfl rfl) ?_
                  repeat' (first | refine cs ?_ | refine ss ?_ | (((with_reducible apply Q_box); (focus (exact rfl)); (focus (exact rfl)); (focus (exact rfl))); intro bx) | (((with_reducible apply Q_alloc tab); (focus (exact rfl)); (focus (exact rfl)); (focus (exact rfl))); intro bx) | refine S_do (by kernel_rfl) (A_storeN tab rfl rfl rfl rfl rfl rfl rfl (by ((repeat (first | exact InB.head | apply InB.tail | (with_reducible apply InB.app))); done)) (by exact rfl) (by ((repeat (first | exact SetB.head | apply SetB.tail | (with_reducible apply SetB.app))); done)) ⟨Le.refl _, (by (repeat (first | exact trivial | (apply And.intro; (focus (first | (apply Or.inr; (try dsimp only); ((repeat (first | exact InB.head | apply InB.tail | (with_reducible apply InB.app))); done)) | (apply Or.inl; kernel_rfl))))))), ?_⟩))
                  refine L_slice_hm tab (h' := j) (m := j) rfl rfl rfl rfl rfl rfl rfl (by omega) (Nat.le_refl _) ?_
                  rw [e5]
                  repeat' (first | refine cs ?_ | refine ss ?_ | (((with_reducible apply Q_box); (focus (exact rfl)); (focus (exact rfl)); (focus (exact rfl))); intro bx) | (((with_reducible apply Q_alloc tab); (focus (exact rfl)); (focus (exact rfl)); (focus (exact rfl))); intro bx) | refine S_do (by kernel_rfl) (A_storeN tab rfl rfl rfl rfl rfl rfl rfl (by ((repeat (first | exact InB.head | apply InB.tail | (with_reducible apply InB.app))); done)) (by exact rfl) (by ((repeat (first | exact SetB.head | apply SetB.tail | (with_reducible apply SetB.app))); done)) ⟨Le.refl _, (by (repeat (first | exact trivial | (apply And.intro; (focus (first | (apply Or.inr; (try dsimp only); ((repeat (first | exact InB.head | apply InB.tail | (with_reducible apply InB.app))); done)) | (apply Or.inl; kernel_rfl))))))), ?_⟩))
                  refine L_slice_l tab (l' := j + 1) rfl rfl rfl rfl rfl rfl (by omega) ?_
                  repeat' (first | refine cs ?_ | refine ss ?_ | (((with_reducible apply Q_box); (focus (exact rfl)); (focus (exact rfl)); (focus (exact rfl))); intro bx) | (((with_reducible apply Q_alloc tab); (focus (exact rfl)); (focus (exact rfl)); (focus (exact rfl))); intro bx) | refine S_do (by kernel_rfl) (A_storeN tab rfl rfl rfl rfl rfl rfl rfl (by ((repeat (first | exact InB.head | apply InB.tail | (with_reducible apply InB.app))); done)) (by exact rfl) (by ((repeat (first | exact SetB.head | apply SetB.tail | (with_reducible apply SetB.app))); done)) ⟨Le.refl _, (by (repeat (first | exact trivial | (apply And.intro; (focus (first | (apply Or.inr; (try dsimp only); ((repeat (first | exact InB.head | apply InB.tail | (with_reducible apply InB.app))); done)) | (apply Or.inl; kernel_rfl))))))), ?_⟩))
                  have hel : (l.eraseIdx j).length = k := by rw [List.length_eraseIdx_of_lt hj]; omega
                  have hepr : ∀ x ∈ l.eraseIdx j, x.1 < x.2 ∧ x.2 < n := fun x hx => hpr x (List.mem_of_mem_eraseIdx hx)
                  have hB3 : 0 ≤ B + B + B ∧ (B + B + B) * 4 ^ k ≤ 2 ^ 40 := by
                    refine ⟨by omega, ?_⟩
                    rw [Int.pow_succ] at hB
                    have h4 : (0 : Int) ≤ 4 ^ k := Int.le_of_lt (Int.pow_pos (by decide))
                    have h6 := Int.mul_nonneg hB0 h4
                    rw [← Int.mul_assoc] at hB
                    rw [Int.add_mul, Int.add_mul]
                    generalize B * 4 ^ k = X at *
                    omega
                  have hown' : OwnS 42 3 seg' a' (outs ++ [(⟨df, dt, dm⟩ : Dt)]).length cap' (dtC (outs ++ [⟨df, dt, dm⟩])) := by
                    have : dtC (outs ++ [(⟨df, dt, dm⟩ : Dt)]) = dtC outs ++ [natV df, natV dt, intV dm] := by simp [dtC, Dt.cells]
                    rw [this, List.length_append]
                    exact hS'
                  have hfit' : ∀ d ∈ outs ++ [(⟨df, dt, dm⟩ : Dt)], Dt.fit d := by
                    intro d hd
                    rcases List.mem_append.1 hd with h | h
                    · exact hfit d h
                    · rw [List.mem_singleton] at h; rw [h]; exact hdf
                  have hlen' : (outs ++ [(⟨df, dt, dm⟩ : Dt)]).length = outs.length + 1 := by simp
                  have hidx : l.eraseIdx j = l.take j ++ l.drop (j + 1) := List.eraseIdx_eq_take_drop_succ l j
                  have hcg : CapG w' n b5 bo b6 bg := ⟨⟨po, fo, ap, cp, ad, nd, cd, hvo⟩, ⟨pg, fg, hvg⟩⟩
                  have em : outs.length + 1 + k = outs.length + (k + 1) := by omega
                  have hih : ∀ (N : Nat) (v'' : View) (al' : Option Addr) (cl' : Nat), (l.eraseIdx j).length = N → (l.eraseIdx j).length ≤ cl' → w'.Le v'' → RowAt v'' al' (prsC (l.eraseIdx j)) → CallsB Try.prog mn 50 (List.toArray (.slice al' N cl' :: capG b5 bo b6 bg)) (GrowR n k (l.eraseIdx j) L' (outs.length + 1) b5 b6) ((b5, netC L', 77) :: (b6, List.toArray [.slice a' (outs.length + 1) cap'], 79) :: seg') v'' := by
                    rintro N v'' al' cl' rfl h1 h2 h3
                    have := ih (l.eraseIdx j) L' (outs ++ [⟨df, dt, dm⟩]) (B + B + B) v'' al' cl' seg' a' cap' hel hepr hl5 hsm3 hB3.1 hB3.2 (by rw [hlen']; omega) hfit' h1 h3 (hcg.le h2) hown'
                    rw [hlen'] at this
                    exact this
                  have hdone : ∀ {ds' : List Deferred} {ρ' : Regs} {β' rest : Boxes} {r : Value}, ds' = [] → GrowR n k (l.eraseIdx j) L' (outs.length + 1) b5 b6 (.ret r) β' → FnB tab f50 (GrowR n (k + 1) l left outs.length b5 b6) w' .ret ⟨ds', ρ', β' ++ rest⟩ w' := by
                    rintro ds' ρ' β' rest r rfl ⟨h1, rfl, left'', outs'', seg'', a'', c'', h2, h3, h4, h5, rfl⟩
                    rw [em] at h3 h5
                    refine Fn_ret tab ((b5, netC left'', 77) :: (b6, List.toArray [.slice a'' (outs.length + (k + 1)) c''], 79) :: seg'') .nil (Back.here (by rw [em]; exact cntL)) ?_
                    exact ⟨by rw [hokj]; exact h1, rfl, left'', outs'', seg'', a'', c'', h2, h3, h4, h5, rfl⟩
                  have hpan : ∀ {ds' : List Deferred} {ρ' : Regs} {β' rest : Boxes} {ch : List PanicEntry}, ds' = [] → GrowR n k (l.eraseIdx j) L' (outs.length + 1) b5 b6 (.pan ch) β' → FnB tab f50 (GrowR n (k + 1) l left outs.length b5 b6) w' (.panic ch) ⟨ds', ρ', β' ++ rest⟩ w' := by
                    rintro ds' ρ' β' rest ch rfl ⟨h1, rfl⟩
                    refine Fn_panic tab [] (Back.here fun p => Nat.zero_le _) ?_
                    exact ⟨by rw [hokj]; exact h1, rfl⟩
                  by_cases hend : j + 1 = l.length
                  · rw [show l.length - (j + 1) = 0 by omega]
                    refine M_append0 tab rfl rfl rfl rfl rfl rfl rfl rfl (Nat.le_refl _) ?_
                    refine A_callP ((b5, netC L', 77) :: (b6, List.toArray [.slice a' (outs.length + 1) cap'], 79) :: seg') [(b11, List.toArray [natV df, natV dt, intV dm], 42)] rfl bod50 rfl rfl rfl rfl rfl cntA
                      (hih j _ _ _ (by omega) (by omega) (union_le _ _) (by
                        rw [hidx, List.drop_eq_nil_of_le (by omega), List.append_nil, prs_take (by omega)]
                        exact (row_take hrow _).le (union_le _ _))) (fun x β' hR => ?_) (fun ch β' hR => ?_)
                    · refine XO_nil ?_
                      repeat' (first | refine cs ?_ | refine ss ?_ | (((with_reducible apply Q_box); (focus (exact rfl)); (focus (exact rfl)); (focus (exact rfl))); intro bx) | (((with_reducible apply Q_alloc tab); (focus (exact rfl)); (focus (exact rfl)); (focus (exact rfl))); intro bx) | refine S_do (by kernel_rfl) (A_storeN tab rfl rfl rfl rfl rfl rfl rfl (by ((repeat (first | exact InB.head | apply InB.tail | (with_reducible apply InB.app))); done)) (by exact rfl) (by ((repeat (first | exact SetB.head | apply SetB.tail | (with_reducible apply SetB.app))); done)) ⟨Le.refl _, (by (repeat (first | exact trivial | (apply And.intro; (focus (first | (apply Or.inr; (try dsimp only); ((repeat (first | exact InB.head | apply InB.tail | (with_reducible apply InB.app))); done)) | (apply Or.inl; kernel_rfl))))))), ?_⟩))
                      exact hdone rfl hR
                    · exact pn (hpan rfl hR)
                  · have e6 : (if cl = j + 1 then (some ⟨bl, offl, none⟩ : Option Addr) else (some ⟨bl, offl, none⟩ : Option Addr).map (·.add ((j + 1) * 2))) = some ⟨bl, offl + (j + 1) * 2, none⟩ := by
                      rw [if_neg (by omega)]
                      simp [Addr.add]
                    rw [e6]
                    refine M_appendB tab (cs := prsC (l.take j)) (xs := prsC (l.drop (j + 1))) rfl rfl rfl rfl rfl rfl rfl rfl rfl rfl rfl
                      (fun _ => by rw [prs_take (by omega)]; exact (row_take hrow _).le (union_le _ _)) (by rw [prs_len, List.length_take]; show min j l.length * 2 = j * 2; omega)
                      (fun _ => by rw [prs_drop (by omega)]; exact (row_drop hrow (by rw [prs_len]; omega)).le (union_le _ _)) (by rw [prs_len, List.length_drop])
                      (by show j < j + _; omega) (by show (2 * (j + (l.length - (j + 1))) + 768) * 16 ≤ 2 ^ 48; omega) (by omega) (fun b17 c17 cap17 hS17 => ?_)
                    refine A_callP (((b5, netC L', 77) :: (b6, List.toArray [.slice a' (outs.length + 1) cap'], 79) :: seg') ++ [(b17, c17, 123)]) [(b11, List.toArray [natV df, natV dt, intV dm], 42)] rfl bod50 rfl rfl rfl rfl rfl cntA
                      (CallsB.drop fun hbd => hih _ _ _ _ (by rw [hel]; show k = j + (l.length - (j + 1)); omega) (by rw [hel]; have := hS17.len; cases hS17; omega) ((union_le _ _).trans (union_le _ _)) (by
                        rw [hidx, show prsC (l.take j ++ l.drop (j + 1)) = prsC (l.take j) ++ prsC (l.drop (j + 1)) from by simp only [prsC, List.map_append, List.flatten_append]]
                        exact RowAt.own hbd (fun _ => Nat.le_refl _) hS17)) (fun x β' hR => ?_) (fun ch β' hR => ?_)
                    · refine XO_nil ?_
                      repeat' (first | refine cs ?_ | refine ss ?_ | (((with_reducible apply Q_box); (focus (exact rfl)); (focus (exact rfl)); (focus (exact rfl))); intro bx) | (((with_reducible apply Q_alloc tab); (focus (exact rfl)); (focus (exact rfl)); (focus (exact rfl))); intro bx) | refine S_do (by kernel_rfl) (A_storeN tab rfl rfl rfl rfl rfl rfl rfl (by ((repeat (first | exact InB.head | apply InB.tail | (with_reducible apply InB.app))); done)) (by exact rfl) (by ((repeat (first | exact SetB.head | apply SetB.tail | (with_reducible apply SetB.app))); done)) ⟨Le.refl _, (by (repeat (first | exact trivial | (apply And.intro; (focus (first | (apply Or.inr; (try dsimp only); ((repeat (first | exact InB.head | apply InB.tail | (with_reducible apply InB.app))); done)) | (apply Or.inl; kernel_rfl))))))), ?_⟩))
                      exact hdone rfl hR
                    · exact pn (hpan rfl hR)
              · repeat' (first | refine cs ?_ | refine ss ?_ | (((with_reducible apply Q_box); (focus (exact rfl)); (focus (exact rfl)); (focus (exact rfl))); intro bx) | (((with_reducible apply Q_alloc tab); (focus (exact rfl)); (focus (exact rfl)); (focus (exact rfl))); intro bx) | refine S_do (by kernel_rfl) (A_storeN tab rfl rfl rfl rfl rfl rfl rfl (by ((repeat (first | exact InB.head | apply InB.tail | (with_reducible apply InB.app))); done)) (by exact rfl) (by ((repeat (first | exact SetB.head | apply SetB.tail | (with_reducible apply SetB.app))); done)) ⟨Le.refl _, (by (repeat (first | exact trivial | (apply And.intro; (focus (first | (apply Or.inr; (try dsimp only); ((repeat (first | exact InB.head | apply InB.tail | (with_reducible apply InB.app))); done)) | (apply Or.inl; kernel_rfl))))))), ?_⟩))
                refine XC_cond rfl (fun h => ?_) (fun h => ?_)
                · (simp only [decide_eq_true_eq, decide_eq_false_iff_not, beq_iff_eq, bne_iff_ne, Bool.not_eq_true', beq_eq_false_iff_ne, bne_eq_false_iff_eq, ne_eq] at h)
                  repeat' (first | refine cs ?_ | refine ss ?_ | (((with_reducible apply Q_box); (focus (exact rfl)); (focus (exact rfl)); (focus (exact rfl))); intro bx) | (((with_reducible apply Q_alloc tab); (focus (exact rfl)); (focus (exact rfl)); (focus (exact rfl))); intro bx) | refine S_do (by kernel_rfl) (A_storeN tab rfl rfl rfl rfl rfl rfl rfl (by ((repeat (first | exact InB.head | apply InB.tail | (with_reducible apply InB.app))); done)) (by exact rfl) (by ((repeat (first | exact SetB.head | apply SetB.tail | (with_reducible apply SetB.app))); done)) ⟨Le.refl _, (by (repeat (first | exact trivial | (apply And.intro; (focus (first | (apply Or.inr; (try dsimp only); ((repeat (first | exact InB.head | apply InB.tail | (with_reducible apply InB.app))); done)) | (apply Or.inl; kernel_rfl))))))), ?_⟩))
                  have e4 : IntKind.i64.wrap (0 - m) = -m := by rw [wrap64 (by omega) (by omega)]; omega
                  rw [e4]
                  refine Loop_normal ⟨_, _, ⟨rfl, ⟨q, p, -m⟩, ⟨by show q < 5; omega, by show p < 5; omega, by show -(2 ^ 50) ≤ -m; omega, by show -m ≤ 2 ^ 50; omega⟩, hqn.1, hpn, by show -B ≤ -m ∧ -m ≤ B; omega, hlp, rfl⟩, ⟨rfl, (by (repeat (first | exact trivial | refine ⟨rfl, ?_⟩))), ?_⟩, Le.refl _⟩
                  exact show Subm ((b11, List.toArray [natV q, natV p, intV (-m)], 42) :: (b5, netC left, 77) :: (b6, List.toArray [.slice ao outs.length co], 79) :: seg) ((b13, c13, 3) :: (b11, List.toArray [natV q, natV p, intV (-m)], 42) :: (b5, netC left, 77) :: (b6, List.toArray [.slice ao outs.length co], 79) :: seg) from cntL
                · (simp only [decide_eq_true_eq, decide_eq_false_iff_not, beq_iff_eq, bne_iff_ne, Bool.not_eq_true', beq_eq_false_iff_ne, bne_eq_false_iff_eq, ne_eq] at h)
                  repeat' (first | refine cs ?_ | refine ss ?_ | (((with_reducible apply Q_box); (focus (exact rfl)); (focus (exact rfl)); (focus (exact rfl))); intro bx) | (((with_reducible apply Q_alloc tab); (focus (exact rfl)); (focus (exact rfl)); (focus (exact rfl))); intro bx) | refine S_do (by kernel_rfl) (A_storeN tab rfl rfl rfl rfl rfl rfl rfl (by ((repeat (first | exact InB.head | apply InB.tail | (with_reducible apply InB.app))); done)) (by exact rfl) (by ((repeat (first | exact SetB.head | apply SetB.tail | (with_reducible apply SetB.app))); done)) ⟨Le.refl _, (by (repeat (first | exact trivial | (apply And.intro; (focus (first | (apply Or.inr; (try dsimp only); ((repeat (first | exact InB.head | apply InB.tail | (with_reducible apply InB.app))); done)) | (apply Or.inl; kernel_rfl))))))), ?_⟩))
                  refine Loop_normal ⟨_, _, ⟨rfl, ⟨p, q, m⟩, ⟨by show p < 5; omega, by show q < 5; omega, by show -(2 ^ 50) ≤ m; omega, by show m ≤ 2 ^ 50; omega⟩, hpn, hqn.1, by show -B ≤ m ∧ m ≤ B; omega, rfl, rfl⟩, ⟨rfl, (by (repeat (first | exact trivial | refine ⟨rfl, ?_⟩))), ?_⟩, Le.refl _⟩
                  exact show Subm ((b11, List.toArray [natV p, natV q, intV m], 42) :: (b5, netC left, 77) :: (b6, List.toArray [.slice ao outs.length co], 79) :: seg) ((b13, c13, 3) :: (b11, List.toArray [natV p, natV q, intV m], 42) :: (b5, netC left, 77) :: (b6, List.toArray [.slice ao outs.length co], 79) :: seg) from cntL
        · rw [show (((scanL p l).2 : Int) != 1) = true from bne_iff_ne.2 (by omega)]
          repeat' (first | refine cs ?_ | refine ss ?_ | (((with_reducible apply Q_box); (focus (exact rfl)); (focus (exact rfl)); (focus (exact rfl))); intro bx) | (((with_reducible apply Q_alloc tab); (focus (exact rfl)); (focus (exact rfl)); (focus (exact rfl))); intro bx) | refine S_do (by kernel_rfl) (A_storeN tab rfl rfl rfl rfl rfl rfl rfl (by ((repeat (first | exact InB.head | apply InB.tail | (with_reducible apply InB.app))); done)) (by exact rfl) (by ((repeat (first | exact SetB.head | apply SetB.tail | (with_reducible apply SetB.app))); done)) ⟨Le.refl _, (by (repeat (first | exact trivial | (apply And.intro; (focus (first | (apply Or.inr; (try dsimp only); ((repeat (first | exact InB.head | apply InB.tail | (with_reducible apply InB.app))); done)) | (apply Or.inl; kernel_rfl))))))), ?_⟩))
          exact Loop_normal ⟨p + 1, u, by omega, ⟨rfl, (by (repeat (first | exact trivial | refine ⟨rfl, ?_⟩))), cntL⟩, Le.refl _, rfl, hpn, by rw [hleaf, hrg]; conv => { lhs; unfold leafIn }; rw [if_neg hone]⟩
    · (simp only [decide_eq_true_eq, decide_eq_false_iff_not, beq_iff_eq, bne_iff_ne, Bool.not_eq_true', beq_eq_false_iff_ne, bne_eq_false_iff_eq, ne_eq] at h)
      have hpn : p = n := by omega
      subst hpn
      rw [Nat.sub_self] at hleaf
      repeat' (first | refine cs ?_ | refine ss ?_ | (((with_reducible apply Q_box); (focus (exact rfl)); (focus (exact rfl)); (focus (exact rfl))); intro bx) | (((with_reducible apply Q_alloc tab); (focus (exact rfl)); (focus (exact rfl)); (focus (exact rfl))); intro bx) | refine S_do (by kernel_rfl) (A_storeN tab rfl rfl rfl rfl rfl rfl rfl (by ((repeat (first | exact InB.head | apply InB.tail | (with_reducible apply InB.app))); done)) (by exact rfl) (by ((repeat (first | exact SetB.head | apply SetB.tail | (with_reducible apply SetB.app))); done)) ⟨Le.refl _, (by (repeat (first | exact trivial | (apply And.intro; (focus (first | (apply Or.inr; (try dsimp only); ((repeat (first | exact InB.head | apply InB.tail | (with_reducible apply InB.app))); done)) | (apply Or.inl; kernel_rfl))))))), ?_⟩))
      refine Q_op fun ho => A_panic ho rfl rfl (pn ?_)
      refine Fn_panic tab [] (Back.here fun p => Nat.zero_le _) ?_
      refine ⟨?_, rfl⟩
      show ok p (k + 1) l left = false
      unfold ok
      rw [hleaf]
      rfl
end
end Go.Proofs.Ytbbaionoibkohaa
end
section
namespace Go.Pal
open Go Go.Conc View
def dcallC (k : FuncId) (args cap : Array Value) : Deferred := { target := .fn (.func k) cap, args := args }
section
variable {P : Program} {mn : Who} {Stop : View → Goroutine → Prop} {v : View}
theorem run_deferC {fr : Frame} {cs : List Frame} {k : FuncId} {fn : Func} {args cap : Array Value} {ds : List Deferred} (hm : fr.mode = .returning ∨ ∃ ch, fr.mode = .panicking ch) (hd : fr.defers = dcallC k args cap :: ds)
    (hf : P.funcs[k]? = some fn) (hname : fn.name ≠ "runtime.NumGoroutine") (hb : ¬ fn.body = none) (h : Run P mn Stop v (G (Frame.enter P k (args ++ cap) .deferred) ({ fr with defers := ds } :: cs))) : Run P mn Stop v (G fr cs) := by
  refine Run.ctl rfl (fun w => ?_) h
  rcases hm with hm | ⟨ch, hm⟩ <;> simp [G, stepG, hm, unwind, hd, dcallC, callDeferred, invoke, callFunc, hf, hname, hb, GStep.after, seen_none]
end
section
variable {P : Program} {mn : Who} {rd : Option Nat} {n : Nat} {Q : Exit → St → View → Prop} {ds : List Deferred} {ρ : Regs} {β : Boxes} {v : View} {K : St → View → Prop}
  {ops : Array Oper} {i : Nat} {d : Nat} {ty : TypeId} {pos : String} {af : Array Edge} {gu : Option (Nat × Bool)}
theorem A_deferV {f : Operand} {k : FuncId} {cap : Array Value} {aS : Array Operand} {ats : Array TypeId} {xs : List Value} (hrd : rd = none) (ho : ops[i]? = some ⟨none, .defer { callee := .value f, args := aS, argTypes := ats }, ty, pos, af, gu⟩) (hw : wantG ops gu ρ = some true)
    (hf : ρ.val f = some (.func (.func k) #[] cap)) (hxs : allGet ρ.val aS.toList = some xs) (h : K ⟨dcallC k xs.toArray cap :: ds, ρ, β⟩ v) : XOp P mn rd n ops i Q K ⟨ds, ρ, β⟩ v := by
  refine xop_sem ho (wantG_B hw) (.inl hrd) rfl fun ev hev hbk => ?_
  have ha : aS.map ev = xs.toArray := Array.toList_inj.1 (by simpa using allGet_map hev hxs)
  have hf := hev _ _ hf
  unfold execOp
  simp only [resolve, Deferred.ofValue, hf, ha, sx_bind, sx_pure]
  refine ⟨hrd, β, v, ⟨hbk, Le.refl _⟩, ?_⟩
  simpa [dcallC, putR] using h
end
structure Caught2 (P : Program) (mn : Who) (kc : FuncId) (xp : Value) (t1 t2 : TypeId) (y1 y2 : Array Value) : Prop where
  fn : ∃ fn, P.funcs[kc]? = some fn ∧ fn.name ≠ "runtime.NumGoroutine" ∧ ¬ fn.body = none
  ok : ∀ {Stop : View → Goroutine → Prop} {v : View} {c : Frame} {cs : List Frame} {p1 p2 : Addr}, c.mode = .returning → Run P mn Stop v (G c cs) → Run P mn Stop v (G (Frame.enter P kc #[.pointer (some p1), .pointer (some p2)] .deferred) (c :: cs))
  pan : ∀ {Stop : View → Goroutine → Prop} {u : View} {c : Frame} {cs : List Frame} {b1 b2 : Nat} {c1 c2 : Array Value}, c.mode = .panicking [⟨xp, false, false⟩] → c1.size = 1 → c2.size = 1 → Bok [(b1, c1, t1), (b2, c2, t2)] u →
    Run P mn Stop (u.union (bview [(b1, y1, t1), (b2, y2, t2)])) (G { c with mode := .returning } cs) → Run P mn Stop (u.union (bview [(b1, c1, t1), (b2, c2, t2)])) (G (Frame.enter P kc #[.pointer (some ⟨b1, 0, none⟩), .pointer (some ⟨b2, 0, none⟩)] .deferred) (c :: cs))
section
variable {P : Program} {mn : Who} (T : Tab P) {v : View}
def FnS (fn : Func) (kc : FuncId) (xp : Value) (t1 t2 : TypeId) (y1 y2 : Array Value) (R : End → Boxes → Prop) (v : View) : Exit → St → View → Prop
  | .ret, σ, u => ∃ p1 p2, σ.ds = [dcallC kc #[] #[.pointer (some p1), .pointer (some p2)]] ∧ ∃ xs β', ResL T σ.ρ σ.β fn.results.toList xs ∧ R (.ret (oneOf xs)) β' ∧ Back v β' u σ.β
  | .panic ch, σ, u => ∃ b1 b2 c1 c2 rest xs β', σ.ds = [dcallC kc #[] #[.pointer (some ⟨b1, 0, none⟩), .pointer (some ⟨b2, 0, none⟩)]] ∧ ch = [⟨xp, false, false⟩] ∧ c1.size = 1 ∧ c2.size = 1 ∧ (∀ p, cnt p σ.β = cnt p ([(b1, c1, t1), (b2, c2, t2)] ++ rest)) ∧
      ResL T σ.ρ ([(b1, y1, t1), (b2, y2, t2)] ++ rest) fn.results.toList xs ∧ R (.ret (oneOf xs)) β' ∧ Back v β' u ([(b1, y1, t1), (b2, y2, t2)] ++ rest)
  | _, _, _ => False
theorem callsB_fnS {f kc : FuncId} {xp : Value} {t1 t2 : TypeId} {y1 y2 : Array Value} (C : Caught2 P mn kc xp t1 t2 y1 y2) {fn : Func} {c : Code} {args : List Value} {R : End → Boxes → Prop} {β : Boxes} (hf : P.funcs[f]? = some fn) (hb : fn.body = some c) (hn : args.length ≤ fn.ntmps)
    (h : XC P mn none fn.ntmps c (FnS T fn kc xp t1 t2 y1 y2 R v) ⟨[], argRegs 0 args, β⟩ v) : CallsB P mn f args.toArray R β v := fun hbk => by
  intro Stop cf cs hc hR
  let b : Frame := { fn := f, tmps := #[], todo := [], defers := [], mode := .run, kind := .normal }
  have henter : Frame.enter P f args.toArray .normal = b.on { tmps := args.toArray ++ Array.replicate (fn.ntmps - args.toArray.size) undef, defers := [] } [.code c] := by
    simp [Frame.enter, Frame.on, hf, hb, b]
  rw [henter]
  obtain ⟨fc, hfc, hnm, hbd⟩ := C.fn
  refine (h _ (fits_args hn) hbk) Stop b [] (cf :: cs) (by simp [b]) rfl fun e a' w hQ => ?_
  obtain ⟨⟨ds', ρ', β'⟩, u, hq, hf', hb', hl⟩ := hQ
  cases e with
  | ret =>
    obtain ⟨p1, p2, h1, xs, β'', h6, h7, h8⟩ := hq
    intro todo
    refine Run.ctl rfl (g' := G { b.on a' (.code .ret :: todo) with mode := .returning } (cf :: cs)) (fun w => by simp [G, stepG, stepG.exec, Frame.on, b]) ?_
    refine run_deferC (.inl rfl) (hf'.defers.trans h1) hfc hnm hbd (C.ok rfl ?_)
    refine run_leave (fn := fn) (R := fun e w' => ∃ β', R e β' ∧ Bok β' v ∧ (v.union (bview β')).Le w') rfl rfl rfl hf ?_ hR
    exact sx_results2 T hf' hb' hl h6 h7 h8
  | panic ch =>
    obtain ⟨b1, b2, c1, c2, rest, xs, β'', h1, rfl, h3, h4, h5, h6, h7, h8⟩ := hq
    intro todo
    refine run_deferC (fr := { b.on a' todo with mode := _ }) (.inr ⟨_, rfl⟩) (hf'.defers.trans h1) hfc hnm hbd ?_
    simp only at hb' hl
    obtain ⟨hb2, he2⟩ := bok_perm (perm_of_cnt h5) hb'
    obtain ⟨hr1, hr2⟩ := bok_append.1 hb2
    have hl2 : ((u.union (bview rest)).union (bview [(b1, c1, t1), (b2, c2, t2)])).Le w := by rw [← union_comm_boxes hb2, he2]; exact hl
    have hr3 : Bok [(b1, y1, t1), (b2, y2, t2)] (u.union (bview rest)) := bok_keys hr2 rfl
    have hb3 : Bok ([(b1, y1, t1), (b2, y2, t2)] ++ rest) u := bok_append.2 ⟨hr1, hr3⟩
    refine Run.weaken ?_ hl2
    refine C.pan rfl h3 h4 hr2 ?_
    refine run_leave (fn := fn) (R := fun e w' => ∃ β', R e β' ∧ Bok β' v ∧ (v.union (bview β')).Le w') rfl rfl rfl hf ?_ hR
    exact sx_results2 T (n := fn.ntmps) (ds := ds') (ρ := ρ') (β := [(b1, y1, t1), (b2, y2, t2)] ++ rest) (u := u) ⟨hf'.size, hf'.defers, hf'.get⟩ hb3 (by rw [union_comm_boxes hb3]; exact Le.refl _) h6 h7 h8
  | normal => exact hq.elim
  | exit id => exact hq.elim
  | goto l => exact hq.elim
  | outgrown => exact hq.elim
end
end Go.Pal
end
