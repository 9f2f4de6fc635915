/- Part 23 of the proof that stands in the last text. -/
import Derived.Test.YtbbaionoibkohaaPav
set_option linter.all false
section
namespace Go.Proofs.Ytbbaionoibkohaa
open Go Go.Pal Go.Pal.Db Go.Conc View
open Go.Proofs.Try
set_option maxHeartbeats 4000000
noncomputable def tlC : Code := match f3.body with
  | some (.seq _ (.seq _ (.seq _ (.seq _ (.seq _ (.seq _ (.seq _ (.seq _ (.seq _ (.seq _ t)))))))))) => t
  | _ => .skip
structure DueB (c : Array Value) (D : List Int) : Prop where
  size : c.size = D.length
  get : ∀ j, j < D.length → c[j]? = some (intV (gat D j))
theorem DueB.rd {c : Array Value} {D : List Int} (h : DueB c D) {j : Nat} (hj : j < D.length) : c[0 + j * 1]? = some (intV (gat D j)) := by
  rw [Nat.zero_add, Nat.mul_one]; exact h.get j hj
theorem DueB.wr {c : Array Value} {D : List Int} (h : DueB c D) {j : Nat} (hj : j < D.length) (y : Int) : DueB (writeB c (0 + j * 1) (intV y).cells.toList) (D.set j y) := by
  refine ⟨by rw [writeB_size, h.size]; simp, fun i hi => ?_⟩
  have hi' : i < D.length := by simpa using hi
  have hs := h.size
  rw [Nat.zero_add, Nat.mul_one, writeB_get (by show j + 1 ≤ c.size; omega)]
  by_cases hij : i = j
  · subst hij
    rw [if_pos ⟨Nat.le_refl _, by show i < i + 1; omega⟩, Nat.sub_self]
    unfold gat
    rw [List.getD_eq_getElem?_getD, List.getElem?_set_self hj]; rfl
  · rw [if_neg (by show ¬(j ≤ i ∧ i < j + 1); omega), h.get i hi']
    unfold gat
    rw [List.getD_eq_getElem?_getD, List.getD_eq_getElem?_getD, List.getElem?_set_ne (fun e => hij e.symm)]
theorem DueB.row {c : Array Value} {D : List Int} (h : DueB c D) {v : View} {b : Nat} {p : Bool} {e : TypeId} {f : Nat × Nat} (hv : v b = some (p, .cells c e f)) : RowAt v (some ⟨b, 0, none⟩) (D.map intV) :=
  .inr ⟨b, 0, p, c, e, f, rfl, hv, by rw [List.length_map, h.size]; omega, fun i x hx => by
    rw [List.getElem?_map] at hx
    rw [Nat.zero_add]
    cases hD : D[i]? with
    | none => rw [hD] at hx; cases hx
    | some y =>
      rw [hD] at hx
      cases hx
      have hi : i < D.length := by
        rcases Nat.lt_or_ge i D.length with h1 | h1
        · exact h1
        · rw [List.getElem?_eq_none h1] at hD; cases hD
      rw [h.get i hi]
      unfold gat
      rw [List.getD_eq_getElem?_getD, hD]; rfl⟩
def dueOf (prs : List Int) (dawn dk : List Nat) (P : Nat) : Nat → List Int
  | 0 => List.replicate P 0
  | h + 1 => addAt (addAt (dueOf prs dawn dk P h) (dawn.getD h 0) (gat prs h)) (dk.getD h 0) (-gat prs h)
theorem dueOf_len (prs : List Int) (dawn dk : List Nat) (P : Nat) : ∀ h, (dueOf prs dawn dk P h).length = P
  | 0 => by simp [dueOf]
  | h + 1 => by simp [dueOf, addAt_len, dueOf_len prs dawn dk P h]
theorem dueOf_sm {prs : List Int} {dawn dk : List Nat} {P : Nat} (hpr : ∀ h, h < dawn.length → 1 ≤ gat prs h ∧ gat prs h ≤ 9) (h1 : ∀ x ∈ dawn, x < P) (h2 : ∀ x ∈ dk, x < P) (hl : dk.length = dawn.length) : ∀ h, h ≤ dawn.length → Sm (18 * h) (dueOf prs dawn dk P h)
  | 0, _ => fun j => by
    have : gat (dueOf prs dawn dk P 0) j = 0 := by
      unfold gat dueOf; rw [List.getD_eq_getElem?_getD, List.getElem?_replicate]; split <;> rfl
    omega
  | h + 1, hh => by
    have ih := dueOf_sm hpr h1 h2 hl h (by omega)
    have e1 : dawn.getD h 0 < P := by rw [List.getD_eq_getElem?_getD, List.getElem?_eq_getElem (by omega)]; exact h1 _ (List.getElem_mem _)
    have e2 : dk.getD h 0 < P := by rw [List.getD_eq_getElem?_getD, List.getElem?_eq_getElem (by omega)]; exact h2 _ (List.getElem_mem _)
    have hp := hpr h (by omega)
    have := (ih.add (C := 9) (x := gat prs h) (i := dawn.getD h 0) (by rw [dueOf_len]; exact e1) (by omega)).add (C := 9) (x := -gat prs h) (i := dk.getD h 0) (by rw [addAt_len, dueOf_len]; exact e2) (by omega)
    rw [show (18 * ((h + 1 : Nat) : Int)) = 18 * h + 9 + 9 by omega]
    exact this
section
variable {v : View}
theorem tail_x {m : Mo} (hm : m.ok v) {o : Ow} (ho : o.ok v) (hon : o.n = m.P) {prs : List Int} {ap : Option Addr} {cp : Nat} {dk : List Nat} {ad : Option Addr} {cd : Nat} {b4 b11 : Nat}
    (hrp : RowAt v ap (prs.map intV)) (hrd : RowAt v ad (dk.map natV)) (hpl : prs.length = m.dawn.length) (hdl : dk.length = m.dawn.length) (hpr : ∀ h, h < prs.length → 1 ≤ gat prs h ∧ gat prs h ≤ 9) (hdP : ∀ y ∈ dk, y < m.P)
    (hnet : (netsOf o.ds).take m.P = dueOf prs m.dawn dk m.P m.dawn.length) (hex : ∃ k, k < o.n ∧ 0 < cntO o k) (hoff : ∀ p, m.P ≤ p → gat (netsOf o.ds) p = 0) :
    XC Try.prog ⟨true, false⟩ none f3.ntmps tlC (CallQ 2) ⟨[], [(11, .pointer (some ⟨b11, 0, none⟩)), (9, .slice ad dk.length cd), (6, .slice ap prs.length cp), (4, .pointer (some ⟨b4, 0, none⟩))], [(b11, List.toArray [.slice o.ap o.n o.cp, .slice o.ad o.ds.length o.cd], 38), (b4, (Value.agg (List.toArray [natV m.P, .slice m.a m.dawn.length m.cap])).cells, 26)]⟩ v := by
  refine C_seq ?_
  have hmP := hm.P
  have hml := hm.len
  repeat' (first | refine cs ?_ | refine ss ?_ | (((with_reducible apply Q_box); (focus (exact rfl)); (focus (exact rfl)); (focus (exact rfl))); intro bx) | (((with_reducible apply Q_alloc tab); (focus (exact rfl)); (focus (exact rfl)); (focus (exact rfl))); intro bx) | refine S_do (by kernel_rfl) (A_storeN tab rfl rfl rfl rfl rfl rfl rfl (by ((repeat (first | exact InB.head | apply InB.tail | (with_reducible apply InB.app))); done)) (by exact rfl) (by ((repeat (first | exact SetB.head | apply SetB.tail | (with_reducible apply SetB.app))); done)) ⟨Le.refl _, (by (repeat (first | exact trivial | (apply And.intro; (focus (first | (apply Or.inr; (try dsimp only); ((repeat (first | exact InB.head | apply InB.tail | (with_reducible apply InB.app))); done)) | (apply Or.inl; kernel_rfl))))))), ?_⟩))
  refine Q_op fun ho' => A_make tab (by_ := 8) (m := m.P) (x := undef) ho' rfl rfl rfl rfl rfl rfl rfl rfl rfl (by omega) (by omega) (fun b13 c13 hs13 hz13 => ?_)
  clear ho'
  have hdue0 : DueB c13 (dueOf prs m.dawn dk m.P 0) := by
    refine ⟨by rw [dueOf_len]; omega, fun j hj => ?_⟩
    rw [dueOf_len] at hj
    rw [hz13 j (by omega)]
    have : gat (dueOf prs m.dawn dk m.P 0) j = 0 := by
      unfold gat dueOf; rw [List.getD_eq_getElem?_getD, List.getElem?_replicate]; split <;> rfl
    rw [this]
    show some ((#[Value.int .i64 0] : Array Value)[j % 1]!) = _
    rw [Nat.mod_one]; rfl
  repeat' (first | refine cr ?_ | refine ss ?_ | (((with_reducible apply Q_box); (focus (exact rfl)); (focus (exact rfl)); (focus (exact rfl))); intro bx) | (((with_reducible apply Q_alloc tab); (focus (exact rfl)); (focus (exact rfl)); (focus (exact rfl))); intro bx) | refine S_do (by kernel_rfl) (A_storeN tab rfl rfl rfl rfl rfl rfl rfl (by ((repeat (first | exact InB.head | apply InB.tail | (with_reducible apply InB.app))); done)) (by exact rfl) (by ((repeat (first | exact SetB.head | apply SetB.tail | (with_reducible apply SetB.app))); done)) ⟨Le.refl _, (by (repeat (first | exact trivial | (apply And.intro; (focus (first | (apply Or.inr; (try dsimp only); ((repeat (first | exact InB.head | apply InB.tail | (with_reducible apply InB.app))); done)) | (apply Or.inl; kernel_rfl))))))), ?_⟩))
  refine C_cut (fun σ w => w = v ∧ ∃ c, DueB c (dueOf prs m.dawn dk m.P m.dawn.length) ∧ σ = ⟨[], [(14, .bool true), (13, .slice (some ⟨b13, 0, none⟩) m.P m.P), (11, .pointer (some ⟨b11, 0, none⟩)), (4, .pointer (some ⟨b4, 0, none⟩))], [(b13, c, 3), (b11, List.toArray [.slice o.ap o.n o.cp, .slice o.ad o.ds.length o.cd], 38), (b4, (Value.agg (List.toArray [natV m.P, .slice m.a m.dawn.length m.cap])).cells, 26)]⟩) ?_ ?_
  · rintro σ w ⟨rfl, c, hD, rfl⟩
    generalize hDD : dueOf prs m.dawn dk m.P m.dawn.length = D at *
    have hDl : D.length = m.P := by rw [← hDD]; exact dueOf_len _ _ _ _ _
    refine C_cut (fun σ u => u = w ∧ σ = ⟨[], [(14, .bool (zeroL D)), (13, .slice (some ⟨b13, 0, none⟩) m.P m.P), (11, .pointer (some ⟨b11, 0, none⟩)), (4, .pointer (some ⟨b4, 0, none⟩))], [(b13, c, 3), (b11, List.toArray [.slice o.ap o.n o.cp, .slice o.ad o.ds.length o.cd], 38), (b4, (Value.agg (List.toArray [natV m.P, .slice m.a m.dawn.length m.cap])).cells, 26)]⟩) ?_ ?_
    · rintro σ u ⟨rfl, rfl⟩
      have hzz : ∀ m', m' < o.n → 0 < cntO o m' → (∀ i, i < m' → cntO o i = 0) → (m' == 0) = zeroL D := by
        intro m' h1 h2 h3
        have e1 : zeroL (netsOf o.ds) = zeroL D := by
          rw [Bool.eq_iff_iff, zeroL_iff, zeroL_iff, ← hnet]
          have hg : ∀ i, gat ((netsOf o.ds).take m.P) i = if i < m.P then gat (netsOf o.ds) i else 0 := by
            intro i
            unfold gat
            rw [List.getD_eq_getElem?_getD, List.getD_eq_getElem?_getD, List.getElem?_take]
            split <;> rfl
          constructor
          · intro h i; rw [hg, h i]; split <;> rfl
          · intro h i
            rcases Nat.lt_or_ge i m.P with hi | hi
            · have := h i; rw [hg, if_pos hi] at this; exact this
            · exact hoff i hi
        rw [← e1]
        have hc0 := cnt_zero (o := o)
        cases hz : zeroL (netsOf o.ds) with
        | true =>
          rw [hz] at hc0
          rcases Nat.eq_zero_or_pos m' with h | h
          · subst h; rfl
          · have := h3 0 h; rw [hc0] at this; cases this
        | false =>
          rw [hz] at hc0
          rcases Nat.eq_zero_or_pos m' with h | h
          · subst h; rw [hc0] at h2; cases h2
          · exact beq_eq_false_iff_ne.2 (by omega)
      repeat' (first | refine cs ?_ | refine ss ?_ | (((with_reducible apply Q_box); (focus (exact rfl)); (focus (exact rfl)); (focus (exact rfl))); intro bx) | (((with_reducible apply Q_alloc tab); (focus (exact rfl)); (focus (exact rfl)); (focus (exact rfl))); intro bx) | refine S_do (by kernel_rfl) (A_storeN tab rfl rfl rfl rfl rfl rfl rfl (by ((repeat (first | exact InB.head | apply InB.tail | (with_reducible apply InB.app))); done)) (by exact rfl) (by ((repeat (first | exact SetB.head | apply SetB.tail | (with_reducible apply SetB.app))); done)) ⟨Le.refl _, (by (repeat (first | exact trivial | (apply And.intro; (focus (first | (apply Or.inr; (try dsimp only); ((repeat (first | exact InB.head | apply InB.tail | (with_reducible apply InB.app))); done)) | (apply Or.inl; kernel_rfl))))))), ?_⟩))
      refine Q_op fun ho' => A_callR [] _ ho' bod9 rfl rfl rfl rfl rfl split0 (net_x (ho.le (union_le _ _))) (fun r β' hR => ?_)
      clear ho'
      obtain ⟨an, cn, rfl, hSn⟩ := hR
      have hnet' : (netsOf o.ds).take o.n = D := by rw [hon]; exact hnet
      rw [hnet'] at hSn
      refine Q_retire (β1 := β' ++ [(b13, c, 3)]) (β2 := [(b11, List.toArray [.slice o.ap o.n o.cp, .slice o.ad o.ds.length o.cd], 38), (b4, (Value.agg (List.toArray [natV m.P, .slice m.a m.dawn.length m.cap])).cells, 26)]) cntA fun hbk => ?_
      obtain ⟨v1, hv1⟩ : ∃ v1, v1 = u.union (bview (β' ++ [(b13, c, 3)])) := ⟨_, rfl⟩
      have hle1 : u.Le v1 := by rw [hv1]; exact union_le _ _
      have hr1 : RowAt v1 an (D.map intV) := by rw [hv1]; exact RowAt.own hbk cntL hSn
      have hr2 : RowAt v1 (some ⟨b13, 0, none⟩) (D.map intV) := by rw [hv1]; exact hD.row (union_box hbk (by ((repeat (first | exact InB.head | apply InB.tail | (with_reducible apply InB.app))); done)))
      rw [← hv1]
      repeat' (first | refine cs ?_ | refine ss ?_ | (((with_reducible apply Q_box); (focus (exact rfl)); (focus (exact rfl)); (focus (exact rfl))); intro bx) | (((with_reducible apply Q_alloc tab); (focus (exact rfl)); (focus (exact rfl)); (focus (exact rfl))); intro bx) | refine S_do (by kernel_rfl) (A_storeN tab rfl rfl rfl rfl rfl rfl rfl (by ((repeat (first | exact InB.head | apply InB.tail | (with_reducible apply InB.app))); done)) (by exact rfl) (by ((repeat (first | exact SetB.head | apply SetB.tail | (with_reducible apply SetB.app))); done)) ⟨Le.refl _, (by (repeat (first | exact trivial | (apply And.intro; (focus (first | (apply Or.inr; (try dsimp only); ((repeat (first | exact InB.head | apply InB.tail | (with_reducible apply InB.app))); done)) | (apply Or.inl; kernel_rfl))))))), ?_⟩))
      refine Q_op fun ho' => A_callR [] _ ho' bod10 rfl rfl rfl rfl rfl split0 (few_x ((ho.le hle1).le (union_le _ _)) hex) (fun r β' hR => ?_)
      clear ho'
      obtain ⟨m', af, cf, hm1, hm2, hm3, rfl, rfl⟩ := hR
      have hzm := hzz m' hm1 hm2 hm3
      rw [hon]
      repeat' (first | refine cs ?_ | refine ss ?_ | (((with_reducible apply Q_box); (focus (exact rfl)); (focus (exact rfl)); (focus (exact rfl))); intro bx) | (((with_reducible apply Q_alloc tab); (focus (exact rfl)); (focus (exact rfl)); (focus (exact rfl))); intro bx) | refine S_do (by kernel_rfl) (A_storeN tab rfl rfl rfl rfl rfl rfl rfl (by ((repeat (first | exact InB.head | apply InB.tail | (with_reducible apply InB.app))); done)) (by exact rfl) (by ((repeat (first | exact SetB.head | apply SetB.tail | (with_reducible apply SetB.app))); done)) ⟨Le.refl _, (by (repeat (first | exact trivial | (apply And.intro; (focus (first | (apply Or.inr; (try dsimp only); ((repeat (first | exact InB.head | apply InB.tail | (with_reducible apply InB.app))); done)) | (apply Or.inl; kernel_rfl))))))), ?_⟩))
      refine Q_op fun ho' => A_callR [] _ ho' bod11 rfl rfl rfl rfl rfl split0 (sameI_x (xs := D) (hr1.le (union_le _ _)) (hr2.le (union_le _ _)) (by omega) hDl) (fun r β' hR => ?_)
      clear ho'
      obtain ⟨rfl, rfl⟩ := hR
      repeat' (first | refine cs ?_ | refine ss ?_ | (((with_reducible apply Q_box); (focus (exact rfl)); (focus (exact rfl)); (focus (exact rfl))); intro bx) | (((with_reducible apply Q_alloc tab); (focus (exact rfl)); (focus (exact rfl)); (focus (exact rfl))); intro bx) | refine S_do (by kernel_rfl) (A_storeN tab rfl rfl rfl rfl rfl rfl rfl (by ((repeat (first | exact InB.head | apply InB.tail | (with_reducible apply InB.app))); done)) (by exact rfl) (by ((repeat (first | exact SetB.head | apply SetB.tail | (with_reducible apply SetB.app))); done)) ⟨Le.refl _, (by (repeat (first | exact trivial | (apply And.intro; (focus (first | (apply Or.inr; (try dsimp only); ((repeat (first | exact InB.head | apply InB.tail | (with_reducible apply InB.app))); done)) | (apply Or.inl; kernel_rfl))))))), ?_⟩))
      rw [show (((m' : Int) == 0) == zeroL D) = true from by
        rw [beq_iff_eq, ← hzm, Bool.eq_iff_iff, beq_iff_eq, beq_iff_eq]; omega]
      repeat' (first | refine cs ?_ | refine ss ?_ | (((with_reducible apply Q_box); (focus (exact rfl)); (focus (exact rfl)); (focus (exact rfl))); intro bx) | (((with_reducible apply Q_alloc tab); (focus (exact rfl)); (focus (exact rfl)); (focus (exact rfl))); intro bx) | refine S_do (by kernel_rfl) (A_storeN tab rfl rfl rfl rfl rfl rfl rfl (by ((repeat (first | exact InB.head | apply InB.tail | (with_reducible apply InB.app))); done)) (by exact rfl) (by ((repeat (first | exact SetB.head | apply SetB.tail | (with_reducible apply SetB.app))); done)) ⟨Le.refl _, (by (repeat (first | exact trivial | (apply And.intro; (focus (first | (apply Or.inr; (try dsimp only); ((repeat (first | exact InB.head | apply InB.tail | (with_reducible apply InB.app))); done)) | (apply Or.inl; kernel_rfl))))))), ?_⟩))
      refine Q_op fun ho' => A_callR [] _ ho' bod12 rfl rfl rfl rfl rfl split0 awake_x (fun r β' hR => ?_)
      clear ho'
      obtain ⟨rfl, rfl⟩ := hR
      repeat' (first | refine cs ?_ | refine ss ?_ | (((with_reducible apply Q_box); (focus (exact rfl)); (focus (exact rfl)); (focus (exact rfl))); intro bx) | (((with_reducible apply Q_alloc tab); (focus (exact rfl)); (focus (exact rfl)); (focus (exact rfl))); intro bx) | refine S_do (by kernel_rfl) (A_storeN tab rfl rfl rfl rfl rfl rfl rfl (by ((repeat (first | exact InB.head | apply InB.tail | (with_reducible apply InB.app))); done)) (by exact rfl) (by ((repeat (first | exact SetB.head | apply SetB.tail | (with_reducible apply SetB.app))); done)) ⟨Le.refl _, (by (repeat (first | exact trivial | (apply And.intro; (focus (first | (apply Or.inr; (try dsimp only); ((repeat (first | exact InB.head | apply InB.tail | (with_reducible apply InB.app))); done)) | (apply Or.inl; kernel_rfl))))))), ?_⟩))
      exact ⟨rfl, rfl, rfl⟩
    · repeat' (first | refine cs ?_ | refine ss ?_ | (((with_reducible apply Q_box); (focus (exact rfl)); (focus (exact rfl)); (focus (exact rfl))); intro bx) | (((with_reducible apply Q_alloc tab); (focus (exact rfl)); (focus (exact rfl)); (focus (exact rfl))); intro bx) | refine S_do (by kernel_rfl) (A_storeN tab rfl rfl rfl rfl rfl rfl rfl (by ((repeat (first | exact InB.head | apply InB.tail | (with_reducible apply InB.app))); done)) (by exact rfl) (by ((repeat (first | exact SetB.head | apply SetB.tail | (with_reducible apply SetB.app))); done)) ⟨Le.refl _, (by (repeat (first | exact trivial | (apply And.intro; (focus (first | (apply Or.inr; (try dsimp only); ((repeat (first | exact InB.head | apply InB.tail | (with_reducible apply InB.app))); done)) | (apply Or.inl; kernel_rfl))))))), ?_⟩))
      refine C_loop (α := Nat) (fun p => ⟨[], [(16, .int .i64 p), (14, .bool (zeroL (D.take p))), (13, .slice (some ⟨b13, 0, none⟩) m.P m.P), (11, .pointer (some ⟨b11, 0, none⟩)), (4, .pointer (some ⟨b4, 0, none⟩))], [(b13, c, 3), (b11, List.toArray [.slice o.ap o.n o.cp, .slice o.ad o.ds.length o.cd], 38), (b4, (Value.agg (List.toArray [natV m.P, .slice m.a m.dawn.length m.cap])).cells, 26)]⟩)
        (fun p u => u = w ∧ p ≤ m.P) (fun p => m.P - p) 0 ⟨rfl, (by (repeat (first | exact trivial | refine ⟨rfl, ?_⟩))), cntL⟩ (Le.refl _) ⟨rfl, Nat.zero_le _⟩ ?_
      rintro p u ⟨rfl, hp⟩
      repeat' (first | refine cs ?_ | refine ss ?_ | (((with_reducible apply Q_box); (focus (exact rfl)); (focus (exact rfl)); (focus (exact rfl))); intro bx) | (((with_reducible apply Q_alloc tab); (focus (exact rfl)); (focus (exact rfl)); (focus (exact rfl))); intro bx) | refine S_do (by kernel_rfl) (A_storeN tab rfl rfl rfl rfl rfl rfl rfl (by ((repeat (first | exact InB.head | apply InB.tail | (with_reducible apply InB.app))); done)) (by exact rfl) (by ((repeat (first | exact SetB.head | apply SetB.tail | (with_reducible apply SetB.app))); done)) ⟨Le.refl _, (by (repeat (first | exact trivial | (apply And.intro; (focus (first | (apply Or.inr; (try dsimp only); ((repeat (first | exact InB.head | apply InB.tail | (with_reducible apply InB.app))); done)) | (apply Or.inl; kernel_rfl))))))), ?_⟩))
      refine XC_cond rfl (fun h => ?_) (fun h => ?_)
      · (simp only [decide_eq_true_eq, decide_eq_false_iff_not, beq_iff_eq, bne_iff_ne, Bool.not_eq_true', beq_eq_false_iff_ne, bne_eq_false_iff_eq, ne_eq] at h)
        have hlt : p < m.P := by omega
        clear h
        have htk : zeroL (D.take (p + 1)) = (zeroL (D.take p) && (gat D p == 0)) := by
          rw [List.take_succ_eq_append_getElem (by omega)]
          have : gat D p = D[p]'(by omega) := by unfold gat; rw [List.getD_eq_getElem?_getD, List.getElem?_eq_getElem (by omega)]; rfl
          rw [this]
          unfold zeroL
          rw [List.all_append]; simp
        repeat' (first | refine cs ?_ | refine ss ?_ | (((with_reducible apply Q_box); (focus (exact rfl)); (focus (exact rfl)); (focus (exact rfl))); intro bx) | (((with_reducible apply Q_alloc tab); (focus (exact rfl)); (focus (exact rfl)); (focus (exact rfl))); intro bx) | refine S_do (by kernel_rfl) (A_storeN tab rfl rfl rfl rfl rfl rfl rfl (by ((repeat (first | exact InB.head | apply InB.tail | (with_reducible apply InB.app))); done)) (by exact rfl) (by ((repeat (first | exact SetB.head | apply SetB.tail | (with_reducible apply SetB.app))); done)) ⟨Le.refl _, (by (repeat (first | exact trivial | (apply And.intro; (focus (first | (apply Or.inr; (try dsimp only); ((repeat (first | exact InB.head | apply InB.tail | (with_reducible apply InB.app))); done)) | (apply Or.inl; kernel_rfl))))))), ?_⟩))
        cases hz : zeroL (D.take p) with
        | false =>
          repeat' (first | refine cs ?_ | refine ss ?_ | (((with_reducible apply Q_box); (focus (exact rfl)); (focus (exact rfl)); (focus (exact rfl))); intro bx) | (((with_reducible apply Q_alloc tab); (focus (exact rfl)); (focus (exact rfl)); (focus (exact rfl))); intro bx) | refine S_do (by kernel_rfl) (A_storeN tab rfl rfl rfl rfl rfl rfl rfl (by ((repeat (first | exact InB.head | apply InB.tail | (with_reducible apply InB.app))); done)) (by exact rfl) (by ((repeat (first | exact SetB.head | apply SetB.tail | (with_reducible apply SetB.app))); done)) ⟨Le.refl _, (by (repeat (first | exact trivial | (apply And.intro; (focus (first | (apply Or.inr; (try dsimp only); ((repeat (first | exact InB.head | apply InB.tail | (with_reducible apply InB.app))); done)) | (apply Or.inl; kernel_rfl))))))), ?_⟩))
          exact Loop_normal ⟨p + 1, u, by omega, ⟨rfl, (by rw [htk, hz]; (repeat (first | exact trivial | refine ⟨rfl, ?_⟩))), cntL⟩, Le.refl _, rfl, hlt⟩
        | true =>
          repeat' (first | refine cs ?_ | refine ss ?_ | (((with_reducible apply Q_box); (focus (exact rfl)); (focus (exact rfl)); (focus (exact rfl))); intro bx) | (((with_reducible apply Q_alloc tab); (focus (exact rfl)); (focus (exact rfl)); (focus (exact rfl))); intro bx) | refine S_do (by kernel_rfl) (A_storeN tab rfl rfl rfl rfl rfl rfl rfl (by ((repeat (first | exact InB.head | apply InB.tail | (with_reducible apply InB.app))); done)) (by exact rfl) (by ((repeat (first | exact SetB.head | apply SetB.tail | (with_reducible apply SetB.app))); done)) ⟨Le.refl _, (by (repeat (first | exact trivial | (apply And.intro; (focus (first | (apply Or.inr; (try dsimp only); ((repeat (first | exact InB.head | apply InB.tail | (with_reducible apply InB.app))); done)) | (apply Or.inl; kernel_rfl))))))), ?_⟩))
          refine Q_elem tab p rfl rfl rfl rfl rfl rfl rfl hlt ?_
          refine Q_loadB tab rfl rfl rfl (by ((repeat (first | exact InB.head | apply InB.tail | (with_reducible apply InB.app))); done)) (readB_one tab rfl rfl rfl (hD.rd (by omega))) ?_
          repeat' (first | refine cs ?_ | refine ss ?_ | (((with_reducible apply Q_box); (focus (exact rfl)); (focus (exact rfl)); (focus (exact rfl))); intro bx) | (((with_reducible apply Q_alloc tab); (focus (exact rfl)); (focus (exact rfl)); (focus (exact rfl))); intro bx) | refine S_do (by kernel_rfl) (A_storeN tab rfl rfl rfl rfl rfl rfl rfl (by ((repeat (first | exact InB.head | apply InB.tail | (with_reducible apply InB.app))); done)) (by exact rfl) (by ((repeat (first | exact SetB.head | apply SetB.tail | (with_reducible apply SetB.app))); done)) ⟨Le.refl _, (by (repeat (first | exact trivial | (apply And.intro; (focus (first | (apply Or.inr; (try dsimp only); ((repeat (first | exact InB.head | apply InB.tail | (with_reducible apply InB.app))); done)) | (apply Or.inl; kernel_rfl))))))), ?_⟩))
          exact Loop_normal ⟨p + 1, u, by omega, ⟨rfl, (by rw [htk, hz]; (repeat (first | exact trivial | refine ⟨rfl, ?_⟩))), cntL⟩, Le.refl _, rfl, hlt⟩
      · (simp only [decide_eq_true_eq, decide_eq_false_iff_not, beq_iff_eq, bne_iff_ne, Bool.not_eq_true', beq_eq_false_iff_ne, bne_eq_false_iff_eq, ne_eq] at h)
        have hpe : p = m.P := by omega
        subst hpe
        rw [show D.take m.P = D from by rw [← hDl, List.take_length]]
        repeat' (first | refine cs ?_ | refine ss ?_ | (((with_reducible apply Q_box); (focus (exact rfl)); (focus (exact rfl)); (focus (exact rfl))); intro bx) | (((with_reducible apply Q_alloc tab); (focus (exact rfl)); (focus (exact rfl)); (focus (exact rfl))); intro bx) | refine S_do (by kernel_rfl) (A_storeN tab rfl rfl rfl rfl rfl rfl rfl (by ((repeat (first | exact InB.head | apply InB.tail | (with_reducible apply InB.app))); done)) (by exact rfl) (by ((repeat (first | exact SetB.head | apply SetB.tail | (with_reducible apply SetB.app))); done)) ⟨Le.refl _, (by (repeat (first | exact trivial | (apply And.intro; (focus (first | (apply Or.inr; (try dsimp only); ((repeat (first | exact InB.head | apply InB.tail | (with_reducible apply InB.app))); done)) | (apply Or.inl; kernel_rfl))))))), ?_⟩))
        exact Loop_normal ⟨_, _, ⟨rfl, rfl⟩, ⟨rfl, (by (repeat (first | exact trivial | refine ⟨rfl, ?_⟩))), cntL⟩, Le.refl _⟩
  · repeat' (first | refine cs ?_ | refine ss ?_ | (((with_reducible apply Q_box); (focus (exact rfl)); (focus (exact rfl)); (focus (exact rfl))); intro bx) | (((with_reducible apply Q_alloc tab); (focus (exact rfl)); (focus (exact rfl)); (focus (exact rfl))); intro bx) | refine S_do (by kernel_rfl) (A_storeN tab rfl rfl rfl rfl rfl rfl rfl (by ((repeat (first | exact InB.head | apply InB.tail | (with_reducible apply InB.app))); done)) (by exact rfl) (by ((repeat (first | exact SetB.head | apply SetB.tail | (with_reducible apply SetB.app))); done)) ⟨Le.refl _, (by (repeat (first | exact trivial | (apply And.intro; (focus (first | (apply Or.inr; (try dsimp only); ((repeat (first | exact InB.head | apply InB.tail | (with_reducible apply InB.app))); done)) | (apply Or.inl; kernel_rfl))))))), ?_⟩))
    refine C_loop (α := Nat × Array Value) (fun z => ⟨[], [(15, .int .i64 z.1), (14, .bool true), (13, .slice (some ⟨b13, 0, none⟩) m.P m.P), (11, .pointer (some ⟨b11, 0, none⟩)), (9, .slice ad dk.length cd), (6, .slice ap prs.length cp), (4, .pointer (some ⟨b4, 0, none⟩))], [(b13, z.2, 3), (b11, List.toArray [.slice o.ap o.n o.cp, .slice o.ad o.ds.length o.cd], 38), (b4, (Value.agg (List.toArray [natV m.P, .slice m.a m.dawn.length m.cap])).cells, 26)]⟩)
      (fun z w => w = v ∧ z.1 ≤ m.dawn.length ∧ DueB z.2 (dueOf prs m.dawn dk m.P z.1)) (fun z => m.dawn.length - z.1) (0, c13) ⟨rfl, (by (repeat (first | exact trivial | refine ⟨rfl, ?_⟩))), cntL⟩ (Le.refl _) ⟨rfl, Nat.zero_le _, hdue0⟩ ?_
    rintro ⟨h, c⟩ w ⟨rfl, hh, hD⟩
    simp only at hh hD
    dsimp only
    repeat' (first | refine cs ?_ | refine ss ?_ | (((with_reducible apply Q_box); (focus (exact rfl)); (focus (exact rfl)); (focus (exact rfl))); intro bx) | (((with_reducible apply Q_alloc tab); (focus (exact rfl)); (focus (exact rfl)); (focus (exact rfl))); intro bx) | refine S_do (by kernel_rfl) (A_storeN tab rfl rfl rfl rfl rfl rfl rfl (by ((repeat (first | exact InB.head | apply InB.tail | (with_reducible apply InB.app))); done)) (by exact rfl) (by ((repeat (first | exact SetB.head | apply SetB.tail | (with_reducible apply SetB.app))); done)) ⟨Le.refl _, (by (repeat (first | exact trivial | (apply And.intro; (focus (first | (apply Or.inr; (try dsimp only); ((repeat (first | exact InB.head | apply InB.tail | (with_reducible apply InB.app))); done)) | (apply Or.inl; kernel_rfl))))))), ?_⟩))
    by_cases hlt : h < m.dawn.length
    · rw [show decide ((h : Int) < (dk.length : Int)) = true from decide_eq_true (by omega)]
      obtain ⟨bd, offd, pd, cd2, ed, fd, rfl, hvd, hcd⟩ := hrd.get (show h < dk.length by omega)
      obtain ⟨bp, offp, pp, cp2, ep, fp, rfl, hvp, hcp⟩ := hrp.get (show h < prs.length by omega)
      obtain ⟨bm, offm, pm, cm2, em, fm, hma2, hvm, hcm⟩ := hm.row.get hlt
      have hcd' := hcd h (by omega)
      have hcp' := hcp h (by omega)
      have hcm' := hcm h hlt
      have hsm := dueOf_sm (prs := prs) (fun h hh => hpr h (by omega)) hm.all hdP hdl h hh
      have hp := hpr h (by omega)
      have hDl := dueOf_len prs m.dawn dk m.P h
      have hstep : dueOf prs m.dawn dk m.P (h + 1) = addAt (addAt (dueOf prs m.dawn dk m.P h) m.dawn[h] (gat prs h)) (dk[h]'(by omega)) (-gat prs h) := by
        have e1 : m.dawn.getD h 0 = m.dawn[h] := by rw [List.getD_eq_getElem?_getD, List.getElem?_eq_getElem hlt]; rfl
        have e2 : dk.getD h 0 = dk[h]'(by omega) := by rw [List.getD_eq_getElem?_getD, List.getElem?_eq_getElem (by omega)]; rfl
        rw [← e1, ← e2]; rfl
      have e3 : prs[h]'(by omega) = gat prs h := by unfold gat; rw [List.getD_eq_getElem?_getD, List.getElem?_eq_getElem (by omega)]; rfl
      rw [e3] at hcp'
      have hk1 := hm.all _ (List.getElem_mem hlt)
      have hk2 := hdP _ (List.getElem_mem (show h < dk.length by omega))
      generalize gat prs h = pr at *
      generalize m.dawn[h] = dh at *
      generalize dk[h]'(by omega) = kh at *
      generalize dueOf prs m.dawn dk m.P h = D at *
      rw [hma2]
      repeat' (first | refine cs ?_ | refine ss ?_ | (((with_reducible apply Q_box); (focus (exact rfl)); (focus (exact rfl)); (focus (exact rfl))); intro bx) | (((with_reducible apply Q_alloc tab); (focus (exact rfl)); (focus (exact rfl)); (focus (exact rfl))); intro bx) | refine S_do (by kernel_rfl) (A_storeN tab rfl rfl rfl rfl rfl rfl rfl (by ((repeat (first | exact InB.head | apply InB.tail | (with_reducible apply InB.app))); done)) (by exact rfl) (by ((repeat (first | exact SetB.head | apply SetB.tail | (with_reducible apply SetB.app))); done)) ⟨Le.refl _, (by (repeat (first | exact trivial | (apply And.intro; (focus (first | (apply Or.inr; (try dsimp only); ((repeat (first | exact InB.head | apply InB.tail | (with_reducible apply InB.app))); done)) | (apply Or.inl; kernel_rfl))))))), ?_⟩))
      refine L_elem tab h rfl rfl rfl rfl rfl rfl rfl (by omega) ?_
      refine L_load tab rfl rfl rfl hvd (readB_one tab rfl rfl rfl (by rw [Nat.mul_one]; exact hcd')) ?_
      repeat' (first | refine cs ?_ | refine ss ?_ | (((with_reducible apply Q_box); (focus (exact rfl)); (focus (exact rfl)); (focus (exact rfl))); intro bx) | (((with_reducible apply Q_alloc tab); (focus (exact rfl)); (focus (exact rfl)); (focus (exact rfl))); intro bx) | refine S_do (by kernel_rfl) (A_storeN tab rfl rfl rfl rfl rfl rfl rfl (by ((repeat (first | exact InB.head | apply InB.tail | (with_reducible apply InB.app))); done)) (by exact rfl) (by ((repeat (first | exact SetB.head | apply SetB.tail | (with_reducible apply SetB.app))); done)) ⟨Le.refl _, (by (repeat (first | exact trivial | (apply And.intro; (focus (first | (apply Or.inr; (try dsimp only); ((repeat (first | exact InB.head | apply InB.tail | (with_reducible apply InB.app))); done)) | (apply Or.inl; kernel_rfl))))))), ?_⟩))
      rw [show decide ((kh : Int) < 0) = false from decide_eq_false (by omega)]
      repeat' (first | refine cs ?_ | refine ss ?_ | (((with_reducible apply Q_box); (focus (exact rfl)); (focus (exact rfl)); (focus (exact rfl))); intro bx) | (((with_reducible apply Q_alloc tab); (focus (exact rfl)); (focus (exact rfl)); (focus (exact rfl))); intro bx) | refine S_do (by kernel_rfl) (A_storeN tab rfl rfl rfl rfl rfl rfl rfl (by ((repeat (first | exact InB.head | apply InB.tail | (with_reducible apply InB.app))); done)) (by exact rfl) (by ((repeat (first | exact SetB.head | apply SetB.tail | (with_reducible apply SetB.app))); done)) ⟨Le.refl _, (by (repeat (first | exact trivial | (apply And.intro; (focus (first | (apply Or.inr; (try dsimp only); ((repeat (first | exact InB.head | apply InB.tail | (with_reducible apply InB.app))); done)) | (apply Or.inl; kernel_rfl))))))), ?_⟩))
      refine L_elem tab h rfl rfl rfl rfl rfl rfl rfl (by omega) ?_
      refine L_load tab rfl rfl rfl hvd (readB_one tab rfl rfl rfl (by rw [Nat.mul_one]; exact hcd')) ?_
      repeat' (first | refine cs ?_ | refine ss ?_ | (((with_reducible apply Q_box); (focus (exact rfl)); (focus (exact rfl)); (focus (exact rfl))); intro bx) | (((with_reducible apply Q_alloc tab); (focus (exact rfl)); (focus (exact rfl)); (focus (exact rfl))); intro bx) | refine S_do (by kernel_rfl) (A_storeN tab rfl rfl rfl rfl rfl rfl rfl (by ((repeat (first | exact InB.head | apply InB.tail | (with_reducible apply InB.app))); done)) (by exact rfl) (by ((repeat (first | exact SetB.head | apply SetB.tail | (with_reducible apply SetB.app))); done)) ⟨Le.refl _, (by (repeat (first | exact trivial | (apply And.intro; (focus (first | (apply Or.inr; (try dsimp only); ((repeat (first | exact InB.head | apply InB.tail | (with_reducible apply InB.app))); done)) | (apply Or.inl; kernel_rfl))))))), ?_⟩))
      rw [show decide ((kh : Int) ≥ (m.P : Int)) = false from decide_eq_false (by omega)]
      have hs1 := hsm dh
      have hsm2 : Sm (18 * h + 9) (addAt D dh pr) := hsm.add (by omega) (by omega)
      have hs2 := hsm2 kh
      have hD2 := hD.wr (j := dh) (by omega) (gat D dh + pr)
      have hDl2 : (addAt D dh pr).length = m.P := by rw [addAt_len]; exact hDl
      repeat' (first | refine cs ?_ | refine ss ?_ | (((with_reducible apply Q_box); (focus (exact rfl)); (focus (exact rfl)); (focus (exact rfl))); intro bx) | (((with_reducible apply Q_alloc tab); (focus (exact rfl)); (focus (exact rfl)); (focus (exact rfl))); intro bx) | refine S_do (by kernel_rfl) (A_storeN tab rfl rfl rfl rfl rfl rfl rfl (by ((repeat (first | exact InB.head | apply InB.tail | (with_reducible apply InB.app))); done)) (by exact rfl) (by ((repeat (first | exact SetB.head | apply SetB.tail | (with_reducible apply SetB.app))); done)) ⟨Le.refl _, (by (repeat (first | exact trivial | (apply And.intro; (focus (first | (apply Or.inr; (try dsimp only); ((repeat (first | exact InB.head | apply InB.tail | (with_reducible apply InB.app))); done)) | (apply Or.inl; kernel_rfl))))))), ?_⟩))
      refine C_draw [20] [0, 1, 2, 3, 4, 5, 6, 7, 8, 9, 10, 11, 12, 13, 14, 15, 16, 17, 18, 19, 20] mixed rfl (by kernel_rfl) ?_
      repeat' (first | refine cs ?_ | refine ss ?_ | (((with_reducible apply Q_box); (focus (exact rfl)); (focus (exact rfl)); (focus (exact rfl))); intro bx) | (((with_reducible apply Q_alloc tab); (focus (exact rfl)); (focus (exact rfl)); (focus (exact rfl))); intro bx) | refine S_do (by kernel_rfl) (A_storeN tab rfl rfl rfl rfl rfl rfl rfl (by ((repeat (first | exact InB.head | apply InB.tail | (with_reducible apply InB.app))); done)) (by exact rfl) (by ((repeat (first | exact SetB.head | apply SetB.tail | (with_reducible apply SetB.app))); done)) ⟨Le.refl _, (by (repeat (first | exact trivial | (apply And.intro; (focus (first | (apply Or.inr; (try dsimp only); ((repeat (first | exact InB.head | apply InB.tail | (with_reducible apply InB.app))); done)) | (apply Or.inl; kernel_rfl))))))), ?_⟩))
      refine S_elem tab h rfl rfl rfl (by kernel_rfl) rfl rfl rfl rfl rfl hlt ?_
      refine S_load tab rfl rfl rfl (by kernel_rfl) rfl hvm (readB_one tab rfl rfl rfl (by rw [Nat.mul_one]; exact hcm')) ?_
      repeat' (first | refine cs ?_ | refine ss ?_ | (((with_reducible apply Q_box); (focus (exact rfl)); (focus (exact rfl)); (focus (exact rfl))); intro bx) | (((with_reducible apply Q_alloc tab); (focus (exact rfl)); (focus (exact rfl)); (focus (exact rfl))); intro bx) | refine S_do (by kernel_rfl) (A_storeN tab rfl rfl rfl rfl rfl rfl rfl (by ((repeat (first | exact InB.head | apply InB.tail | (with_reducible apply InB.app))); done)) (by exact rfl) (by ((repeat (first | exact SetB.head | apply SetB.tail | (with_reducible apply SetB.app))); done)) ⟨Le.refl _, (by (repeat (first | exact trivial | (apply And.intro; (focus (first | (apply Or.inr; (try dsimp only); ((repeat (first | exact InB.head | apply InB.tail | (with_reducible apply InB.app))); done)) | (apply Or.inl; kernel_rfl))))))), ?_⟩))
      refine S_elem tab h rfl rfl rfl (by kernel_rfl) rfl rfl rfl rfl rfl hlt ?_
      refine S_load tab rfl rfl rfl (by kernel_rfl) rfl hvm (readB_one tab rfl rfl rfl (by rw [Nat.mul_one]; exact hcm')) ?_
      repeat' (first | refine cs ?_ | refine ss ?_ | (((with_reducible apply Q_box); (focus (exact rfl)); (focus (exact rfl)); (focus (exact rfl))); intro bx) | (((with_reducible apply Q_alloc tab); (focus (exact rfl)); (focus (exact rfl)); (focus (exact rfl))); intro bx) | refine S_do (by kernel_rfl) (A_storeN tab rfl rfl rfl rfl rfl rfl rfl (by ((repeat (first | exact InB.head | apply InB.tail | (with_reducible apply InB.app))); done)) (by exact rfl) (by ((repeat (first | exact SetB.head | apply SetB.tail | (with_reducible apply SetB.app))); done)) ⟨Le.refl _, (by (repeat (first | exact trivial | (apply And.intro; (focus (first | (apply Or.inr; (try dsimp only); ((repeat (first | exact InB.head | apply InB.tail | (with_reducible apply InB.app))); done)) | (apply Or.inl; kernel_rfl))))))), ?_⟩))
      refine S_elem tab dh rfl rfl rfl (by kernel_rfl) rfl rfl rfl rfl rfl (by omega) ?_
      refine S_loadB tab rfl rfl rfl (by kernel_rfl) rfl (by ((repeat (first | exact InB.head | apply InB.tail | (with_reducible apply InB.app))); done)) (readB_one tab rfl rfl rfl (hD.rd (by omega))) ?_
      repeat' (first | refine cs ?_ | refine ss ?_ | (((with_reducible apply Q_box); (focus (exact rfl)); (focus (exact rfl)); (focus (exact rfl))); intro bx) | (((with_reducible apply Q_alloc tab); (focus (exact rfl)); (focus (exact rfl)); (focus (exact rfl))); intro bx) | refine S_do (by kernel_rfl) (A_storeN tab rfl rfl rfl rfl rfl rfl rfl (by ((repeat (first | exact InB.head | apply InB.tail | (with_reducible apply InB.app))); done)) (by exact rfl) (by ((repeat (first | exact SetB.head | apply SetB.tail | (with_reducible apply SetB.app))); done)) ⟨Le.refl _, (by (repeat (first | exact trivial | (apply And.intro; (focus (first | (apply Or.inr; (try dsimp only); ((repeat (first | exact InB.head | apply InB.tail | (with_reducible apply InB.app))); done)) | (apply Or.inl; kernel_rfl))))))), ?_⟩))
      refine S_elem tab h rfl rfl rfl (by kernel_rfl) rfl rfl rfl rfl rfl (by omega) ?_
      refine S_load tab rfl rfl rfl (by kernel_rfl) rfl hvp (readB_one tab rfl rfl rfl (by rw [Nat.mul_one]; exact hcp')) ?_
      repeat (refine ss ?_)
      refine S_elem tab dh rfl rfl rfl (by kernel_rfl) rfl rfl rfl rfl rfl (by omega) ?_
      refine S_do (by kernel_rfl) (A_store tab (c := c) (x := intV (gat D dh + pr)) rfl rfl rfl rfl rfl rfl rfl (by ((repeat (first | exact InB.head | apply InB.tail | (with_reducible apply InB.app))); done)) (Nat.ble_eq_true_of_le (by rw [hD.size]; show 0 + dh * 1 + 1 ≤ _; omega)) (by ((repeat (first | exact SetB.head | apply SetB.tail | (with_reducible apply SetB.app))); done)) ⟨Le.refl _, (by (repeat (first | exact trivial | (apply And.intro; (focus (first | (apply Or.inr; (try dsimp only); ((repeat (first | exact InB.head | apply InB.tail | (with_reducible apply InB.app))); done)) | (apply Or.inl; kernel_rfl))))))), ?_⟩)
      repeat' (first | refine cs ?_ | refine ss ?_ | (((with_reducible apply Q_box); (focus (exact rfl)); (focus (exact rfl)); (focus (exact rfl))); intro bx) | (((with_reducible apply Q_alloc tab); (focus (exact rfl)); (focus (exact rfl)); (focus (exact rfl))); intro bx) | refine S_do (by kernel_rfl) (A_storeN tab rfl rfl rfl rfl rfl rfl rfl (by ((repeat (first | exact InB.head | apply InB.tail | (with_reducible apply InB.app))); done)) (by exact rfl) (by ((repeat (first | exact SetB.head | apply SetB.tail | (with_reducible apply SetB.app))); done)) ⟨Le.refl _, (by (repeat (first | exact trivial | (apply And.intro; (focus (first | (apply Or.inr; (try dsimp only); ((repeat (first | exact InB.head | apply InB.tail | (with_reducible apply InB.app))); done)) | (apply Or.inl; kernel_rfl))))))), ?_⟩))
      change XC _ _ _ _ _ _ ⟨_, _, [(b13, writeB c (0 + dh * 1) (intV (gat D dh + pr)).cells.toList, 3), (b11, List.toArray [.slice o.ap o.n o.cp, .slice o.ad o.ds.length o.cd], 38), (b4, (Value.agg (List.toArray [natV m.P, .slice (some ⟨bm, offm, none⟩) m.dawn.length m.cap])).cells, 26)]⟩ _
      generalize writeB c (0 + dh * 1) (intV (gat D dh + pr)).cells.toList = c2 at *
      refine C_draw [18] [0, 1, 2, 3, 4, 5, 6, 7, 8, 9, 10, 11, 12, 13, 14, 15, 16, 17, 18] mixed rfl (by kernel_rfl) ?_
      repeat' (first | refine cs ?_ | refine ss ?_ | (((with_reducible apply Q_box); (focus (exact rfl)); (focus (exact rfl)); (focus (exact rfl))); intro bx) | (((with_reducible apply Q_alloc tab); (focus (exact rfl)); (focus (exact rfl)); (focus (exact rfl))); intro bx) | refine S_do (by kernel_rfl) (A_storeN tab rfl rfl rfl rfl rfl rfl rfl (by ((repeat (first | exact InB.head | apply InB.tail | (with_reducible apply InB.app))); done)) (by exact rfl) (by ((repeat (first | exact SetB.head | apply SetB.tail | (with_reducible apply SetB.app))); done)) ⟨Le.refl _, (by (repeat (first | exact trivial | (apply And.intro; (focus (first | (apply Or.inr; (try dsimp only); ((repeat (first | exact InB.head | apply InB.tail | (with_reducible apply InB.app))); done)) | (apply Or.inl; kernel_rfl))))))), ?_⟩))
      replace hD2 : DueB c2 (addAt D dh pr) := hD2
      have hD3 := hD2.wr (j := kh) (by omega) (gat (addAt D dh pr) kh - pr)
      refine S_elem tab h rfl rfl rfl (by kernel_rfl) rfl rfl rfl rfl rfl (by omega) ?_
      refine S_load tab rfl rfl rfl (by kernel_rfl) rfl hvd (readB_one tab rfl rfl rfl (by rw [Nat.mul_one]; exact hcd')) ?_
      repeat' (first | refine cs ?_ | refine ss ?_ | (((with_reducible apply Q_box); (focus (exact rfl)); (focus (exact rfl)); (focus (exact rfl))); intro bx) | (((with_reducible apply Q_alloc tab); (focus (exact rfl)); (focus (exact rfl)); (focus (exact rfl))); intro bx) | refine S_do (by kernel_rfl) (A_storeN tab rfl rfl rfl rfl rfl rfl rfl (by ((repeat (first | exact InB.head | apply InB.tail | (with_reducible apply InB.app))); done)) (by exact rfl) (by ((repeat (first | exact SetB.head | apply SetB.tail | (with_reducible apply SetB.app))); done)) ⟨Le.refl _, (by (repeat (first | exact trivial | (apply And.intro; (focus (first | (apply Or.inr; (try dsimp only); ((repeat (first | exact InB.head | apply InB.tail | (with_reducible apply InB.app))); done)) | (apply Or.inl; kernel_rfl))))))), ?_⟩))
      refine S_elem tab h rfl rfl rfl (by kernel_rfl) rfl rfl rfl rfl rfl (by omega) ?_
      refine S_load tab rfl rfl rfl (by kernel_rfl) rfl hvd (readB_one tab rfl rfl rfl (by rw [Nat.mul_one]; exact hcd')) ?_
      repeat' (first | refine cs ?_ | refine ss ?_ | (((with_reducible apply Q_box); (focus (exact rfl)); (focus (exact rfl)); (focus (exact rfl))); intro bx) | (((with_reducible apply Q_alloc tab); (focus (exact rfl)); (focus (exact rfl)); (focus (exact rfl))); intro bx) | refine S_do (by kernel_rfl) (A_storeN tab rfl rfl rfl rfl rfl rfl rfl (by ((repeat (first | exact InB.head | apply InB.tail | (with_reducible apply InB.app))); done)) (by exact rfl) (by ((repeat (first | exact SetB.head | apply SetB.tail | (with_reducible apply SetB.app))); done)) ⟨Le.refl _, (by (repeat (first | exact trivial | (apply And.intro; (focus (first | (apply Or.inr; (try dsimp only); ((repeat (first | exact InB.head | apply InB.tail | (with_reducible apply InB.app))); done)) | (apply Or.inl; kernel_rfl))))))), ?_⟩))
      refine S_elem tab kh rfl rfl rfl (by kernel_rfl) rfl rfl rfl rfl rfl (by omega) ?_
      refine S_loadB tab rfl rfl rfl (by kernel_rfl) rfl (by ((repeat (first | exact InB.head | apply InB.tail | (with_reducible apply InB.app))); done)) (readB_one tab rfl rfl rfl (hD2.rd (by omega))) ?_
      repeat' (first | refine cs ?_ | refine ss ?_ | (((with_reducible apply Q_box); (focus (exact rfl)); (focus (exact rfl)); (focus (exact rfl))); intro bx) | (((with_reducible apply Q_alloc tab); (focus (exact rfl)); (focus (exact rfl)); (focus (exact rfl))); intro bx) | refine S_do (by kernel_rfl) (A_storeN tab rfl rfl rfl rfl rfl rfl rfl (by ((repeat (first | exact InB.head | apply InB.tail | (with_reducible apply InB.app))); done)) (by exact rfl) (by ((repeat (first | exact SetB.head | apply SetB.tail | (with_reducible apply SetB.app))); done)) ⟨Le.refl _, (by (repeat (first | exact trivial | (apply And.intro; (focus (first | (apply Or.inr; (try dsimp only); ((repeat (first | exact InB.head | apply InB.tail | (with_reducible apply InB.app))); done)) | (apply Or.inl; kernel_rfl))))))), ?_⟩))
      refine S_elem tab h rfl rfl rfl (by kernel_rfl) rfl rfl rfl rfl rfl (by omega) ?_
      refine S_load tab rfl rfl rfl (by kernel_rfl) rfl hvp (readB_one tab rfl rfl rfl (by rw [Nat.mul_one]; exact hcp')) ?_
      repeat (refine ss ?_)
      refine S_elem tab kh rfl rfl rfl (by kernel_rfl) rfl rfl rfl rfl rfl (by omega) ?_
      refine S_do (by kernel_rfl) (A_store tab (c := c2) (x := intV (gat (addAt D dh pr) kh - pr)) rfl rfl rfl rfl rfl rfl rfl (by ((repeat (first | exact InB.head | apply InB.tail | (with_reducible apply InB.app))); done)) (Nat.ble_eq_true_of_le (by rw [hD2.size]; show 0 + kh * 1 + 1 ≤ _; omega)) (by ((repeat (first | exact SetB.head | apply SetB.tail | (with_reducible apply SetB.app))); done)) ⟨Le.refl _, (by (repeat (first | exact trivial | (apply And.intro; (focus (first | (apply Or.inr; (try dsimp only); ((repeat (first | exact InB.head | apply InB.tail | (with_reducible apply InB.app))); done)) | (apply Or.inl; kernel_rfl))))))), ?_⟩)
      repeat' (first | refine cs ?_ | refine ss ?_ | (((with_reducible apply Q_box); (focus (exact rfl)); (focus (exact rfl)); (focus (exact rfl))); intro bx) | (((with_reducible apply Q_alloc tab); (focus (exact rfl)); (focus (exact rfl)); (focus (exact rfl))); intro bx) | refine S_do (by kernel_rfl) (A_storeN tab rfl rfl rfl rfl rfl rfl rfl (by ((repeat (first | exact InB.head | apply InB.tail | (with_reducible apply InB.app))); done)) (by exact rfl) (by ((repeat (first | exact SetB.head | apply SetB.tail | (with_reducible apply SetB.app))); done)) ⟨Le.refl _, (by (repeat (first | exact trivial | (apply And.intro; (focus (first | (apply Or.inr; (try dsimp only); ((repeat (first | exact InB.head | apply InB.tail | (with_reducible apply InB.app))); done)) | (apply Or.inl; kernel_rfl))))))), ?_⟩))
      refine Loop_normal ⟨(h + 1, writeB c2 (0 + kh * 1) (intV (gat (addAt D dh pr) kh - pr)).cells.toList), w, by simp only; omega, ⟨rfl, (by (repeat (first | exact trivial | refine ⟨rfl, ?_⟩))), ?_⟩, Le.refl _, rfl, hlt, by simp only [hstep]; exact hD3⟩
      exact fun _ => Nat.le_refl _
    · rw [show decide ((h : Int) < (dk.length : Int)) = false from decide_eq_false (by omega)]
      repeat' (first | refine cs ?_ | refine ss ?_ | (((with_reducible apply Q_box); (focus (exact rfl)); (focus (exact rfl)); (focus (exact rfl))); intro bx) | (((with_reducible apply Q_alloc tab); (focus (exact rfl)); (focus (exact rfl)); (focus (exact rfl))); intro bx) | refine S_do (by kernel_rfl) (A_storeN tab rfl rfl rfl rfl rfl rfl rfl (by ((repeat (first | exact InB.head | apply InB.tail | (with_reducible apply InB.app))); done)) (by exact rfl) (by ((repeat (first | exact SetB.head | apply SetB.tail | (with_reducible apply SetB.app))); done)) ⟨Le.refl _, (by (repeat (first | exact trivial | (apply And.intro; (focus (first | (apply Or.inr; (try dsimp only); ((repeat (first | exact InB.head | apply InB.tail | (with_reducible apply InB.app))); done)) | (apply Or.inl; kernel_rfl))))))), ?_⟩))
      have hhe : h = m.dawn.length := by omega
      subst hhe
      exact Loop_normal ⟨_, _, ⟨rfl, c, hD, rfl⟩, ⟨rfl, (by (repeat (first | exact trivial | refine ⟨rfl, ?_⟩))), cntL⟩, Le.refl _⟩
end
end Go.Proofs.Ytbbaionoibkohaa
end
