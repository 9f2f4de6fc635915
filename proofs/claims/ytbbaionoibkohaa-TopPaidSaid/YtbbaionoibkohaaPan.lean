/- Part 14 of the proof that stands in the last text. -/
import Derived.Test.YtbbaionoibkohaaPam
set_option linter.all false
section
namespace Go.Proofs.Ytbbaionoibkohaa
open Go Go.Pal Go.Conc View
open Go.Proofs.Try
set_option maxHeartbeats 4000000
variable {mn : Who}
theorem ownInts_x {v : View} {a : Option Addr} {cap : Nat} {xs : List Nat} (hx : RowAt v a (xs.map natV)) (hl : xs.length < 2 ^ 30) :
    CallsB Try.prog mn 14 #[.slice a xs.length cap] (RetB fun r β' => ∃ a' cap', r = .slice a' xs.length cap' ∧ OwnS 3 1 β' a' xs.length cap' (xs.map natV)) [] v := by
  refine callsB_fn tab func14 rfl (Nat.le_of_ble_eq_true rfl) (args := [_]) ?_
  repeat' (first | refine cs ?_ | refine ss ?_ | (((with_reducible apply Q_box); (focus (exact rfl)); (focus (exact rfl)); (focus (exact rfl))); intro bx) | (((with_reducible apply Q_alloc tab); (focus (exact rfl)); (focus (exact rfl)); (focus (exact rfl))); intro bx) | refine S_do (by kernel_rfl) (A_storeN tab rfl rfl rfl rfl rfl rfl rfl (by ((repeat (first | exact InB.head | apply InB.tail | (with_reducible apply InB.app))); done)) (by exact rfl) (by ((repeat (first | exact SetB.head | apply SetB.tail | (with_reducible apply SetB.app))); done)) ⟨Le.refl _, (by (repeat (first | exact trivial | (apply And.intro; (focus (first | (apply Or.inr; (try dsimp only); ((repeat (first | exact InB.head | apply InB.tail | (with_reducible apply InB.app))); done)) | (apply Or.inl; kernel_rfl))))))), ?_⟩))
  refine Q_op fun ho => A_lit tab ho rfl rfl rfl rfl rfl rfl rfl rfl rfl (fun b2 c2 hS => ?_)
  repeat' (first | refine cs ?_ | refine ss ?_ | (((with_reducible apply Q_box); (focus (exact rfl)); (focus (exact rfl)); (focus (exact rfl))); intro bx) | (((with_reducible apply Q_alloc tab); (focus (exact rfl)); (focus (exact rfl)); (focus (exact rfl))); intro bx) | refine S_do (by kernel_rfl) (A_storeN tab rfl rfl rfl rfl rfl rfl rfl (by ((repeat (first | exact InB.head | apply InB.tail | (with_reducible apply InB.app))); done)) (by exact rfl) (by ((repeat (first | exact SetB.head | apply SetB.tail | (with_reducible apply SetB.app))); done)) ⟨Le.refl _, (by (repeat (first | exact trivial | (apply And.intro; (focus (first | (apply Or.inr; (try dsimp only); ((repeat (first | exact InB.head | apply InB.tail | (with_reducible apply InB.app))); done)) | (apply Or.inl; kernel_rfl))))))), ?_⟩))
  refine Q_op fun ho => A_append tab (xs := xs.map natV) [(b2, c2, 3)] [] [] ho rfl rfl rfl rfl rfl rfl rfl rfl rfl rfl (fun _ => rfl) hS
    (fun _ => hx.le (union_le _ _)) (by simp) (by simp [List.all_eq_true, natV, oneCell]) (by omega) (by omega) (fun seg a' cap' hS' => ?_)
  repeat' (first | refine cs ?_ | refine ss ?_ | (((with_reducible apply Q_box); (focus (exact rfl)); (focus (exact rfl)); (focus (exact rfl))); intro bx) | (((with_reducible apply Q_alloc tab); (focus (exact rfl)); (focus (exact rfl)); (focus (exact rfl))); intro bx) | refine S_do (by kernel_rfl) (A_storeN tab rfl rfl rfl rfl rfl rfl rfl (by ((repeat (first | exact InB.head | apply InB.tail | (with_reducible apply InB.app))); done)) (by exact rfl) (by ((repeat (first | exact SetB.head | apply SetB.tail | (with_reducible apply SetB.app))); done)) ⟨Le.refl _, (by (repeat (first | exact trivial | (apply And.intro; (focus (first | (apply Or.inr; (try dsimp only); ((repeat (first | exact InB.head | apply InB.tail | (with_reducible apply InB.app))); done)) | (apply Or.inl; kernel_rfl))))))), ?_⟩))
  refine Fn_ret tab seg (by exact .tmp rfl .nil) (Back.here cntL) ?_
  rw [Nat.zero_add] at hS'
  exact ⟨a', cap', by show Value.slice a' (0 + xs.length) cap' = _; rw [Nat.zero_add], hS'⟩
theorem cnt_tail1 (x : Nat × Array Value × TypeId) (l : Boxes) : ∀ p, cnt p (x :: l) = cnt p (l ++ [x]) := fun p => by simp only [cnt_append, cnt_cons, cnt_nil]; omega
theorem cnt_b1 (x y : Nat × Array Value × TypeId) (l : Boxes) : ∀ p, cnt p (x :: (l ++ [y])) = cnt p (l ++ [x, y]) := fun p => by simp only [cnt_append, cnt_cons, cnt_nil]; omega
structure MornS where
  k : Nat
  len : Nat
  dawn : List Nat
  seg : Boxes
  a : Option Addr
  cap : Nat
  n : Nat
  βb : Boxes
theorem mornOf_x {v : View} {g : Bg} {at' : Nat} {β : Boxes} (hr : g.ok v) (hB : g.at at' β) (hat : at' < 2 ^ 60) :
    CallsB Try.prog mn 5 #[g.ptr] (RetB fun r β' => ∃ (m : Mo) (n : Nat) (βb seg : Boxes), r = m.val ∧ β' = βb ++ seg ∧ g.at n βb ∧ n ≤ at' + 5 ∧ OwnS 3 1 seg m.a m.dawn.length m.cap (m.dawn.map natV) ∧
      (2 ≤ m.P ∧ m.P ≤ 4) ∧ (1 ≤ m.dawn.length ∧ m.dawn.length ≤ 3) ∧ ∀ x ∈ m.dawn, x < m.P) β v := by
  refine callsB_fn tab func5 rfl (Nat.le_of_ble_eq_true rfl) (args := [_]) ?_
  repeat' (first | refine cs ?_ | refine ss ?_ | (((with_reducible apply Q_box); (focus (exact rfl)); (focus (exact rfl)); (focus (exact rfl))); intro bx) | (((with_reducible apply Q_alloc tab); (focus (exact rfl)); (focus (exact rfl)); (focus (exact rfl))); intro bx) | refine S_do (by kernel_rfl) (A_storeN tab rfl rfl rfl rfl rfl rfl rfl (by ((repeat (first | exact InB.head | apply InB.tail | (with_reducible apply InB.app))); done)) (by exact rfl) (by ((repeat (first | exact SetB.head | apply SetB.tail | (with_reducible apply SetB.app))); done)) ⟨Le.refl _, (by (repeat (first | exact trivial | (apply And.intro; (focus (first | (apply Or.inr; (try dsimp only); ((repeat (first | exact InB.head | apply InB.tail | (with_reducible apply InB.app))); done)) | (apply Or.inl; kernel_rfl))))))), ?_⟩))
  rename Nat => b2
  refine Q_op fun ho => A_callR β [_] ho bod7 rfl rfl rfl rfl rfl (cnt_tail1 _ _) (among_x (hr.le (union_le _ _)) hB (by omega) 2 4 (by omega) (by omega)) (fun x β' hR => ?_)
  obtain ⟨⟨P, rfl, hP⟩, hB⟩ := hR
  repeat' (first | refine cs ?_ | refine ss ?_ | (((with_reducible apply Q_box); (focus (exact rfl)); (focus (exact rfl)); (focus (exact rfl))); intro bx) | (((with_reducible apply Q_alloc tab); (focus (exact rfl)); (focus (exact rfl)); (focus (exact rfl))); intro bx) | refine S_do (by kernel_rfl) (A_storeN tab rfl rfl rfl rfl rfl rfl rfl (by ((repeat (first | exact InB.head | apply InB.tail | (with_reducible apply InB.app))); done)) (by exact rfl) (by ((repeat (first | exact SetB.head | apply SetB.tail | (with_reducible apply SetB.app))); done)) ⟨Le.refl _, (by (repeat (first | exact trivial | (apply And.intro; (focus (first | (apply Or.inr; (try dsimp only); ((repeat (first | exact InB.head | apply InB.tail | (with_reducible apply InB.app))); done)) | (apply Or.inl; kernel_rfl))))))), ?_⟩))
  refine Q_op fun ho => A_callR β' [_, _] ho bod7 rfl rfl rfl rfl rfl (cnt_b1 _ _ _) (among_x (hr.le (union_le _ _)) hB (by omega) 1 3 (by omega) (by omega)) (fun x β' hR => ?_)
  obtain ⟨⟨N, rfl, hN⟩, hB2⟩ := hR
  repeat' (first | refine cs ?_ | refine ss ?_ | (((with_reducible apply Q_box); (focus (exact rfl)); (focus (exact rfl)); (focus (exact rfl))); intro bx) | (((with_reducible apply Q_alloc tab); (focus (exact rfl)); (focus (exact rfl)); (focus (exact rfl))); intro bx) | refine S_do (by kernel_rfl) (A_storeN tab rfl rfl rfl rfl rfl rfl rfl (by ((repeat (first | exact InB.head | apply InB.tail | (with_reducible apply InB.app))); done)) (by exact rfl) (by ((repeat (first | exact SetB.head | apply SetB.tail | (with_reducible apply SetB.app))); done)) ⟨Le.refl _, (by (repeat (first | exact trivial | (apply And.intro; (focus (first | (apply Or.inr; (try dsimp only); ((repeat (first | exact InB.head | apply InB.tail | (with_reducible apply InB.app))); done)) | (apply Or.inl; kernel_rfl))))))), ?_⟩))
  change XC _ _ _ _ _ _ ⟨_, _, β' ++ [(bx, #[natV P, .slice none 0 0], 26), (b2, #[.int .i64 0, .slice none 0 0], 26)]⟩ _
  refine C_loop (α := MornS) (fun z => ⟨[], [(4, .int .i64 z.k), (0, g.ptr), (3, .pointer (some ⟨bx, 0, none⟩)), (2, .pointer (some ⟨b2, 0, none⟩))], (bx, #[natV P, .slice z.a z.len z.cap], 26) :: (b2, #[.int .i64 0, .slice none 0 0], 26) :: (z.βb ++ z.seg)⟩)
    (fun z u => u = v ∧ z.len + z.k = N ∧ z.dawn.length = z.len ∧ (∀ y ∈ z.dawn, y < P) ∧ OwnS 3 1 z.seg z.a z.len z.cap (z.dawn.map natV) ∧ g.at z.n z.βb ∧ z.n = at' + 2 + z.len) (fun z => z.k) ⟨N, 0, [], [], none, 0, at' + 2, β'⟩
    ⟨rfl, (by (repeat (first | exact trivial | refine ⟨rfl, ?_⟩))), cntL⟩ (Le.refl _) ⟨rfl, by simp, rfl, by simp, .nil, hB2, rfl⟩ ?_
  rintro ⟨k, len, dawn, seg, a, cap, n, βb⟩ u ⟨rfl, hk, hdl, hall, hseg, hbg, hn⟩
  simp only at hk hdl hall hseg hbg hn
  dsimp only
  repeat' (first | refine cs ?_ | refine ss ?_ | (((with_reducible apply Q_box); (focus (exact rfl)); (focus (exact rfl)); (focus (exact rfl))); intro bx) | (((with_reducible apply Q_alloc tab); (focus (exact rfl)); (focus (exact rfl)); (focus (exact rfl))); intro bx) | refine S_do (by kernel_rfl) (A_storeN tab rfl rfl rfl rfl rfl rfl rfl (by ((repeat (first | exact InB.head | apply InB.tail | (with_reducible apply InB.app))); done)) (by exact rfl) (by ((repeat (first | exact SetB.head | apply SetB.tail | (with_reducible apply SetB.app))); done)) ⟨Le.refl _, (by (repeat (first | exact trivial | (apply And.intro; (focus (first | (apply Or.inr; (try dsimp only); ((repeat (first | exact InB.head | apply InB.tail | (with_reducible apply InB.app))); done)) | (apply Or.inl; kernel_rfl))))))), ?_⟩))
  refine XC_cond rfl (fun h => ?_) (fun h => ?_)
  · (simp only [decide_eq_true_eq, decide_eq_false_iff_not, beq_iff_eq, bne_iff_ne, Bool.not_eq_true', beq_eq_false_iff_ne, bne_eq_false_iff_eq, ne_eq] at h)
    repeat' (first | refine cs ?_ | refine ss ?_ | (((with_reducible apply Q_box); (focus (exact rfl)); (focus (exact rfl)); (focus (exact rfl))); intro bx) | (((with_reducible apply Q_alloc tab); (focus (exact rfl)); (focus (exact rfl)); (focus (exact rfl))); intro bx) | refine S_do (by kernel_rfl) (A_storeN tab rfl rfl rfl rfl rfl rfl rfl (by ((repeat (first | exact InB.head | apply InB.tail | (with_reducible apply InB.app))); done)) (by exact rfl) (by ((repeat (first | exact SetB.head | apply SetB.tail | (with_reducible apply SetB.app))); done)) ⟨Le.refl _, (by (repeat (first | exact trivial | (apply And.intro; (focus (first | (apply Or.inr; (try dsimp only); ((repeat (first | exact InB.head | apply InB.tail | (with_reducible apply InB.app))); done)) | (apply Or.inl; kernel_rfl))))))), ?_⟩))
    refine C_draw [6, 7, 8, 10] [0, 1, 2, 3, 4, 5, 6, 7, 8, 9, 10] mixed rfl (by kernel_rfl) ?_
    repeat' (first | refine cs ?_ | refine ss ?_ | (((with_reducible apply Q_box); (focus (exact rfl)); (focus (exact rfl)); (focus (exact rfl))); intro bx) | (((with_reducible apply Q_alloc tab); (focus (exact rfl)); (focus (exact rfl)); (focus (exact rfl))); intro bx) | refine S_do (by kernel_rfl) (A_storeN tab rfl rfl rfl rfl rfl rfl rfl (by ((repeat (first | exact InB.head | apply InB.tail | (with_reducible apply InB.app))); done)) (by exact rfl) (by ((repeat (first | exact SetB.head | apply SetB.tail | (with_reducible apply SetB.app))); done)) ⟨Le.refl _, (by (repeat (first | exact trivial | (apply And.intro; (focus (first | (apply Or.inr; (try dsimp only); ((repeat (first | exact InB.head | apply InB.tail | (with_reducible apply InB.app))); done)) | (apply Or.inl; kernel_rfl))))))), ?_⟩))
    refine S_do (by kernel_rfl) (A_callR βb ((bx, #[natV P, .slice a len cap], 26) :: (b2, #[.int .i64 0, .slice none 0 0], 26) :: seg) rfl bod13 rfl rfl rfl rfl rfl cntA (by rw [show (P : Int) - 1 = ((P - 1 : Nat) : Int) by omega]; exact upTo_x (hr.le (union_le _ _)) hbg (by omega) (P - 1) (by omega)) (fun x β' hR => ⟨Le.refl _, ?_, ?_⟩))
    · (repeat (first | exact trivial | (apply And.intro; (focus (first | (apply Or.inr; (try dsimp only); ((repeat (first | exact InB.head | apply InB.tail | (with_reducible apply InB.app))); done)) | (apply Or.inl; kernel_rfl))))))
    rename Boxes => βc
    obtain ⟨⟨x, rfl, hx⟩, hbg'⟩ := hR
    repeat' (first | refine cs ?_ | refine ss ?_ | (((with_reducible apply Q_box); (focus (exact rfl)); (focus (exact rfl)); (focus (exact rfl))); intro bx) | (((with_reducible apply Q_alloc tab); (focus (exact rfl)); (focus (exact rfl)); (focus (exact rfl))); intro bx) | refine S_do (by kernel_rfl) (A_storeN tab rfl rfl rfl rfl rfl rfl rfl (by ((repeat (first | exact InB.head | apply InB.tail | (with_reducible apply InB.app))); done)) (by exact rfl) (by ((repeat (first | exact SetB.head | apply SetB.tail | (with_reducible apply SetB.app))); done)) ⟨Le.refl _, (by (repeat (first | exact trivial | (apply And.intro; (focus (first | (apply Or.inr; (try dsimp only); ((repeat (first | exact InB.head | apply InB.tail | (with_reducible apply InB.app))); done)) | (apply Or.inl; kernel_rfl))))))), ?_⟩))
    refine S_do (by kernel_rfl) (A_lit tab rfl rfl rfl rfl rfl rfl rfl rfl rfl rfl (fun b3 c3 hL => ⟨Le.refl _, ?_, ?_⟩))
    · (repeat (first | exact trivial | (apply And.intro; (focus (first | (apply Or.inr; (try dsimp only); ((repeat (first | exact InB.head | apply InB.tail | (with_reducible apply InB.app))); done)) | (apply Or.inl; kernel_rfl))))))
    repeat' (first | refine cs ?_ | refine ss ?_ | (((with_reducible apply Q_box); (focus (exact rfl)); (focus (exact rfl)); (focus (exact rfl))); intro bx) | (((with_reducible apply Q_alloc tab); (focus (exact rfl)); (focus (exact rfl)); (focus (exact rfl))); intro bx) | refine S_do (by kernel_rfl) (A_storeN tab rfl rfl rfl rfl rfl rfl rfl (by ((repeat (first | exact InB.head | apply InB.tail | (with_reducible apply InB.app))); done)) (by exact rfl) (by ((repeat (first | exact SetB.head | apply SetB.tail | (with_reducible apply SetB.app))); done)) ⟨Le.refl _, (by (repeat (first | exact trivial | (apply And.intro; (focus (first | (apply Or.inr; (try dsimp only); ((repeat (first | exact InB.head | apply InB.tail | (with_reducible apply InB.app))); done)) | (apply Or.inl; kernel_rfl))))))), ?_⟩))
    refine S_do (by kernel_rfl) (A_append tab (xs := [natV x]) seg [(b3, c3, 3)] (βc ++ [(bx, #[natV P, .slice a len cap], 26), (b2, #[.int .i64 0, .slice none 0 0], 26)]) rfl rfl rfl rfl rfl rfl rfl rfl rfl rfl rfl cntA hseg
      (fun hb => RowAt.own hb cntL hL) rfl rfl (by show (2 * (len + 1) + 768) * 8 ≤ 2 ^ 48; omega) (by omega) (fun seg' a' cap' hS' => ⟨Le.refl _, ?_, ?_⟩))
    · (repeat (first | exact trivial | (apply And.intro; (focus (first | (apply Or.inr; (try dsimp only); ((repeat (first | exact InB.head | apply InB.tail | (with_reducible apply InB.app))); done)) | (apply Or.inl; kernel_rfl))))))
    repeat' (first | refine cs ?_ | refine ss ?_ | (((with_reducible apply Q_box); (focus (exact rfl)); (focus (exact rfl)); (focus (exact rfl))); intro bx) | (((with_reducible apply Q_alloc tab); (focus (exact rfl)); (focus (exact rfl)); (focus (exact rfl))); intro bx) | refine S_do (by kernel_rfl) (A_storeN tab rfl rfl rfl rfl rfl rfl rfl (by ((repeat (first | exact InB.head | apply InB.tail | (with_reducible apply InB.app))); done)) (by exact rfl) (by ((repeat (first | exact SetB.head | apply SetB.tail | (with_reducible apply SetB.app))); done)) ⟨Le.refl _, (by (repeat (first | exact trivial | (apply And.intro; (focus (first | (apply Or.inr; (try dsimp only); ((repeat (first | exact InB.head | apply InB.tail | (with_reducible apply InB.app))); done)) | (apply Or.inl; kernel_rfl))))))), ?_⟩))
    refine Loop_normal ⟨⟨k - 1, len + 1, dawn ++ [x], seg', a', cap', n + 1, βc⟩, u, by simp only; omega, ⟨rfl, ?_, ?_⟩, Le.refl _, rfl, by simp only; omega, by simp [hdl], ?_, by simpa using hS', hbg', by simp only; omega⟩
    · refine ⟨?_, rfl, rfl, rfl, trivial⟩
      show some (Value.int .i64 ((k : Int) - 1)) = some (Value.int .i64 ((k - 1 : Nat) : Int))
      congr 2; omega
    · exact fun p => by
        show cnt p ((bx, #[natV P, .slice a' (len + 1) cap'], 26) :: (b2, #[.int .i64 0, .slice none 0 0], 26) :: (βc ++ seg')) ≤ cnt p (seg' ++ (βc ++ [(bx, #[natV P, .slice a' (len + 1) cap'], 26), (b2, #[.int .i64 0, .slice none 0 0], 26)]))
        simp only [cnt_append, cnt_cons, cnt_nil]; omega
    · intro y hy
      simp only [List.mem_append, List.mem_singleton] at hy
      rcases hy with hy | rfl
      · exact hall y hy
      · omega
  · (simp only [decide_eq_true_eq, decide_eq_false_iff_not, beq_iff_eq, bne_iff_ne, Bool.not_eq_true', beq_eq_false_iff_ne, bne_eq_false_iff_eq, ne_eq] at h)
    have hk0 : k = 0 := by omega
    subst hk0
    repeat' (first | refine cs ?_ | refine ss ?_ | (((with_reducible apply Q_box); (focus (exact rfl)); (focus (exact rfl)); (focus (exact rfl))); intro bx) | (((with_reducible apply Q_alloc tab); (focus (exact rfl)); (focus (exact rfl)); (focus (exact rfl))); intro bx) | refine S_do (by kernel_rfl) (A_storeN tab rfl rfl rfl rfl rfl rfl rfl (by ((repeat (first | exact InB.head | apply InB.tail | (with_reducible apply InB.app))); done)) (by exact rfl) (by ((repeat (first | exact SetB.head | apply SetB.tail | (with_reducible apply SetB.app))); done)) ⟨Le.refl _, (by (repeat (first | exact trivial | (apply And.intro; (focus (first | (apply Or.inr; (try dsimp only); ((repeat (first | exact InB.head | apply InB.tail | (with_reducible apply InB.app))); done)) | (apply Or.inl; kernel_rfl))))))), ?_⟩))
    subst hdl
    refine Fn_ret tab (xs := [.agg #[natV P, .slice a dawn.length cap]]) (βb ++ seg) (resL_cell tab rfl (.tail .head) rfl .nil) (Back.here cntL) ?_
    exact ⟨⟨P, dawn, a, cap⟩, n, βb, seg, rfl, rfl, hbg, by omega, hseg, hP, by simp only; omega, hall⟩
end Go.Proofs.Ytbbaionoibkohaa
end
section
namespace Go.Pal
open Go Go.Conc View
section
variable {P : Program} {mn : Who} {rd : Option Nat} {n : Nat} {ops : Array Oper} {i : Nat} {Q : Exit → St → View → Prop} {K : St → View → Prop} {σ : St} {v : View}
theorem A_bok (h : Bok σ.β v → XOp P mn rd n ops i Q K σ v) : XOp P mn rd n ops i Q K σ v := fun a hf hb => h hb a hf hb
theorem CallsB.keep {k : FuncId} {args : Array Value} {R : End → Boxes → Prop} {β δ : Boxes} (h : Bok δ v → CallsB P mn k args R β (v.union (bview δ))) : CallsB P mn k args (fun e β' => ∃ β'', β' = β'' ++ δ ∧ R e β'') (β ++ δ) v := fun hb => by
  obtain ⟨h1, h2⟩ := bok_append.1 hb
  rw [union_comm_boxes hb]
  refine (h h1 h2).mono fun e w hR => ?_
  obtain ⟨β'', hR, hB, hl⟩ := hR
  have hb2 := bok_append.2 ⟨h1, hB⟩
  exact ⟨w, Le.refl _, β'' ++ δ, ⟨β'', rfl, hR⟩, hb2, by rw [union_comm_boxes hb2]; exact hl⟩
theorem CallsB.drop {k : FuncId} {args : Array Value} {R : End → Boxes → Prop} {β δ : Boxes} (h : Bok δ v → CallsB P mn k args R β (v.union (bview δ))) : CallsB P mn k args R (β ++ δ) v := fun hb => by
  obtain ⟨h1, h2⟩ := bok_append.1 hb
  rw [union_comm_boxes hb]
  refine (h h1 h2).mono fun e w hR => ?_
  obtain ⟨β'', hR, hB, hl⟩ := hR
  have hb2 := bok_append.2 ⟨h1, hB⟩
  refine ⟨w, Le.refl _, β'', hR, ⟨hB.nodup, fun b => (hB.disj b).imp (fun e => ?_) id⟩, Le.trans ?_ hl⟩
  · unfold View.union at e
    split at e
    · cases e
    · assumption
  · intro b x hx
    unfold View.union at hx ⊢
    cases hv : v b with
    | some y => rw [hv] at hx; simpa using hx
    | none =>
      rw [hv] at hx
      have := (hB.disj b).resolve_right (by simp only at hx; rw [hx]; simp)
      unfold View.union at this
      rw [hv] at this
      simp only at this hx ⊢
      rw [this]
      exact hx
theorem CallsB.imp {k : FuncId} {args : Array Value} {R R' : End → Boxes → Prop} {β : Boxes} (h : CallsB P mn k args R β v) (hR : ∀ e β, R e β → R' e β) : CallsB P mn k args R' β v := CallsB.mono h hR
end
end Go.Pal
end
section
namespace Go.Proofs.Ytbbaionoibkohaa
open Go Go.Pal Go.Conc View
open Go.Proofs.Try
set_option maxHeartbeats 4000000
section
variable {mn : Who} {v : View}
theorem modV {x y P : Nat} (hx : x < P) (hy : 1 ≤ y ∧ y ≤ P - 1) (hP : P ≤ 4) : (x + y) % P < P ∧ x ≠ (x + y) % P := by
  refine ⟨Nat.mod_lt _ (by omega), fun e => ?_⟩
  by_cases h : x + y < P
  · rw [Nat.mod_eq_of_lt h] at e; omega
  · rw [Nat.mod_eq_sub_mod (by omega), Nat.mod_eq_of_lt (by omega)] at e; omega
theorem remV {a b P : Nat} (hP : 0 < P) (hP' : P < 2 ^ 62) : binVal tab .rem 3 (.int .i64 ((a : Int) + b)) (.int .i64 P) = some (natV ((a + b) % P)) := by
  simp only [binVal, if_true]
  rw [if_neg (by omega)]
  simp only [natV]
  congr 2
theorem row_rest {β bin rest seg : Boxes} {e : TypeId} {k : Nat} {a : Option Addr} {len cap : Nat} {cs : List Value} (hb : Bok β v) (hs : ∀ p, cnt p β = cnt p (bin ++ rest)) (hS : OwnS e k seg a len cap cs) (hsub : Subm seg rest) : RowAt (v.union (bview rest)) a cs :=
  RowAt.own (bok_append.1 (bok_perm (perm_of_cnt hs) hb).1).1 hsub hS
theorem actOf_x {g : Bg} {at' : Nat} {β : Boxes} (hr : g.ok v) (hB : g.at at' β) (hat : at' < 2 ^ 60) {m : Mo} (hm : m.ok v) {ao : Option Addr} {co : Nat} {os : List Nat} (hos : RowAt v ao (os.map natV)) (hol : os.length = m.dawn.length) (hoa : ∀ y ∈ os, y < m.P) :
    CallsB Try.prog mn 15 #[g.ptr, m.val, .slice ao os.length co] (RetB fun r β' => ∃ x : MAct, x.ok m.P m.dawn.length ∧ r = x.val ∧ ∃ n, n ≤ at' + 6 ∧ g.at n β') β v := by
  have hl := hm.len
  have hP := hm.P
  refine callsB_fn tab func15 rfl (Nat.le_of_ble_eq_true rfl) (args := [_, _, _]) ?_
  have hmv : m.val = .agg (List.toArray [natV m.P, .slice m.a m.dawn.length m.cap]) := rfl
  rw [hmv]
  repeat' (first | refine cs ?_ | refine ss ?_ | (((with_reducible apply Q_box); (focus (exact rfl)); (focus (exact rfl)); (focus (exact rfl))); intro bx) | (((with_reducible apply Q_alloc tab); (focus (exact rfl)); (focus (exact rfl)); (focus (exact rfl))); intro bx) | refine S_do (by kernel_rfl) (A_storeN tab rfl rfl rfl rfl rfl rfl rfl (by ((repeat (first | exact InB.head | apply InB.tail | (with_reducible apply InB.app))); done)) (by exact rfl) (by ((repeat (first | exact SetB.head | apply SetB.tail | (with_reducible apply SetB.app))); done)) ⟨Le.refl _, (by (repeat (first | exact trivial | (apply And.intro; (focus (first | (apply Or.inr; (try dsimp only); ((repeat (first | exact InB.head | apply InB.tail | (with_reducible apply InB.app))); done)) | (apply Or.inl; kernel_rfl))))))), ?_⟩))
  rename_i b4
  obtain ⟨b6, rfl⟩ : ∃ b : Nat, b = bx := ⟨bx, rfl⟩
  refine Q_front (bin := β) (by repeat (first | (with_reducible exact split_head) | (with_reducible exact split_headA) | (with_reducible exact split_all) | (with_reducible apply split_cons))) ?_
  refine Q_op fun ho => A_callR β _ ho bod13 rfl rfl rfl rfl rfl split_head (by rw [show (m.dawn.length : Int) - 1 = ((m.dawn.length - 1 : Nat) : Int) by omega]; exact upTo_x (hr.le (union_le _ _)) hB (by omega) (m.dawn.length - 1) (by omega)) (fun x β' hR => ?_)
  clear ho
  obtain ⟨⟨ah, rfl, hh⟩, hB⟩ := hR
  repeat' (first | refine cs ?_ | refine ss ?_ | (((with_reducible apply Q_box); (focus (exact rfl)); (focus (exact rfl)); (focus (exact rfl))); intro bx) | (((with_reducible apply Q_alloc tab); (focus (exact rfl)); (focus (exact rfl)); (focus (exact rfl))); intro bx) | refine S_do (by kernel_rfl) (A_storeN tab rfl rfl rfl rfl rfl rfl rfl (by ((repeat (first | exact InB.head | apply InB.tail | (with_reducible apply InB.app))); done)) (by exact rfl) (by ((repeat (first | exact SetB.head | apply SetB.tail | (with_reducible apply SetB.app))); done)) ⟨Le.refl _, (by (repeat (first | exact trivial | (apply And.intro; (focus (first | (apply Or.inr; (try dsimp only); ((repeat (first | exact InB.head | apply InB.tail | (with_reducible apply InB.app))); done)) | (apply Or.inl; kernel_rfl))))))), ?_⟩))
  refine Q_op fun ho => A_callR β' _ ho bod13 rfl rfl rfl rfl rfl split_head (upTo_x (hr.le (union_le _ _)) hB (by omega) 5 (by omega)) (fun x β' hR => ?_)
  clear ho
  obtain ⟨⟨k, rfl, hk⟩, hB⟩ := hR
  have hlt : ah < os.length := by omega
  obtain ⟨bb, off, p, c, e, f, rfl, hv, hc⟩ := hos.get hlt
  repeat' (first | refine cs ?_ | refine ss ?_ | (((with_reducible apply Q_box); (focus (exact rfl)); (focus (exact rfl)); (focus (exact rfl))); intro bx) | (((with_reducible apply Q_alloc tab); (focus (exact rfl)); (focus (exact rfl)); (focus (exact rfl))); intro bx) | refine S_do (by kernel_rfl) (A_storeN tab rfl rfl rfl rfl rfl rfl rfl (by ((repeat (first | exact InB.head | apply InB.tail | (with_reducible apply InB.app))); done)) (by exact rfl) (by ((repeat (first | exact SetB.head | apply SetB.tail | (with_reducible apply SetB.app))); done)) ⟨Le.refl _, (by (repeat (first | exact trivial | (apply And.intro; (focus (first | (apply Or.inr; (try dsimp only); ((repeat (first | exact InB.head | apply InB.tail | (with_reducible apply InB.app))); done)) | (apply Or.inl; kernel_rfl))))))), ?_⟩))
  refine XC_cond rfl (fun h => ?_) (fun h => ?_)
  · (simp only [decide_eq_true_eq, decide_eq_false_iff_not, beq_iff_eq, bne_iff_ne, Bool.not_eq_true', beq_eq_false_iff_ne, bne_eq_false_iff_eq, ne_eq] at h)
    repeat' (first | refine cs ?_ | refine ss ?_ | (((with_reducible apply Q_box); (focus (exact rfl)); (focus (exact rfl)); (focus (exact rfl))); intro bx) | (((with_reducible apply Q_alloc tab); (focus (exact rfl)); (focus (exact rfl)); (focus (exact rfl))); intro bx) | refine S_do (by kernel_rfl) (A_storeN tab rfl rfl rfl rfl rfl rfl rfl (by ((repeat (first | exact InB.head | apply InB.tail | (with_reducible apply InB.app))); done)) (by exact rfl) (by ((repeat (first | exact SetB.head | apply SetB.tail | (with_reducible apply SetB.app))); done)) ⟨Le.refl _, (by (repeat (first | exact trivial | (apply And.intro; (focus (first | (apply Or.inr; (try dsimp only); ((repeat (first | exact InB.head | apply InB.tail | (with_reducible apply InB.app))); done)) | (apply Or.inl; kernel_rfl))))))), ?_⟩))
    refine Fn_ret tab β' (xs := [MAct.val ⟨1, 0, 0, ah⟩]) (resL_cell tab rfl (by ((repeat (first | exact InB.head | apply InB.tail | (with_reducible apply InB.app))); done)) rfl .nil) (Back.here cntL) ?_
    exact ⟨⟨1, 0, 0, ah⟩, ⟨by show 1 ≤ 2; omega, by show ah < _; omega, fun _ => ⟨rfl, rfl⟩, ⟨by show 0 < _; omega, by show 0 < _; omega⟩, (fun hh => by cases hh)⟩, rfl, _, by omega, hB⟩
  · (simp only [decide_eq_true_eq, decide_eq_false_iff_not, beq_iff_eq, bne_iff_ne, Bool.not_eq_true', beq_eq_false_iff_ne, bne_eq_false_iff_eq, ne_eq] at h)
    have hk0 := h
    clear h
    repeat' (first | refine cs ?_ | refine ss ?_ | (((with_reducible apply Q_box); (focus (exact rfl)); (focus (exact rfl)); (focus (exact rfl))); intro bx) | (((with_reducible apply Q_alloc tab); (focus (exact rfl)); (focus (exact rfl)); (focus (exact rfl))); intro bx) | refine S_do (by kernel_rfl) (A_storeN tab rfl rfl rfl rfl rfl rfl rfl (by ((repeat (first | exact InB.head | apply InB.tail | (with_reducible apply InB.app))); done)) (by exact rfl) (by ((repeat (first | exact SetB.head | apply SetB.tail | (with_reducible apply SetB.app))); done)) ⟨Le.refl _, (by (repeat (first | exact trivial | (apply And.intro; (focus (first | (apply Or.inr; (try dsimp only); ((repeat (first | exact InB.head | apply InB.tail | (with_reducible apply InB.app))); done)) | (apply Or.inl; kernel_rfl))))))), ?_⟩))
    refine XC_cond rfl (fun h => ?_) (fun h => ?_)
    · (simp only [decide_eq_true_eq, decide_eq_false_iff_not, beq_iff_eq, bne_iff_ne, Bool.not_eq_true', beq_eq_false_iff_ne, bne_eq_false_iff_eq, ne_eq] at h)
      have hk1 := h
      clear h
      repeat' (first | refine cs ?_ | refine ss ?_ | (((with_reducible apply Q_box); (focus (exact rfl)); (focus (exact rfl)); (focus (exact rfl))); intro bx) | (((with_reducible apply Q_alloc tab); (focus (exact rfl)); (focus (exact rfl)); (focus (exact rfl))); intro bx) | refine S_do (by kernel_rfl) (A_storeN tab rfl rfl rfl rfl rfl rfl rfl (by ((repeat (first | exact InB.head | apply InB.tail | (with_reducible apply InB.app))); done)) (by exact rfl) (by ((repeat (first | exact SetB.head | apply SetB.tail | (with_reducible apply SetB.app))); done)) ⟨Le.refl _, (by (repeat (first | exact trivial | (apply And.intro; (focus (first | (apply Or.inr; (try dsimp only); ((repeat (first | exact InB.head | apply InB.tail | (with_reducible apply InB.app))); done)) | (apply Or.inl; kernel_rfl))))))), ?_⟩))
      refine C_draw [4, 14, 15, 16, 19] [0, 1, 2, 3, 5, 6, 7, 8, 9, 10, 11, 12, 13, 17, 4, 14, 15, 16, 18, 19] mixed rfl (by kernel_rfl) ?_
      repeat' (first | refine cs ?_ | refine ss ?_ | (((with_reducible apply Q_box); (focus (exact rfl)); (focus (exact rfl)); (focus (exact rfl))); intro bx) | (((with_reducible apply Q_alloc tab); (focus (exact rfl)); (focus (exact rfl)); (focus (exact rfl))); intro bx) | refine S_do (by kernel_rfl) (A_storeN tab rfl rfl rfl rfl rfl rfl rfl (by ((repeat (first | exact InB.head | apply InB.tail | (with_reducible apply InB.app))); done)) (by exact rfl) (by ((repeat (first | exact SetB.head | apply SetB.tail | (with_reducible apply SetB.app))); done)) ⟨Le.refl _, (by (repeat (first | exact trivial | (apply And.intro; (focus (first | (apply Or.inr; (try dsimp only); ((repeat (first | exact InB.head | apply InB.tail | (with_reducible apply InB.app))); done)) | (apply Or.inl; kernel_rfl))))))), ?_⟩))
      refine S_elem tab ah rfl rfl rfl (by kernel_rfl) rfl rfl rfl rfl rfl hlt ?_
      refine S_load tab rfl rfl rfl (by kernel_rfl) rfl hv (readB_one tab rfl rfl rfl (by rw [Nat.mul_one]; exact hc _ hlt)) ?_
      repeat' (first | refine cs ?_ | refine ss ?_ | (((with_reducible apply Q_box); (focus (exact rfl)); (focus (exact rfl)); (focus (exact rfl))); intro bx) | (((with_reducible apply Q_alloc tab); (focus (exact rfl)); (focus (exact rfl)); (focus (exact rfl))); intro bx) | refine S_do (by kernel_rfl) (A_storeN tab rfl rfl rfl rfl rfl rfl rfl (by ((repeat (first | exact InB.head | apply InB.tail | (with_reducible apply InB.app))); done)) (by exact rfl) (by ((repeat (first | exact SetB.head | apply SetB.tail | (with_reducible apply SetB.app))); done)) ⟨Le.refl _, (by (repeat (first | exact trivial | (apply And.intro; (focus (first | (apply Or.inr; (try dsimp only); ((repeat (first | exact InB.head | apply InB.tail | (with_reducible apply InB.app))); done)) | (apply Or.inl; kernel_rfl))))))), ?_⟩))
      refine S_do (by kernel_rfl) (A_callR β' _ rfl bod13 rfl rfl rfl rfl rfl split_head (by rw [show (m.P : Int) - 1 = ((m.P - 1 : Nat) : Int) by omega]; exact upTo_x (hr.le (union_le _ _)) hB (by omega) (m.P - 1) (by omega)) (fun x β' hR => ⟨Le.refl _, ?_, ?_⟩))
      · (repeat (first | exact trivial | (apply And.intro; (focus (first | (apply Or.inr; (try dsimp only); ((repeat (first | exact InB.head | apply InB.tail | (with_reducible apply InB.app))); done)) | (apply Or.inl; kernel_rfl))))))
      obtain ⟨⟨a1, rfl, ha1⟩, hB⟩ := hR
      repeat' (first | refine cs ?_ | refine ss ?_ | (((with_reducible apply Q_box); (focus (exact rfl)); (focus (exact rfl)); (focus (exact rfl))); intro bx) | (((with_reducible apply Q_alloc tab); (focus (exact rfl)); (focus (exact rfl)); (focus (exact rfl))); intro bx) | refine S_do (by kernel_rfl) (A_storeN tab rfl rfl rfl rfl rfl rfl rfl (by ((repeat (first | exact InB.head | apply InB.tail | (with_reducible apply InB.app))); done)) (by exact rfl) (by ((repeat (first | exact SetB.head | apply SetB.tail | (with_reducible apply SetB.app))); done)) ⟨Le.refl _, (by (repeat (first | exact trivial | (apply And.intro; (focus (first | (apply Or.inr; (try dsimp only); ((repeat (first | exact InB.head | apply InB.tail | (with_reducible apply InB.app))); done)) | (apply Or.inl; kernel_rfl))))))), ?_⟩))
      refine S_do (by kernel_rfl) (A_callR β' _ rfl bod13 rfl rfl rfl rfl rfl split_head (by rw [show (m.P : Int) - 1 = ((m.P - 1 : Nat) : Int) by omega]; exact upTo_x (hr.le (union_le _ _)) hB (by omega) (m.P - 1) (by omega)) (fun x β' hR => ⟨Le.refl _, ?_, ?_⟩))
      · (repeat (first | exact trivial | (apply And.intro; (focus (first | (apply Or.inr; (try dsimp only); ((repeat (first | exact InB.head | apply InB.tail | (with_reducible apply InB.app))); done)) | (apply Or.inl; kernel_rfl))))))
      obtain ⟨⟨a2, rfl, ha2⟩, hB⟩ := hR
      repeat' (first | refine cs ?_ | refine ss ?_ | (((with_reducible apply Q_box); (focus (exact rfl)); (focus (exact rfl)); (focus (exact rfl))); intro bx) | (((with_reducible apply Q_alloc tab); (focus (exact rfl)); (focus (exact rfl)); (focus (exact rfl))); intro bx) | refine S_do (by kernel_rfl) (A_storeN tab rfl rfl rfl rfl rfl rfl rfl (by ((repeat (first | exact InB.head | apply InB.tail | (with_reducible apply InB.app))); done)) (by exact rfl) (by ((repeat (first | exact SetB.head | apply SetB.tail | (with_reducible apply SetB.app))); done)) ⟨Le.refl _, (by (repeat (first | exact trivial | (apply And.intro; (focus (first | (apply Or.inr; (try dsimp only); ((repeat (first | exact InB.head | apply InB.tail | (with_reducible apply InB.app))); done)) | (apply Or.inl; kernel_rfl))))))), ?_⟩))
      refine S_do (by kernel_rfl) (A_lit tab rfl rfl rfl rfl rfl rfl rfl rfl rfl rfl (fun b3 c3 hL => ⟨Le.refl _, ?_, ?_⟩))
      · (repeat (first | exact trivial | (apply And.intro; (focus (first | (apply Or.inr; (try dsimp only); ((repeat (first | exact InB.head | apply InB.tail | (with_reducible apply InB.app))); done)) | (apply Or.inl; kernel_rfl))))))
      repeat' (first | refine cs ?_ | refine ss ?_ | (((with_reducible apply Q_box); (focus (exact rfl)); (focus (exact rfl)); (focus (exact rfl))); intro bx) | (((with_reducible apply Q_alloc tab); (focus (exact rfl)); (focus (exact rfl)); (focus (exact rfl))); intro bx) | refine S_do (by kernel_rfl) (A_storeN tab rfl rfl rfl rfl rfl rfl rfl (by ((repeat (first | exact InB.head | apply InB.tail | (with_reducible apply InB.app))); done)) (by exact rfl) (by ((repeat (first | exact SetB.head | apply SetB.tail | (with_reducible apply SetB.app))); done)) ⟨Le.refl _, (by (repeat (first | exact trivial | (apply And.intro; (focus (first | (apply Or.inr; (try dsimp only); ((repeat (first | exact InB.head | apply InB.tail | (with_reducible apply InB.app))); done)) | (apply Or.inl; kernel_rfl))))))), ?_⟩))
      refine S_do (by kernel_rfl) (A_bok fun hbk => A_callR β' [(b3, c3, 3), (b6, (Value.agg (List.toArray [.int .i64 0, .int .i64 0, .int .i64 0, .int .i64 0])).cells, 40), (b4, (Value.agg (List.toArray [natV m.P, .slice m.a m.dawn.length m.cap])).cells, 26)] rfl bod31 rfl rfl rfl rfl rfl cntA (pick_x (hr.le (union_le _ _)) hB (by omega) (xs := [(os[ah] : Int), (a2 : Int)]) (row_rest (bin := β') hbk cntA hL cntL) (by simp) (by simp)) (fun x β' hR => ⟨Le.refl _, ?_, ?_⟩))
      · (repeat (first | exact trivial | (apply And.intro; (focus (first | (apply Or.inr; (try dsimp only); ((repeat (first | exact InB.head | apply InB.tail | (with_reducible apply InB.app))); done)) | (apply Or.inl; kernel_rfl))))))
      obtain ⟨⟨y, hy, rfl⟩, hB⟩ := hR
      have hlt' := hoa _ (List.getElem_mem hlt)
      obtain ⟨z, rfl, hz⟩ : ∃ z : Nat, y = z ∧ z < m.P := by
        simp only [List.mem_cons, List.not_mem_nil, or_false] at hy
        rcases hy with rfl | rfl
        · exact ⟨_, rfl, hlt'⟩
        · exact ⟨_, rfl, by omega⟩
      repeat' (first | refine cs ?_ | refine ss ?_ | (((with_reducible apply Q_box); (focus (exact rfl)); (focus (exact rfl)); (focus (exact rfl))); intro bx) | (((with_reducible apply Q_alloc tab); (focus (exact rfl)); (focus (exact rfl)); (focus (exact rfl))); intro bx) | refine S_do (by kernel_rfl) (A_storeN tab rfl rfl rfl rfl rfl rfl rfl (by ((repeat (first | exact InB.head | apply InB.tail | (with_reducible apply InB.app))); done)) (by exact rfl) (by ((repeat (first | exact SetB.head | apply SetB.tail | (with_reducible apply SetB.app))); done)) ⟨Le.refl _, (by (repeat (first | exact trivial | (apply And.intro; (focus (first | (apply Or.inr; (try dsimp only); ((repeat (first | exact InB.head | apply InB.tail | (with_reducible apply InB.app))); done)) | (apply Or.inl; kernel_rfl))))))), ?_⟩))
      refine Fn_ret tab β' (xs := [MAct.val ⟨2, a1, z, ah⟩]) (resL_cell tab rfl (by ((repeat (first | exact InB.head | apply InB.tail | (with_reducible apply InB.app))); done)) rfl .nil) (Back.here cntL) ?_
      exact ⟨⟨2, a1, z, ah⟩, ⟨Nat.le_refl _, by show ah < _; omega, (fun hh => by cases hh), ⟨by show a1 < _; omega, hz⟩, (fun hh => by cases hh)⟩, rfl, _, by omega, hB⟩
    · (simp only [decide_eq_true_eq, decide_eq_false_iff_not, beq_iff_eq, bne_iff_ne, Bool.not_eq_true', beq_eq_false_iff_ne, bne_eq_false_iff_eq, ne_eq] at h)
      have hk1 := h
      clear h
      repeat' (first | refine cs ?_ | refine ss ?_ | (((with_reducible apply Q_box); (focus (exact rfl)); (focus (exact rfl)); (focus (exact rfl))); intro bx) | (((with_reducible apply Q_alloc tab); (focus (exact rfl)); (focus (exact rfl)); (focus (exact rfl))); intro bx) | refine S_do (by kernel_rfl) (A_storeN tab rfl rfl rfl rfl rfl rfl rfl (by ((repeat (first | exact InB.head | apply InB.tail | (with_reducible apply InB.app))); done)) (by exact rfl) (by ((repeat (first | exact SetB.head | apply SetB.tail | (with_reducible apply SetB.app))); done)) ⟨Le.refl _, (by (repeat (first | exact trivial | (apply And.intro; (focus (first | (apply Or.inr; (try dsimp only); ((repeat (first | exact InB.head | apply InB.tail | (with_reducible apply InB.app))); done)) | (apply Or.inl; kernel_rfl))))))), ?_⟩))
      refine C_draw [12, 19] [0, 1, 2, 3, 4, 5, 6, 7, 8, 9, 10, 11, 14, 15, 17, 12, 13, 16, 18, 19] mixed rfl (by kernel_rfl) ?_
      repeat' (first | refine cs ?_ | refine ss ?_ | (((with_reducible apply Q_box); (focus (exact rfl)); (focus (exact rfl)); (focus (exact rfl))); intro bx) | (((with_reducible apply Q_alloc tab); (focus (exact rfl)); (focus (exact rfl)); (focus (exact rfl))); intro bx) | refine S_do (by kernel_rfl) (A_storeN tab rfl rfl rfl rfl rfl rfl rfl (by ((repeat (first | exact InB.head | apply InB.tail | (with_reducible apply InB.app))); done)) (by exact rfl) (by ((repeat (first | exact SetB.head | apply SetB.tail | (with_reducible apply SetB.app))); done)) ⟨Le.refl _, (by (repeat (first | exact trivial | (apply And.intro; (focus (first | (apply Or.inr; (try dsimp only); ((repeat (first | exact InB.head | apply InB.tail | (with_reducible apply InB.app))); done)) | (apply Or.inl; kernel_rfl))))))), ?_⟩))
      refine S_elem tab ah rfl rfl rfl (by kernel_rfl) rfl rfl rfl rfl rfl hlt ?_
      refine S_load tab rfl rfl rfl (by kernel_rfl) rfl hv (readB_one tab rfl rfl rfl (by rw [Nat.mul_one]; exact hc _ hlt)) ?_
      repeat' (first | refine cs ?_ | refine ss ?_ | (((with_reducible apply Q_box); (focus (exact rfl)); (focus (exact rfl)); (focus (exact rfl))); intro bx) | (((with_reducible apply Q_alloc tab); (focus (exact rfl)); (focus (exact rfl)); (focus (exact rfl))); intro bx) | refine S_do (by kernel_rfl) (A_storeN tab rfl rfl rfl rfl rfl rfl rfl (by ((repeat (first | exact InB.head | apply InB.tail | (with_reducible apply InB.app))); done)) (by exact rfl) (by ((repeat (first | exact SetB.head | apply SetB.tail | (with_reducible apply SetB.app))); done)) ⟨Le.refl _, (by (repeat (first | exact trivial | (apply And.intro; (focus (first | (apply Or.inr; (try dsimp only); ((repeat (first | exact InB.head | apply InB.tail | (with_reducible apply InB.app))); done)) | (apply Or.inl; kernel_rfl))))))), ?_⟩))
      refine S_elem tab ah rfl rfl rfl (by kernel_rfl) rfl rfl rfl rfl rfl hlt ?_
      refine S_load tab rfl rfl rfl (by kernel_rfl) rfl hv (readB_one tab rfl rfl rfl (by rw [Nat.mul_one]; exact hc _ hlt)) ?_
      repeat' (first | refine cs ?_ | refine ss ?_ | (((with_reducible apply Q_box); (focus (exact rfl)); (focus (exact rfl)); (focus (exact rfl))); intro bx) | (((with_reducible apply Q_alloc tab); (focus (exact rfl)); (focus (exact rfl)); (focus (exact rfl))); intro bx) | refine S_do (by kernel_rfl) (A_storeN tab rfl rfl rfl rfl rfl rfl rfl (by ((repeat (first | exact InB.head | apply InB.tail | (with_reducible apply InB.app))); done)) (by exact rfl) (by ((repeat (first | exact SetB.head | apply SetB.tail | (with_reducible apply SetB.app))); done)) ⟨Le.refl _, (by (repeat (first | exact trivial | (apply And.intro; (focus (first | (apply Or.inr; (try dsimp only); ((repeat (first | exact InB.head | apply InB.tail | (with_reducible apply InB.app))); done)) | (apply Or.inl; kernel_rfl))))))), ?_⟩))
      refine S_do (by kernel_rfl) (A_callR β' _ rfl bod7 rfl rfl rfl rfl rfl split_head (by rw [show (m.P : Int) - 1 = ((m.P - 1 : Nat) : Int) by omega]; exact among_x (hr.le (union_le _ _)) hB (by omega) 1 (m.P - 1) (by omega) (by omega)) (fun x β' hR => ⟨Le.refl _, ?_, ?_⟩))
      · (repeat (first | exact trivial | (apply And.intro; (focus (first | (apply Or.inr; (try dsimp only); ((repeat (first | exact InB.head | apply InB.tail | (with_reducible apply InB.app))); done)) | (apply Or.inl; kernel_rfl))))))
      obtain ⟨⟨a2, rfl, ha2⟩, hB⟩ := hR
      have hlt' := hoa _ (List.getElem_mem hlt)
      have hmv2 := modV hlt' ha2 hP.2
      repeat' (first | refine cs ?_ | refine ss ?_ | (((with_reducible apply Q_box); (focus (exact rfl)); (focus (exact rfl)); (focus (exact rfl))); intro bx) | (((with_reducible apply Q_alloc tab); (focus (exact rfl)); (focus (exact rfl)); (focus (exact rfl))); intro bx) | refine S_do (by kernel_rfl) (A_storeN tab rfl rfl rfl rfl rfl rfl rfl (by ((repeat (first | exact InB.head | apply InB.tail | (with_reducible apply InB.app))); done)) (by exact rfl) (by ((repeat (first | exact SetB.head | apply SetB.tail | (with_reducible apply SetB.app))); done)) ⟨Le.refl _, (by (repeat (first | exact trivial | (apply And.intro; (focus (first | (apply Or.inr; (try dsimp only); ((repeat (first | exact InB.head | apply InB.tail | (with_reducible apply InB.app))); done)) | (apply Or.inl; kernel_rfl))))))), ?_⟩))
      refine S_pure tab (x := natV ((os[ah] + a2) % m.P)) rfl rfl rfl (by kernel_rfl) (remV (by omega) (by omega)) ?_
      repeat' (first | refine cs ?_ | refine ss ?_ | (((with_reducible apply Q_box); (focus (exact rfl)); (focus (exact rfl)); (focus (exact rfl))); intro bx) | (((with_reducible apply Q_alloc tab); (focus (exact rfl)); (focus (exact rfl)); (focus (exact rfl))); intro bx) | refine S_do (by kernel_rfl) (A_storeN tab rfl rfl rfl rfl rfl rfl rfl (by ((repeat (first | exact InB.head | apply InB.tail | (with_reducible apply InB.app))); done)) (by exact rfl) (by ((repeat (first | exact SetB.head | apply SetB.tail | (with_reducible apply SetB.app))); done)) ⟨Le.refl _, (by (repeat (first | exact trivial | (apply And.intro; (focus (first | (apply Or.inr; (try dsimp only); ((repeat (first | exact InB.head | apply InB.tail | (with_reducible apply InB.app))); done)) | (apply Or.inl; kernel_rfl))))))), ?_⟩))
      refine Fn_ret tab β' (xs := [MAct.val ⟨0, os[ah], (os[ah] + a2) % m.P, ah⟩]) (resL_cell tab rfl (by ((repeat (first | exact InB.head | apply InB.tail | (with_reducible apply InB.app))); done)) rfl .nil) (Back.here cntL) ?_
      exact ⟨⟨0, os[ah], (os[ah] + a2) % m.P, ah⟩, ⟨by show 0 ≤ 2; omega, by show ah < _; omega, (fun hh => by cases hh), ⟨hlt', hmv2.1⟩, fun _ => hmv2.2⟩, rfl, _, by omega, hB⟩
end
end Go.Proofs.Ytbbaionoibkohaa
end
section
namespace Go.Proofs.Ytbbaionoibkohaa
open Go Go.Pal Go.Conc View
open Go.Proofs.Try
set_option maxHeartbeats 4000000
section
variable {mn : Who} {v : View}
theorem ownS_set1 {e : TypeId} {b j len cap : Nat} {c : Array Value} {cs : List Value} (x : Value) (h : OwnS e 1 [(b, c, e)] (some ⟨b, 0, none⟩) len cap cs) (hj : j < len) : OwnS e 1 [(b, writeB c j [x], e)] (some ⟨b, 0, none⟩) len cap (cs.set j x) ∧ j + 1 ≤ c.size := by
  cases h with
  | box h1 h2 h3 h4 =>
    refine ⟨.box (by simpa using h1) h2 (by rw [writeB_size]; exact h3) fun i y hy => ?_, by omega⟩
    rw [writeB_get (by simp; omega)]
    rw [List.getElem?_set] at hy
    by_cases hij : j = i
    · subst hij
      rw [if_pos rfl, if_pos (by omega)] at hy
      rw [if_pos ⟨Nat.le_refl _, by simp⟩]
      simpa using hy
    · rw [if_neg hij] at hy
      rw [if_neg (by simp; omega)]
      exact h4 i y hy
theorem actOf_n {g : Bg} {at' : Nat} {β : Boxes} (hr : g.ok v) (hB : g.at at' β) (hat : at' < 2 ^ 60) {m : Mo} (hm : m.ok v) {ao : Option Addr} {co : Nat} {os : List Nat} (hos : RowAt v ao (os.map natV)) (hol : os.length = m.dawn.length) (hoa : ∀ y ∈ os, y < m.P) :
    CallsB Try.prog mn 15 #[g.ptr, .agg (List.toArray [natV m.P, .slice m.a m.dawn.length m.cap]), .slice ao m.dawn.length co] (RetB fun r β' => ∃ x : MAct, x.ok m.P m.dawn.length ∧ r = x.val ∧ ∃ n, n ≤ at' + 6 ∧ g.at n β') β v := by
  have := actOf_x (mn := mn) (co := co) hr hB hat hm hos hol hoa
  rw [show (Value.slice ao os.length co) = .slice ao m.dawn.length co by rw [hol]] at this
  exact this
structure BookS where
  k : Nat
  acts : List MAct
  os : List Nat
  co : Array Value
  seg : Boxes
  a : Option Addr
  cap : Nat
  n : Nat
  βb : Boxes
theorem bookOf_x {g : Bg} {at' : Nat} {β : Boxes} (hr : g.ok v) (hB : g.at at' β) (hat : at' < 2 ^ 50) {m : Mo} (hm : m.ok v) :
    CallsB Try.prog mn 6 #[g.ptr, m.val, .int .i64 8] (RetB fun r β' => ∃ (x : Bo) (n : Nat) (βb seg : Boxes), r = x.val ∧ β' = βb ++ seg ∧ g.at n βb ∧ n ≤ at' + 200 ∧ OwnS 40 4 seg x.a x.acts.length x.cap (x.acts.map MAct.cells).flatten ∧ x.acts.length ≤ 8 ∧ ∀ y ∈ x.acts, y.ok m.P m.dawn.length) β v := by
  have hl := hm.len
  have hP := hm.P
  refine callsB_fn tab func6 rfl (Nat.le_of_ble_eq_true rfl) (args := [_, _, _]) ?_
  have hmv : m.val = .agg (List.toArray [natV m.P, .slice m.a m.dawn.length m.cap]) := rfl
  rw [hmv]
  repeat' (first | refine cs ?_ | refine ss ?_ | (((with_reducible apply Q_box); (focus (exact rfl)); (focus (exact rfl)); (focus (exact rfl))); intro bx) | (((with_reducible apply Q_alloc tab); (focus (exact rfl)); (focus (exact rfl)); (focus (exact rfl))); intro bx) | refine S_do (by kernel_rfl) (A_storeN tab rfl rfl rfl rfl rfl rfl rfl (by ((repeat (first | exact InB.head | apply InB.tail | (with_reducible apply InB.app))); done)) (by exact rfl) (by ((repeat (first | exact SetB.head | apply SetB.tail | (with_reducible apply SetB.app))); done)) ⟨Le.refl _, (by (repeat (first | exact trivial | (apply And.intro; (focus (first | (apply Or.inr; (try dsimp only); ((repeat (first | exact InB.head | apply InB.tail | (with_reducible apply InB.app))); done)) | (apply Or.inl; kernel_rfl))))))), ?_⟩))
  obtain ⟨b4, rfl⟩ : ∃ b : Nat, b = bx := ⟨bx, rfl⟩
  refine Q_op fun ho => A_callR ([]) (_) ho bod14 rfl rfl rfl rfl rfl split0 (ownInts_x (hm.row.le (union_le _ _)) (by omega)) (fun x β' hR => ?_)
  clear ho
  obtain ⟨ao, cao, rfl, hO⟩ := hR
  obtain ⟨bo, co, rfl, rfl⟩ : ∃ bo co, ao = some ⟨bo, 0, none⟩ ∧ β' = [(bo, co, 3)] := by
    generalize m.dawn.map natV = ll at hO
    generalize hnn : m.dawn.length = nn at hO
    cases hO with
    | nil => omega
    | box _ _ _ _ => exact ⟨_, _, rfl, rfl⟩
  repeat' (first | refine cs ?_ | refine ss ?_ | (((with_reducible apply Q_box); (focus (exact rfl)); (focus (exact rfl)); (focus (exact rfl))); intro bx) | (((with_reducible apply Q_alloc tab); (focus (exact rfl)); (focus (exact rfl)); (focus (exact rfl))); intro bx) | refine S_do (by kernel_rfl) (A_storeN tab rfl rfl rfl rfl rfl rfl rfl (by ((repeat (first | exact InB.head | apply InB.tail | (with_reducible apply InB.app))); done)) (by exact rfl) (by ((repeat (first | exact SetB.head | apply SetB.tail | (with_reducible apply SetB.app))); done)) ⟨Le.refl _, (by (repeat (first | exact trivial | (apply And.intro; (focus (first | (apply Or.inr; (try dsimp only); ((repeat (first | exact InB.head | apply InB.tail | (with_reducible apply InB.app))); done)) | (apply Or.inl; kernel_rfl))))))), ?_⟩))
  refine Q_front (bin := β) (rest := [(bo, co, 3), (b4, (Value.agg (List.toArray [natV m.P, .slice m.a m.dawn.length m.cap])).cells, 26)]) cntA ?_
  refine Q_op fun ho => A_callR (β) (_) ho bod13 rfl rfl rfl rfl rfl split_head (upTo_x (hr.le (union_le _ _)) hB (by omega) 8 (by omega)) (fun x β' hR => ?_)
  clear ho
  obtain ⟨⟨k0, rfl, hk0⟩, hB⟩ := hR
  repeat' (first | refine cs ?_ | refine ss ?_ | (((with_reducible apply Q_box); (focus (exact rfl)); (focus (exact rfl)); (focus (exact rfl))); intro bx) | (((with_reducible apply Q_alloc tab); (focus (exact rfl)); (focus (exact rfl)); (focus (exact rfl))); intro bx) | refine S_do (by kernel_rfl) (A_storeN tab rfl rfl rfl rfl rfl rfl rfl (by ((repeat (first | exact InB.head | apply InB.tail | (with_reducible apply InB.app))); done)) (by exact rfl) (by ((repeat (first | exact SetB.head | apply SetB.tail | (with_reducible apply SetB.app))); done)) ⟨Le.refl _, (by (repeat (first | exact trivial | (apply And.intro; (focus (first | (apply Or.inr; (try dsimp only); ((repeat (first | exact InB.head | apply InB.tail | (with_reducible apply InB.app))); done)) | (apply Or.inl; kernel_rfl))))))), ?_⟩))
  refine C_loop (α := BookS) (fun z => ⟨[], [(9, .int .i64 z.k), (8, .slice z.a z.acts.length z.cap), (7, .slice (some ⟨bo, 0, none⟩) m.dawn.length cao), (0, g.ptr), (4, .pointer (some ⟨b4, 0, none⟩))], z.βb ++ ([(bo, z.co, 3), (b4, (Value.agg (List.toArray [natV m.P, .slice m.a m.dawn.length m.cap])).cells, 26)] ++ z.seg)⟩)
    (fun z u => u = v ∧ z.acts.length + z.k = k0 ∧ z.os.length = m.dawn.length ∧ (∀ y ∈ z.os, y < m.P) ∧ OwnS 3 1 [(bo, z.co, 3)] (some ⟨bo, 0, none⟩) m.dawn.length cao (z.os.map natV) ∧ OwnS 40 4 z.seg z.a z.acts.length z.cap (z.acts.map MAct.cells).flatten ∧ (∀ y ∈ z.acts, y.ok m.P m.dawn.length) ∧ g.at z.n z.βb ∧ z.n ≤ at' + 1 + 13 * z.acts.length) (fun z => z.k) ⟨k0, [], m.dawn, co, [], none, 0, at' + 1, β'⟩
    ⟨rfl, (by (repeat (first | exact trivial | refine ⟨rfl, ?_⟩))), cntL⟩ (Le.refl _) ⟨rfl, by simp, rfl, hm.all, hO, .nil, by simp, hB, Nat.le_refl _⟩ ?_
  rintro ⟨k, acts, os, co, seg, a, cap, n, βb⟩ u ⟨rfl, hk, hol, hoa, hOw, hSeg, hAll, hBb, hn⟩
  simp only at hk hol hoa hOw hSeg hAll hBb hn
  dsimp only
  repeat' (first | refine cs ?_ | refine ss ?_ | (((with_reducible apply Q_box); (focus (exact rfl)); (focus (exact rfl)); (focus (exact rfl))); intro bx) | (((with_reducible apply Q_alloc tab); (focus (exact rfl)); (focus (exact rfl)); (focus (exact rfl))); intro bx) | refine S_do (by kernel_rfl) (A_storeN tab rfl rfl rfl rfl rfl rfl rfl (by ((repeat (first | exact InB.head | apply InB.tail | (with_reducible apply InB.app))); done)) (by exact rfl) (by ((repeat (first | exact SetB.head | apply SetB.tail | (with_reducible apply SetB.app))); done)) ⟨Le.refl _, (by (repeat (first | exact trivial | (apply And.intro; (focus (first | (apply Or.inr; (try dsimp only); ((repeat (first | exact InB.head | apply InB.tail | (with_reducible apply InB.app))); done)) | (apply Or.inl; kernel_rfl))))))), ?_⟩))
  refine XC_cond rfl (fun h => ?_) (fun h => ?_)
  · (simp only [decide_eq_true_eq, decide_eq_false_iff_not, beq_iff_eq, bne_iff_ne, Bool.not_eq_true', beq_eq_false_iff_ne, bne_eq_false_iff_eq, ne_eq] at h)
    have hk1 := h
    clear h
    repeat' (first | refine cs ?_ | refine ss ?_ | (((with_reducible apply Q_box); (focus (exact rfl)); (focus (exact rfl)); (focus (exact rfl))); intro bx) | (((with_reducible apply Q_alloc tab); (focus (exact rfl)); (focus (exact rfl)); (focus (exact rfl))); intro bx) | refine S_do (by kernel_rfl) (A_storeN tab rfl rfl rfl rfl rfl rfl rfl (by ((repeat (first | exact InB.head | apply InB.tail | (with_reducible apply InB.app))); done)) (by exact rfl) (by ((repeat (first | exact SetB.head | apply SetB.tail | (with_reducible apply SetB.app))); done)) ⟨Le.refl _, (by (repeat (first | exact trivial | (apply And.intro; (focus (first | (apply Or.inr; (try dsimp only); ((repeat (first | exact InB.head | apply InB.tail | (with_reducible apply InB.app))); done)) | (apply Or.inl; kernel_rfl))))))), ?_⟩))
    refine Q_op fun ho => A_bok fun hbk => A_callR βb ([(bo, co, 3), (b4, (Value.agg (List.toArray [natV m.P, .slice m.a m.dawn.length m.cap])).cells, 26)] ++ seg) ho bod15 rfl rfl rfl rfl rfl split_head (actOf_n (hr.le (union_le _ _)) hBb (by omega) (hm.le (union_le _ _)) (row_rest (bin := βb) hbk split_head hOw cntL) hol hoa) (fun x β' hR => ?_)
    clear ho
    obtain ⟨x, hx, rfl, n1, hn1, hB1⟩ := hR
    repeat' (first | refine cr ?_ | refine ss ?_ | (((with_reducible apply Q_box); (focus (exact rfl)); (focus (exact rfl)); (focus (exact rfl))); intro bx) | (((with_reducible apply Q_alloc tab); (focus (exact rfl)); (focus (exact rfl)); (focus (exact rfl))); intro bx) | refine S_do (by kernel_rfl) (A_storeN tab rfl rfl rfl rfl rfl rfl rfl (by ((repeat (first | exact InB.head | apply InB.tail | (with_reducible apply InB.app))); done)) (by exact rfl) (by ((repeat (first | exact SetB.head | apply SetB.tail | (with_reducible apply SetB.app))); done)) ⟨Le.refl _, (by (repeat (first | exact trivial | (apply And.intro; (focus (first | (apply Or.inr; (try dsimp only); ((repeat (first | exact InB.head | apply InB.tail | (with_reducible apply InB.app))); done)) | (apply Or.inl; kernel_rfl))))))), ?_⟩))
    refine C_cut (fun σ w => w = u ∧ ∃ (x : MAct) (βq : Boxes) (nq : Nat), x.ok m.P m.dawn.length ∧ g.at nq βq ∧ nq ≤ n + 13 ∧ σ = ⟨[], [(10, .pointer (some ⟨bx, 0, none⟩)), (9, .int .i64 k), (8, .slice a acts.length cap), (7, .slice (some ⟨bo, 0, none⟩) m.dawn.length cao), (0, g.ptr), (4, .pointer (some ⟨b4, 0, none⟩))], (bx, x.val.cells, 40) :: (βq ++ ([(bo, co, 3), (b4, (Value.agg (List.toArray [natV m.P, .slice m.a m.dawn.length m.cap])).cells, 26)] ++ seg))⟩) ?_ ?_
    · rintro σ w ⟨rfl, y, βq, nq, hy, hBq, hnq, rfl⟩
      have hyh := hy.h
      have hcell : co[y.h]? = some (natV os[y.h]) := by
        cases hOw with
        | box h1 h2 h3 h4 => exact h4 _ _ (by rw [List.getElem?_map, List.getElem?_eq_getElem (by omega)]; rfl)
      refine C_cut (fun σ w' => w' = w ∧ ∃ (os1 : List Nat) (co1 : Array Value), os1.length = m.dawn.length ∧ (∀ z ∈ os1, z < m.P) ∧ OwnS 3 1 [(bo, co1, 3)] (some ⟨bo, 0, none⟩) m.dawn.length cao (os1.map natV) ∧ σ = ⟨[], [(10, .pointer (some ⟨bx, 0, none⟩)), (9, .int .i64 k), (8, .slice a acts.length cap), (7, .slice (some ⟨bo, 0, none⟩) m.dawn.length cao), (0, g.ptr), (4, .pointer (some ⟨b4, 0, none⟩))], (bx, y.val.cells, 40) :: (βq ++ ([(bo, co1, 3), (b4, (Value.agg (List.toArray [natV m.P, .slice m.a m.dawn.length m.cap])).cells, 26)] ++ seg))⟩) ?_ ?_
      · rintro σ w ⟨rfl, os1, co1, hol1, hoa1, hOw1, rfl⟩
        repeat' (first | refine cs ?_ | refine ss ?_ | (((with_reducible apply Q_box); (focus (exact rfl)); (focus (exact rfl)); (focus (exact rfl))); intro bx) | (((with_reducible apply Q_alloc tab); (focus (exact rfl)); (focus (exact rfl)); (focus (exact rfl))); intro bx) | refine S_do (by kernel_rfl) (A_storeN tab rfl rfl rfl rfl rfl rfl rfl (by ((repeat (first | exact InB.head | apply InB.tail | (with_reducible apply InB.app))); done)) (by exact rfl) (by ((repeat (first | exact SetB.head | apply SetB.tail | (with_reducible apply SetB.app))); done)) ⟨Le.refl _, (by (repeat (first | exact trivial | (apply And.intro; (focus (first | (apply Or.inr; (try dsimp only); ((repeat (first | exact InB.head | apply InB.tail | (with_reducible apply InB.app))); done)) | (apply Or.inl; kernel_rfl))))))), ?_⟩))
        refine Q_op fun ho => A_lit tab ho rfl rfl rfl rfl rfl rfl rfl rfl rfl (fun b3 c3 hL => ?_)
        clear ho
        repeat' (first | refine cs ?_ | refine ss ?_ | (((with_reducible apply Q_box); (focus (exact rfl)); (focus (exact rfl)); (focus (exact rfl))); intro bx) | (((with_reducible apply Q_alloc tab); (focus (exact rfl)); (focus (exact rfl)); (focus (exact rfl))); intro bx) | refine S_do (by kernel_rfl) (A_storeN tab rfl rfl rfl rfl rfl rfl rfl (by ((repeat (first | exact InB.head | apply InB.tail | (with_reducible apply InB.app))); done)) (by exact rfl) (by ((repeat (first | exact SetB.head | apply SetB.tail | (with_reducible apply SetB.app))); done)) ⟨Le.refl _, (by (repeat (first | exact trivial | (apply And.intro; (focus (first | (apply Or.inr; (try dsimp only); ((repeat (first | exact InB.head | apply InB.tail | (with_reducible apply InB.app))); done)) | (apply Or.inl; kernel_rfl))))))), ?_⟩))
        refine Q_op fun ho => A_append tab (xs := y.cells) seg [(b3, c3, 40)] ((bx, y.val.cells, 40) :: (βq ++ [(bo, co1, 3), (b4, (Value.agg (List.toArray [natV m.P, .slice m.a m.dawn.length m.cap])).cells, 26)])) ho rfl rfl rfl rfl rfl rfl rfl rfl rfl rfl cntA hSeg
          (fun hb => RowAt.own hb cntL hL) rfl rfl (by show (2 * (acts.length + 1) + 768) * 32 ≤ 2 ^ 48; omega) (by omega) (fun seg' a' cap' hS' => ?_)
        clear ho
        repeat' (first | refine cs ?_ | refine ss ?_ | (((with_reducible apply Q_box); (focus (exact rfl)); (focus (exact rfl)); (focus (exact rfl))); intro bx) | (((with_reducible apply Q_alloc tab); (focus (exact rfl)); (focus (exact rfl)); (focus (exact rfl))); intro bx) | refine S_do (by kernel_rfl) (A_storeN tab rfl rfl rfl rfl rfl rfl rfl (by ((repeat (first | exact InB.head | apply InB.tail | (with_reducible apply InB.app))); done)) (by exact rfl) (by ((repeat (first | exact SetB.head | apply SetB.tail | (with_reducible apply SetB.app))); done)) ⟨Le.refl _, (by (repeat (first | exact trivial | (apply And.intro; (focus (first | (apply Or.inr; (try dsimp only); ((repeat (first | exact InB.head | apply InB.tail | (with_reducible apply InB.app))); done)) | (apply Or.inl; kernel_rfl))))))), ?_⟩))
        refine Loop_normal ⟨⟨k - 1, acts ++ [y], os1, co1, seg', a', cap', nq, βq⟩, w, by simp only; omega, ⟨rfl, ?_, cntL⟩, Le.refl _, rfl, by simp only [List.length_append, List.length_singleton]; omega, hol1, hoa1, hOw1, ?_, ?_, hBq, by simp only [List.length_append, List.length_singleton]; omega⟩
        · refine ⟨?_, ?_, rfl, rfl, rfl, trivial⟩
          · show some (Value.int .i64 ((k : Int) - 1)) = some (Value.int .i64 ((k - 1 : Nat) : Int))
            congr 2; omega
          · simp only [List.length_append, List.length_singleton]; rfl
        · simp only [List.map_append, List.map_cons, List.map_nil, List.flatten_append, List.flatten_cons, List.flatten_nil, List.append_nil, List.length_append, List.length_singleton]
          exact hS'
        · intro z hz
          simp only [List.mem_append, List.mem_singleton] at hz
          rcases hz with hz | rfl
          · exact hAll z hz
          · exact hy
      · repeat' (first | refine cs ?_ | refine ss ?_ | (((with_reducible apply Q_box); (focus (exact rfl)); (focus (exact rfl)); (focus (exact rfl))); intro bx) | (((with_reducible apply Q_alloc tab); (focus (exact rfl)); (focus (exact rfl)); (focus (exact rfl))); intro bx) | refine S_do (by kernel_rfl) (A_storeN tab rfl rfl rfl rfl rfl rfl rfl (by ((repeat (first | exact InB.head | apply InB.tail | (with_reducible apply InB.app))); done)) (by exact rfl) (by ((repeat (first | exact SetB.head | apply SetB.tail | (with_reducible apply SetB.app))); done)) ⟨Le.refl _, (by (repeat (first | exact trivial | (apply And.intro; (focus (first | (apply Or.inr; (try dsimp only); ((repeat (first | exact InB.head | apply InB.tail | (with_reducible apply InB.app))); done)) | (apply Or.inl; kernel_rfl))))))), ?_⟩))
        refine L_guard rfl rfl (fun h => ?_) (fun h => ?_)
        · repeat' (first | refine cs ?_ | refine ss ?_ | (((with_reducible apply Q_box); (focus (exact rfl)); (focus (exact rfl)); (focus (exact rfl))); intro bx) | (((with_reducible apply Q_alloc tab); (focus (exact rfl)); (focus (exact rfl)); (focus (exact rfl))); intro bx) | refine S_do (by kernel_rfl) (A_storeN tab rfl rfl rfl rfl rfl rfl rfl (by ((repeat (first | exact InB.head | apply InB.tail | (with_reducible apply InB.app))); done)) (by exact rfl) (by ((repeat (first | exact SetB.head | apply SetB.tail | (with_reducible apply SetB.app))); done)) ⟨Le.refl _, (by (repeat (first | exact trivial | (apply And.intro; (focus (first | (apply Or.inr; (try dsimp only); ((repeat (first | exact InB.head | apply InB.tail | (with_reducible apply InB.app))); done)) | (apply Or.inl; kernel_rfl))))))), ?_⟩))
          refine L_elem tab y.h rfl rfl rfl rfl rfl rfl rfl hyh ?_
          refine L_loadB tab rfl rfl rfl (by ((repeat (first | exact InB.head | apply InB.tail | (with_reducible apply InB.app))); done)) (readB_one tab rfl rfl rfl (by rw [Nat.mul_one, Nat.zero_add]; exact hcell)) ?_
          repeat' (first | refine cs ?_ | refine ss ?_ | (((with_reducible apply Q_box); (focus (exact rfl)); (focus (exact rfl)); (focus (exact rfl))); intro bx) | (((with_reducible apply Q_alloc tab); (focus (exact rfl)); (focus (exact rfl)); (focus (exact rfl))); intro bx) | refine S_do (by kernel_rfl) (A_storeN tab rfl rfl rfl rfl rfl rfl rfl (by ((repeat (first | exact InB.head | apply InB.tail | (with_reducible apply InB.app))); done)) (by exact rfl) (by ((repeat (first | exact SetB.head | apply SetB.tail | (with_reducible apply SetB.app))); done)) ⟨Le.refl _, (by (repeat (first | exact trivial | (apply And.intro; (focus (first | (apply Or.inr; (try dsimp only); ((repeat (first | exact InB.head | apply InB.tail | (with_reducible apply InB.app))); done)) | (apply Or.inl; kernel_rfl))))))), ?_⟩))
          refine XC_cond rfl (fun h => ?_) (fun h => ?_)
          · (simp only [decide_eq_true_eq, decide_eq_false_iff_not, beq_iff_eq, bne_iff_ne, Bool.not_eq_true', beq_eq_false_iff_ne, bne_eq_false_iff_eq, ne_eq] at h)
            repeat' (first | refine cs ?_ | refine ss ?_ | (((with_reducible apply Q_box); (focus (exact rfl)); (focus (exact rfl)); (focus (exact rfl))); intro bx) | (((with_reducible apply Q_alloc tab); (focus (exact rfl)); (focus (exact rfl)); (focus (exact rfl))); intro bx) | refine S_do (by kernel_rfl) (A_storeN tab rfl rfl rfl rfl rfl rfl rfl (by ((repeat (first | exact InB.head | apply InB.tail | (with_reducible apply InB.app))); done)) (by exact rfl) (by ((repeat (first | exact SetB.head | apply SetB.tail | (with_reducible apply SetB.app))); done)) ⟨Le.refl _, (by (repeat (first | exact trivial | (apply And.intro; (focus (first | (apply Or.inr; (try dsimp only); ((repeat (first | exact InB.head | apply InB.tail | (with_reducible apply InB.app))); done)) | (apply Or.inl; kernel_rfl))))))), ?_⟩))
            refine Q_elem tab y.h rfl rfl rfl rfl rfl rfl rfl hyh ?_
            have hset := ownS_set1 (natV y.b) hOw hyh
            have hoff : 0 + y.h * 1 = y.h := by omega
            refine Q_op fun ho => A_store tab (c := co) (x := natV y.b) ho rfl rfl rfl rfl rfl rfl (by ((repeat (first | exact InB.head | apply InB.tail | (with_reducible apply InB.app))); done)) (Nat.ble_eq_true_of_le (by rw [hoff]; exact hset.2)) (by ((repeat (first | exact SetB.head | apply SetB.tail | (with_reducible apply SetB.app))); done)) ?_
            clear ho
            repeat' (first | refine cs ?_ | refine ss ?_ | (((with_reducible apply Q_box); (focus (exact rfl)); (focus (exact rfl)); (focus (exact rfl))); intro bx) | (((with_reducible apply Q_alloc tab); (focus (exact rfl)); (focus (exact rfl)); (focus (exact rfl))); intro bx) | refine S_do (by kernel_rfl) (A_storeN tab rfl rfl rfl rfl rfl rfl rfl (by ((repeat (first | exact InB.head | apply InB.tail | (with_reducible apply InB.app))); done)) (by exact rfl) (by ((repeat (first | exact SetB.head | apply SetB.tail | (with_reducible apply SetB.app))); done)) ⟨Le.refl _, (by (repeat (first | exact trivial | (apply And.intro; (focus (first | (apply Or.inr; (try dsimp only); ((repeat (first | exact InB.head | apply InB.tail | (with_reducible apply InB.app))); done)) | (apply Or.inl; kernel_rfl))))))), ?_⟩))
            refine Loop_normal ⟨_, _, ⟨rfl, os.set y.h y.b, writeB co (0 + y.h * 1) [natV y.b], by simpa using hol, fun z hz => ?_, ?_, rfl⟩, ⟨rfl, (by (repeat (first | exact trivial | refine ⟨rfl, ?_⟩))), cntL⟩, Le.refl _⟩
            · rcases List.mem_or_eq_of_mem_set hz with h' | h'
              · exact hoa z h'
              · exact h' ▸ hy.ab.2
            · rw [hoff]
              have := hset.1
              rw [← List.map_set] at this
              exact this
          · (simp only [decide_eq_true_eq, decide_eq_false_iff_not, beq_iff_eq, bne_iff_ne, Bool.not_eq_true', beq_eq_false_iff_ne, bne_eq_false_iff_eq, ne_eq] at h)
            repeat' (first | refine cs ?_ | refine ss ?_ | (((with_reducible apply Q_box); (focus (exact rfl)); (focus (exact rfl)); (focus (exact rfl))); intro bx) | (((with_reducible apply Q_alloc tab); (focus (exact rfl)); (focus (exact rfl)); (focus (exact rfl))); intro bx) | refine S_do (by kernel_rfl) (A_storeN tab rfl rfl rfl rfl rfl rfl rfl (by ((repeat (first | exact InB.head | apply InB.tail | (with_reducible apply InB.app))); done)) (by exact rfl) (by ((repeat (first | exact SetB.head | apply SetB.tail | (with_reducible apply SetB.app))); done)) ⟨Le.refl _, (by (repeat (first | exact trivial | (apply And.intro; (focus (first | (apply Or.inr; (try dsimp only); ((repeat (first | exact InB.head | apply InB.tail | (with_reducible apply InB.app))); done)) | (apply Or.inl; kernel_rfl))))))), ?_⟩))
            refine Loop_normal ⟨_, _, ⟨rfl, os, co, hol, hoa, hOw, rfl⟩, ⟨rfl, (by (repeat (first | exact trivial | refine ⟨rfl, ?_⟩))), cntL⟩, Le.refl _⟩
        · repeat' (first | refine cs ?_ | refine ss ?_ | (((with_reducible apply Q_box); (focus (exact rfl)); (focus (exact rfl)); (focus (exact rfl))); intro bx) | (((with_reducible apply Q_alloc tab); (focus (exact rfl)); (focus (exact rfl)); (focus (exact rfl))); intro bx) | refine S_do (by kernel_rfl) (A_storeN tab rfl rfl rfl rfl rfl rfl rfl (by ((repeat (first | exact InB.head | apply InB.tail | (with_reducible apply InB.app))); done)) (by exact rfl) (by ((repeat (first | exact SetB.head | apply SetB.tail | (with_reducible apply SetB.app))); done)) ⟨Le.refl _, (by (repeat (first | exact trivial | (apply And.intro; (focus (first | (apply Or.inr; (try dsimp only); ((repeat (first | exact InB.head | apply InB.tail | (with_reducible apply InB.app))); done)) | (apply Or.inl; kernel_rfl))))))), ?_⟩))
          refine Loop_normal ⟨_, _, ⟨rfl, os, co, hol, hoa, hOw, rfl⟩, ⟨rfl, (by (repeat (first | exact trivial | refine ⟨rfl, ?_⟩))), cntL⟩, Le.refl _⟩
    · repeat' (first | refine cs ?_ | refine ss ?_ | (((with_reducible apply Q_box); (focus (exact rfl)); (focus (exact rfl)); (focus (exact rfl))); intro bx) | (((with_reducible apply Q_alloc tab); (focus (exact rfl)); (focus (exact rfl)); (focus (exact rfl))); intro bx) | refine S_do (by kernel_rfl) (A_storeN tab rfl rfl rfl rfl rfl rfl rfl (by ((repeat (first | exact InB.head | apply InB.tail | (with_reducible apply InB.app))); done)) (by exact rfl) (by ((repeat (first | exact SetB.head | apply SetB.tail | (with_reducible apply SetB.app))); done)) ⟨Le.refl _, (by (repeat (first | exact trivial | (apply And.intro; (focus (first | (apply Or.inr; (try dsimp only); ((repeat (first | exact InB.head | apply InB.tail | (with_reducible apply InB.app))); done)) | (apply Or.inl; kernel_rfl))))))), ?_⟩))
      refine Q_op fun ho => A_callR (β') ((bx, x.val.cells, 40) :: ([(bo, co, 3), (b4, (Value.agg (List.toArray [natV m.P, .slice m.a m.dawn.length m.cap])).cells, 26)] ++ seg)) ho bod16 rfl rfl rfl rfl rfl (show ∀ p, Pal.cnt p ((bx, x.val.cells, 40) :: (β' ++ ([(bo, co, 3), (b4, (Value.agg (List.toArray [natV m.P, .slice m.a m.dawn.length m.cap])).cells, 26)] ++ seg))) = Pal.cnt p (β' ++ ((bx, x.val.cells, 40) :: ([(bo, co, 3), (b4, (Value.agg (List.toArray [natV m.P, .slice m.a m.dawn.length m.cap])).cells, 26)] ++ seg))) from cntA) (once_x (hr.le (union_le _ _)) hB1 (by omega) 6 (by omega)) (fun x β' hR => ?_)
      clear ho
      obtain ⟨⟨q, rfl⟩, hB2⟩ := hR
      repeat' (first | refine cs ?_ | refine ss ?_ | (((with_reducible apply Q_box); (focus (exact rfl)); (focus (exact rfl)); (focus (exact rfl))); intro bx) | (((with_reducible apply Q_alloc tab); (focus (exact rfl)); (focus (exact rfl)); (focus (exact rfl))); intro bx) | refine S_do (by kernel_rfl) (A_storeN tab rfl rfl rfl rfl rfl rfl rfl (by ((repeat (first | exact InB.head | apply InB.tail | (with_reducible apply InB.app))); done)) (by exact rfl) (by ((repeat (first | exact SetB.head | apply SetB.tail | (with_reducible apply SetB.app))); done)) ⟨Le.refl _, (by (repeat (first | exact trivial | (apply And.intro; (focus (first | (apply Or.inr; (try dsimp only); ((repeat (first | exact InB.head | apply InB.tail | (with_reducible apply InB.app))); done)) | (apply Or.inl; kernel_rfl))))))), ?_⟩))
      refine XC_cond rfl (fun h => ?_) (fun h => ?_)
      · subst h
        repeat' (first | refine cs ?_ | refine ss ?_ | (((with_reducible apply Q_box); (focus (exact rfl)); (focus (exact rfl)); (focus (exact rfl))); intro bx) | (((with_reducible apply Q_alloc tab); (focus (exact rfl)); (focus (exact rfl)); (focus (exact rfl))); intro bx) | refine S_do (by kernel_rfl) (A_storeN tab rfl rfl rfl rfl rfl rfl rfl (by ((repeat (first | exact InB.head | apply InB.tail | (with_reducible apply InB.app))); done)) (by exact rfl) (by ((repeat (first | exact SetB.head | apply SetB.tail | (with_reducible apply SetB.app))); done)) ⟨Le.refl _, (by (repeat (first | exact trivial | (apply And.intro; (focus (first | (apply Or.inr; (try dsimp only); ((repeat (first | exact InB.head | apply InB.tail | (with_reducible apply InB.app))); done)) | (apply Or.inl; kernel_rfl))))))), ?_⟩))
        refine Q_op fun ho => A_callR β' ((bx, x.val.cells, 40) :: ([(bo, co, 3), (b4, (Value.agg (List.toArray [natV m.P, .slice m.a m.dawn.length m.cap])).cells, 26)] ++ seg)) ho bod15 rfl rfl rfl rfl rfl split_head (actOf_n (hr.le (union_le _ _)) hB2 (by omega) (hm.le (union_le _ _)) (hm.row.le (union_le _ _)) rfl hm.all) (fun y β' hR => ?_)
        clear ho
        obtain ⟨y, hy, rfl, n2, hn2, hB3⟩ := hR
        repeat' (first | refine cs ?_ | refine ss ?_ | (((with_reducible apply Q_box); (focus (exact rfl)); (focus (exact rfl)); (focus (exact rfl))); intro bx) | (((with_reducible apply Q_alloc tab); (focus (exact rfl)); (focus (exact rfl)); (focus (exact rfl))); intro bx) | refine S_do (by kernel_rfl) (A_storeN tab rfl rfl rfl rfl rfl rfl rfl (by ((repeat (first | exact InB.head | apply InB.tail | (with_reducible apply InB.app))); done)) (by exact rfl) (by ((repeat (first | exact SetB.head | apply SetB.tail | (with_reducible apply SetB.app))); done)) ⟨Le.refl _, (by (repeat (first | exact trivial | (apply And.intro; (focus (first | (apply Or.inr; (try dsimp only); ((repeat (first | exact InB.head | apply InB.tail | (with_reducible apply InB.app))); done)) | (apply Or.inl; kernel_rfl))))))), ?_⟩))
        refine Loop_normal ⟨_, _, ⟨rfl, y, β', n2, hy, hB3, by omega, rfl⟩, ⟨rfl, (by (repeat (first | exact trivial | refine ⟨rfl, ?_⟩))), show Subm ((bx, y.val.cells, 40) :: (β' ++ ([(bo, co, 3), (b4, (Value.agg (List.toArray [natV m.P, .slice m.a m.dawn.length m.cap])).cells, 26)] ++ seg))) (β' ++ ((bx, y.val.cells, 40) :: ([(bo, co, 3), (b4, (Value.agg (List.toArray [natV m.P, .slice m.a m.dawn.length m.cap])).cells, 26)] ++ seg))) from cntL⟩, Le.refl _⟩
      · subst h
        repeat' (first | refine cs ?_ | refine ss ?_ | (((with_reducible apply Q_box); (focus (exact rfl)); (focus (exact rfl)); (focus (exact rfl))); intro bx) | (((with_reducible apply Q_alloc tab); (focus (exact rfl)); (focus (exact rfl)); (focus (exact rfl))); intro bx) | refine S_do (by kernel_rfl) (A_storeN tab rfl rfl rfl rfl rfl rfl rfl (by ((repeat (first | exact InB.head | apply InB.tail | (with_reducible apply InB.app))); done)) (by exact rfl) (by ((repeat (first | exact SetB.head | apply SetB.tail | (with_reducible apply SetB.app))); done)) ⟨Le.refl _, (by (repeat (first | exact trivial | (apply And.intro; (focus (first | (apply Or.inr; (try dsimp only); ((repeat (first | exact InB.head | apply InB.tail | (with_reducible apply InB.app))); done)) | (apply Or.inl; kernel_rfl))))))), ?_⟩))
        refine Loop_normal ⟨_, _, ⟨rfl, x, β', _, hx, hB2, by omega, rfl⟩, ⟨rfl, (by (repeat (first | exact trivial | refine ⟨rfl, ?_⟩))), cntL⟩, Le.refl _⟩
  · (simp only [decide_eq_true_eq, decide_eq_false_iff_not, beq_iff_eq, bne_iff_ne, Bool.not_eq_true', beq_eq_false_iff_ne, bne_eq_false_iff_eq, ne_eq] at h)
    have hk0 : k = 0 := by omega
    subst hk0
    repeat' (first | refine cs ?_ | refine ss ?_ | (((with_reducible apply Q_box); (focus (exact rfl)); (focus (exact rfl)); (focus (exact rfl))); intro bx) | (((with_reducible apply Q_alloc tab); (focus (exact rfl)); (focus (exact rfl)); (focus (exact rfl))); intro bx) | refine S_do (by kernel_rfl) (A_storeN tab rfl rfl rfl rfl rfl rfl rfl (by ((repeat (first | exact InB.head | apply InB.tail | (with_reducible apply InB.app))); done)) (by exact rfl) (by ((repeat (first | exact SetB.head | apply SetB.tail | (with_reducible apply SetB.app))); done)) ⟨Le.refl _, (by (repeat (first | exact trivial | (apply And.intro; (focus (first | (apply Or.inr; (try dsimp only); ((repeat (first | exact InB.head | apply InB.tail | (with_reducible apply InB.app))); done)) | (apply Or.inl; kernel_rfl))))))), ?_⟩))
    refine Fn_ret tab (xs := [.slice a acts.length cap]) (βb ++ seg) (by exact .tmp rfl .nil) (Back.here cntL) ?_
    exact ⟨⟨acts, a, cap⟩, n, βb, seg, rfl, rfl, hBb, by omega, hSeg, by show acts.length ≤ 8; omega, hAll⟩
end
end Go.Proofs.Ytbbaionoibkohaa
end
