/- Part 24 of the proof that stands in the last text. -/
import Derived.Test.YtbbaionoibkohaaPaw
set_option linter.all false
section
namespace Go.Proofs.Ytbbaionoibkohaa
open Go Go.Pal Go.Pal.Db Go.Conc View
open Go.Proofs.Try
set_option maxHeartbeats 4000000
theorem bt_loop (bs : ByteArray) : ∀ (k i : Nat) (r : List UInt8), bs.size - i = k → ByteArray.toList.loop bs i r = r.reverse ++ bs.data.toList.drop i := by
  intro k
  induction k with
  | zero =>
    intro i r h
    rw [ByteArray.toList.loop, if_neg (by omega)]
    rw [List.drop_eq_nil_of_le (by have : bs.data.toList.length = bs.size := Array.length_toList
                                   omega), List.append_nil]
  | succ k ih =>
    intro i r h
    have hl : bs.data.toList.length = bs.size := Array.length_toList
    rw [ByteArray.toList.loop, if_pos (by omega), ih (i + 1) _ (by omega)]
    rw [List.drop_eq_getElem_cons (by omega : i < bs.data.toList.length)]
    have : bs.get! i = bs.data.toList[i]'(by omega) := by
      have hi : i < bs.data.size := by simpa using (by omega : i < bs.data.toList.length)
      show bs.data[i]! = _
      rw [getElem!_pos bs.data i hi, Array.getElem_toList]
    rw [this]
    simp
theorem bt_inj (a b : ByteArray) : (a.toList == b.toList) = true ↔ a = b := by
  have e : ∀ c : ByteArray, c.toList = c.data.toList := fun c => by
    unfold ByteArray.toList
    rw [bt_loop c _ 0 [] rfl]; simp
  rw [beq_iff_eq, e, e, Array.toList_inj]
  constructor
  · intro h; exact ByteArray.ext h
  · intro h; rw [h]
theorem repOk_len : ∀ {os : List Nat} {xs : List MAct} {r : List ByteArray}, RepOk os xs r → r.length = xs.length
  | _, [], [], _ => rfl
  | _, _ :: _, _ :: _, ⟨_, h⟩ => by simp [repOk_len h]
  | _, [], _ :: _, h => h.elim
  | _, _ :: _, [], h => h.elim
theorem repOk_at : ∀ {os : List Nat} {xs : List MAct} {r : List ByteArray} {i : Nat} (h : RepOk os xs r) (hi : i < xs.length) (hr : i < r.length), (r[i] = okS ↔ sold (duskOf os (xs.take i)) xs[i] = true)
  | _, _ :: _, _ :: _, 0, ⟨h, _⟩, _, _ => h
  | os, x :: xs, s :: r, i + 1, ⟨_, h⟩, hi, hr => by
    have := repOk_at (i := i) h (by simpa using hi) (by simpa using hr)
    simpa [duskOf] using this
  | _, [], _, _, _, hi, _ => by simp at hi
  | _, _ :: _, [], _, h, _, _ => h.elim
theorem bo_cell {x : Bo} {m : Mo} {v : View} (h : x.ok m v) (h0 : 0 < x.acts.length) :
    ∃ b off p c e f, x.a = some ⟨b, off, none⟩ ∧ v b = some (p, .cells c e f) ∧ ∀ j (hj : j < x.acts.length), c[off + j * 4]? = some (natV x.acts[j].k) ∧ c[off + j * 4 + 1]? = some (natV x.acts[j].a) ∧ c[off + j * 4 + 2]? = some (natV x.acts[j].b) ∧ c[off + j * 4 + 3]? = some (natV x.acts[j].h) := by
  obtain ⟨b, off, p, c, e, f, h1, h2, h3⟩ := h.get h0
  refine ⟨b, off, p, c, e, f, h1, h2, fun j hj => ?_⟩
  obtain ⟨h4, h5⟩ := h3 j hj
  have key : ∀ q, q < 4 → c[off + j * 4 + q]? = x.acts[j].cells[q]? := fun q hq => by
    have := congrArg (fun a : Array Value => a[q]?) h5
    simp only [Array.getElem?_extract] at this
    rw [if_pos (by omega)] at this
    rw [this]; simp
  exact ⟨key 0 (by decide), key 1 (by decide), key 2 (by decide), key 3 (by decide)⟩
theorem gat_snoc (l : List Int) (y : Int) (h : Nat) : gat (l ++ [y]) h = if h < l.length then gat l h else if h = l.length then y else 0 := by
  unfold gat
  rw [List.getD_eq_getElem?_getD, List.getD_eq_getElem?_getD]
  by_cases h1 : h < l.length
  · rw [if_pos h1, List.getElem?_append_left h1]
  · rw [if_neg h1, List.getElem?_append_right (by omega)]
    by_cases h2 : h = l.length
    · rw [if_pos h2, h2]; simp
    · rw [if_neg h2, List.getElem?_eq_none (by simp; omega)]; rfl
theorem gat_due {prs : List Int} {dawn dk : List Nat} {P : Nat} (h1 : ∀ x ∈ dawn, x < P) (h2 : ∀ x ∈ dk, x < P) (hp : prs.length = dawn.length) (hl : dk.length = dawn.length) (p : Nat) :
    ∀ h, h ≤ dawn.length → gat (dueOf prs dawn dk P h) p = wealth (dawn.take h) (prs.take h) p - wealth (dk.take h) (prs.take h) p
  | 0, _ => by
    have : gat (dueOf prs dawn dk P 0) p = 0 := by
      unfold gat dueOf; rw [List.getD_eq_getElem?_getD, List.getElem?_replicate]; split <;> rfl
    rw [this]; simp [wealth]
  | h + 1, hh => by
    have ih := gat_due h1 h2 hp hl p h (by omega)
    have g1 : dawn.getD h 0 = dawn[h] := by rw [List.getD_eq_getElem?_getD, List.getElem?_eq_getElem (by omega)]; rfl
    have g2 : dk.getD h 0 = dk[h] := by rw [List.getD_eq_getElem?_getD, List.getElem?_eq_getElem (by omega)]; rfl
    have g3 : gat prs h = prs[h] := by unfold gat; rw [List.getD_eq_getElem?_getD, List.getElem?_eq_getElem (by omega)]; rfl
    have e1 : dawn[h] < P := h1 _ (List.getElem_mem _)
    have e2 : dk[h] < P := h2 _ (List.getElem_mem _)
    have hD := dueOf_len prs dawn dk P h
    rw [dueOf, g1, g2, g3, gat_addAt (by rw [addAt_len, hD]; exact e2), gat_addAt (by rw [hD]; exact e1), gat_addAt (by rw [hD]; exact e1)]
    rw [List.take_succ_eq_append_getElem (by omega : h < dawn.length), List.take_succ_eq_append_getElem (by omega : h < dk.length), List.take_succ_eq_append_getElem (by omega : h < prs.length)]
    rw [wealth_snoc (by rw [List.length_take, List.length_take]; omega), wealth_snoc (by rw [List.length_take, List.length_take]; omega)]
    generalize dawn[h] = a at *
    generalize dk[h] = k at *
    generalize prs[h] = c at *
    generalize dueOf prs dawn dk P h = D at *
    by_cases ha : a = p
    · subst ha
      by_cases hk : k = a
      · subst hk; simp; omega
      · have hk' : ¬ a = k := fun e => hk e.symm
        simp [hk, hk']; omega
    · have ha' : ¬ p = a := fun e => ha e.symm
      by_cases hk : k = p
      · subst hk; simp [ha, ha']; omega
      · have hk' : ¬ p = k := fun e => hk e.symm
        simp [hk, hk', ha, ha']; omega
theorem ext_gat : ∀ {a b : List Int}, a.length = b.length → (∀ j, j < a.length → gat a j = gat b j) → a = b := fun {a b} hl h =>
  List.ext_getElem hl fun i h1 h2 => by
    have := h i h1
    unfold gat at this
    rw [List.getD_eq_getElem?_getD, List.getD_eq_getElem?_getD, List.getElem?_eq_getElem h1, List.getElem?_eq_getElem h2] at this
    exact this
theorem duskOf_lt {P N : Nat} : ∀ (xs : List MAct) (os : List Nat), (∀ y ∈ xs, y.ok P N) → (∀ y ∈ os, y < P) → ∀ y ∈ duskOf os xs, y < P
  | [], _, _, h => h
  | y :: ys, os, hy, h => duskOf_lt ys (doN os y) (fun z hz => hy z (by simp [hz])) (doN_lt h (hy y (by simp)).ab.2)
theorem nets_due {prs : List Int} {dawn : List Nat} {xs : List MAct} {P : Nat} (hP : P ≤ 4) (hma : ∀ x ∈ dawn, x < P) (hx : ∀ y ∈ xs, y.ok P dawn.length) (hp : prs.length = dawn.length) (hpr : ∀ h, h < prs.length → 1 ≤ gat prs h ∧ gat prs h ≤ 9) :
    (netsOf (dsOf prs dawn xs)).take P = dueOf prs dawn (duskOf dawn xs) P dawn.length ∧ ∀ p, P ≤ p → gat (netsOf (dsOf prs dawn xs)) p = 0 := by
  have hdl := duskOf_len xs dawn
  have hdk := duskOf_lt xs dawn hx hma
  have key := nets_wealth hP dawn xs (List.replicate 5 0) (by rw [hp]; exact hx) hpr (by omega) (by simp)
  have z0 : ∀ p, gat (List.replicate 5 0) p = 0 := fun p => by
    unfold gat; rw [List.getD_eq_getElem?_getD, List.getElem?_replicate]; split <;> rfl
  constructor
  · refine ext_gat (by rw [List.length_take, netsOf_len, dueOf_len]; omega) fun j hj => ?_
    rw [List.length_take, netsOf_len] at hj
    have e1 := gat_due hma hdk hp hdl j dawn.length (Nat.le_refl _)
    rw [List.take_length, ← hp, List.take_length, hp, ← hdl, List.take_length, hdl] at e1
    rw [e1]
    have e2 : gat ((netsOf (dsOf prs dawn xs)).take P) j = gat (netsOf (dsOf prs dawn xs)) j := by
      unfold gat
      rw [List.getD_eq_getElem?_getD, List.getD_eq_getElem?_getD, List.getElem?_take, if_pos (by omega)]
    rw [e2]
    have := key j
    rw [z0] at this
    unfold netsOf
    omega
  · intro p h
    have := key p
    rw [z0, wealth_off hma h, wealth_off hdk h] at this
    unfold netsOf
    omega
structure PrS where
  i : Nat
  prs : List Int
  seg : Boxes
  a : Option Addr
  cap : Nat
  n : Nat
  βb : Boxes
theorem paid_run {W : World} {v : View} {a0 : Option Addr} {cap : Nat} {ns : List Int} (hns : RowAt v a0 (ns.map (.int .i64))) (hag : v.Agree W) (hro : ∀ b, ¬ v.Owns b) :
    Calls Try.prog 3 #[.slice a0 ns.length cap] W fun e W' => e = .returned (.bool true) ∧ Go.RowKit.Below W.heap.size W W' := by
  refine calls_lone (args := [.slice a0 ns.length cap]) func3 rfl (Nat.le_of_ble_eq_true rfl) rfl hag hro ?_
  repeat' (first | refine cs ?_ | refine ss ?_ | (((with_reducible apply Q_box); (focus (exact rfl)); (focus (exact rfl)); (focus (exact rfl))); intro bx) | (((with_reducible apply Q_alloc tab); (focus (exact rfl)); (focus (exact rfl)); (focus (exact rfl))); intro bx) | refine S_do (by kernel_rfl) (A_storeN tab rfl rfl rfl rfl rfl rfl rfl (by ((repeat (first | exact InB.head | apply InB.tail | (with_reducible apply InB.app))); done)) (by exact rfl) (by ((repeat (first | exact SetB.head | apply SetB.tail | (with_reducible apply SetB.app))); done)) ⟨Le.refl _, (by (repeat (first | exact trivial | (apply And.intro; (focus (first | (apply Or.inr; (try dsimp only); ((repeat (first | exact InB.head | apply InB.tail | (with_reducible apply InB.app))); done)) | (apply Or.inl; kernel_rfl))))))), ?_⟩))
  refine Q_op fun ho => A_callR ([]) ([]) ho bod4 rfl rfl rfl rfl rfl cntA (newBag_x) (fun x β' hR => ?_)
  clear ho
  obtain ⟨bg, rfl, hB⟩ := hR
  obtain ⟨g, hg⟩ : ∃ g : Bg, g = ⟨bg, a0, cap, ns⟩ := ⟨_, rfl⟩
  rw [← hg] at hB ⊢
  have hgk : g.ok v := by subst hg; exact hns
  repeat' (first | refine cs ?_ | refine ss ?_ | (((with_reducible apply Q_box); (focus (exact rfl)); (focus (exact rfl)); (focus (exact rfl))); intro bx) | (((with_reducible apply Q_alloc tab); (focus (exact rfl)); (focus (exact rfl)); (focus (exact rfl))); intro bx) | refine S_do (by kernel_rfl) (A_storeN tab rfl rfl rfl rfl rfl rfl rfl (by ((repeat (first | exact InB.head | apply InB.tail | (with_reducible apply InB.app))); done)) (by exact rfl) (by ((repeat (first | exact SetB.head | apply SetB.tail | (with_reducible apply SetB.app))); done)) ⟨Le.refl _, (by (repeat (first | exact trivial | (apply And.intro; (focus (first | (apply Or.inr; (try dsimp only); ((repeat (first | exact InB.head | apply InB.tail | (with_reducible apply InB.app))); done)) | (apply Or.inl; kernel_rfl))))))), ?_⟩))
  refine Q_op fun ho => A_callR (β') (_) ho bod5 rfl rfl rfl rfl rfl (by repeat (first | (with_reducible exact split_head) | (with_reducible exact split_headA) | (with_reducible exact split_all) | (with_reducible apply split_cons))) (mornOf_x (hgk.le (union_le _ _)) hB (by omega)) (fun x β' hR => ?_)
  clear ho
  obtain ⟨m, n1, βb, segm, rfl, rfl, hB1, hn1, hSm, hmP, hml, hma⟩ := hR
  have hmv : m.val = .agg (List.toArray [natV m.P, .slice m.a m.dawn.length m.cap]) := rfl
  rw [hmv]
  refine Q_retire (β1 := segm) (β2 := βb) cntA fun hbk1 => ?_
  obtain ⟨v1, hv1⟩ : ∃ v1, v1 = v.union (bview segm) := ⟨_, rfl⟩
  have hle1 : v.Le v1 := by rw [hv1]; exact union_le _ _
  have hm : m.ok v1 := ⟨by rw [hv1]; exact RowAt.own hbk1 (fun _ => Nat.le_refl _) hSm, hmP, hml, hma⟩
  rw [← hv1]
  have hgk1 := hgk.le hle1
  clear hbk1 hSm hv1
  repeat' (first | refine cs ?_ | refine ss ?_ | (((with_reducible apply Q_box); (focus (exact rfl)); (focus (exact rfl)); (focus (exact rfl))); intro bx) | (((with_reducible apply Q_alloc tab); (focus (exact rfl)); (focus (exact rfl)); (focus (exact rfl))); intro bx) | refine S_do (by kernel_rfl) (A_storeN tab rfl rfl rfl rfl rfl rfl rfl (by ((repeat (first | exact InB.head | apply InB.tail | (with_reducible apply InB.app))); done)) (by exact rfl) (by ((repeat (first | exact SetB.head | apply SetB.tail | (with_reducible apply SetB.app))); done)) ⟨Le.refl _, (by (repeat (first | exact trivial | (apply And.intro; (focus (first | (apply Or.inr; (try dsimp only); ((repeat (first | exact InB.head | apply InB.tail | (with_reducible apply InB.app))); done)) | (apply Or.inl; kernel_rfl))))))), ?_⟩))
  obtain ⟨b4, rfl⟩ : ∃ b : Nat, b = bx := ⟨bx, rfl⟩
  refine Q_op fun ho => A_callR (βb) ([(b4, (Value.agg (List.toArray [natV m.P, .slice m.a m.dawn.length m.cap])).cells, 26)]) ho bod6 rfl rfl rfl rfl rfl (show ∀ p, Pal.cnt p ((b4, (Value.agg (List.toArray [natV m.P, .slice m.a m.dawn.length m.cap])).cells, 26) :: βb) = Pal.cnt p (βb ++ [(b4, (Value.agg (List.toArray [natV m.P, .slice m.a m.dawn.length m.cap])).cells, 26)]) from cntA) (bookOf_x (hgk1.le (union_le _ _)) hB1 (by omega) (hm.le (union_le _ _))) (fun x β' hR => ?_)
  clear ho
  obtain ⟨x, n2, βc, segx, rfl, rfl, hB2, hn2, hSx, hxl, hxa⟩ := hR
  refine Q_retire (β1 := segx) (β2 := βc ++ [(b4, (Value.agg (List.toArray [natV m.P, .slice m.a m.dawn.length m.cap])).cells, 26)]) cntA fun hbk2 => ?_
  obtain ⟨v2, hv2⟩ : ∃ v2, v2 = v1.union (bview segx) := ⟨_, rfl⟩
  have hle2 : v1.Le v2 := by rw [hv2]; exact union_le _ _
  have hx : x.ok m v2 := ⟨by rw [hv2]; exact RowAt.own hbk2 (fun _ => Nat.le_refl _) hSx, hxl, hxa⟩
  rw [← hv2]
  have hgk2 := hgk1.le hle2
  have hm2 := hm.le hle2
  clear hbk2 hSx hv2
  have hxv : x.val = .slice x.a x.acts.length x.cap := rfl
  rw [hxv]
  repeat' (first | refine cr ?_ | refine ss ?_ | (((with_reducible apply Q_box); (focus (exact rfl)); (focus (exact rfl)); (focus (exact rfl))); intro bx) | (((with_reducible apply Q_alloc tab); (focus (exact rfl)); (focus (exact rfl)); (focus (exact rfl))); intro bx) | refine S_do (by kernel_rfl) (A_storeN tab rfl rfl rfl rfl rfl rfl rfl (by ((repeat (first | exact InB.head | apply InB.tail | (with_reducible apply InB.app))); done)) (by exact rfl) (by ((repeat (first | exact SetB.head | apply SetB.tail | (with_reducible apply SetB.app))); done)) ⟨Le.refl _, (by (repeat (first | exact trivial | (apply And.intro; (focus (first | (apply Or.inr; (try dsimp only); ((repeat (first | exact InB.head | apply InB.tail | (with_reducible apply InB.app))); done)) | (apply Or.inl; kernel_rfl))))))), ?_⟩))
  refine C_cut (fun σ w => w = v2 ∧ ∃ (prs : List Int) (segp : Boxes) (ap : Option Addr) (cp : Nat), prs.length = m.dawn.length ∧ (∀ h, h < prs.length → 1 ≤ gat prs h ∧ gat prs h ≤ 9) ∧ OwnS 3 1 segp ap prs.length cp (prs.map intV) ∧
    σ = ⟨[], [(6, .slice ap prs.length cp), (5, .slice x.a x.acts.length x.cap), (4, .pointer (some ⟨b4, 0, none⟩))], (b4, (Value.agg (List.toArray [natV m.P, .slice m.a m.dawn.length m.cap])).cells, 26) :: segp⟩) ?_ ?_
  · rintro σ w ⟨rfl, prs, segp, ap, cp, hpl, hpr, hSp, rfl⟩
    refine XC_retire (β1 := segp) (β2 := [(b4, (Value.agg (List.toArray [natV m.P, .slice m.a m.dawn.length m.cap])).cells, 26)]) cntA fun hbk3 => ?_
    obtain ⟨v3, hv3⟩ : ∃ v3, v3 = w.union (bview segp) := ⟨_, rfl⟩
    have hle3 : w.Le v3 := by rw [hv3]; exact union_le _ _
    have hrp : RowAt v3 ap (prs.map intV) := by rw [hv3]; exact RowAt.own hbk3 (fun _ => Nat.le_refl _) hSp
    rw [← hv3]
    have hm3 := hm2.le hle3
    have hx3 := hx.le hle3
    have hvv3 := (hle1.trans hle2).trans hle3
    clear hbk3 hSp hv3 hgk hgk1 hgk2 hm hm2 hx hle1 hle2 hle3 hns hB hB1 hB2
    repeat' (first | refine cs ?_ | refine ss ?_ | (((with_reducible apply Q_box); (focus (exact rfl)); (focus (exact rfl)); (focus (exact rfl))); intro bx) | (((with_reducible apply Q_alloc tab); (focus (exact rfl)); (focus (exact rfl)); (focus (exact rfl))); intro bx) | refine S_do (by kernel_rfl) (A_storeN tab rfl rfl rfl rfl rfl rfl rfl (by ((repeat (first | exact InB.head | apply InB.tail | (with_reducible apply InB.app))); done)) (by exact rfl) (by ((repeat (first | exact SetB.head | apply SetB.tail | (with_reducible apply SetB.app))); done)) ⟨Le.refl _, (by (repeat (first | exact trivial | (apply And.intro; (focus (first | (apply Or.inr; (try dsimp only); ((repeat (first | exact InB.head | apply InB.tail | (with_reducible apply InB.app))); done)) | (apply Or.inl; kernel_rfl))))))), ?_⟩))
    refine Q_op fun ho => A_callR ([]) (_) ho bod8 rfl rfl rfl rfl rfl split0 (hold_x (hm3.le (union_le _ _)) (hx3.le (union_le _ _))) (fun x β' hR => ?_)
    clear ho
    obtain ⟨ar, cpr, ad, cd, segr, segd, rep, rfl, rfl, hSr, hSd, hrep⟩ := hR
    refine Q_retire (β1 := segr ++ segd) (β2 := [(b4, (Value.agg (List.toArray [natV m.P, .slice m.a m.dawn.length m.cap])).cells, 26)]) cntA fun hbk4 => ?_
    obtain ⟨v4, hv4⟩ : ∃ v4, v4 = v3.union (bview (segr ++ segd)) := ⟨_, rfl⟩
    have hle4 : v3.Le v4 := by rw [hv4]; exact union_le _ _
    have hrr : RowAt v4 ar (rep.map .string) := by rw [hv4]; exact RowAt.own hbk4 cntL hSr
    have hrd : RowAt v4 ad ((duskOf m.dawn x.acts).map natV) := by rw [hv4]; exact RowAt.own hbk4 cntL hSd
    rw [← hv4]
    have hm4 := hm3.le hle4
    have hx4 := hx3.le hle4
    have hrp4 := hrp.le hle4
    have hvv4 := hvv3.trans hle4
    clear hbk4 hSr hSd hv4 hm3 hx3 hrp hvv3 hle4
    have hrl := repOk_len hrep
    have hdl := duskOf_len x.acts m.dawn
    obtain ⟨dk, hdk⟩ : ∃ dk, dk = duskOf m.dawn x.acts := ⟨_, rfl⟩
    rw [← hdk] at hrd hdl ⊢
    repeat' (first | refine cs ?_ | refine ss ?_ | (((with_reducible apply Q_box); (focus (exact rfl)); (focus (exact rfl)); (focus (exact rfl))); intro bx) | (((with_reducible apply Q_alloc tab); (focus (exact rfl)); (focus (exact rfl)); (focus (exact rfl))); intro bx) | refine S_do (by kernel_rfl) (A_storeN tab rfl rfl rfl rfl rfl rfl rfl (by ((repeat (first | exact InB.head | apply InB.tail | (with_reducible apply InB.app))); done)) (by exact rfl) (by ((repeat (first | exact SetB.head | apply SetB.tail | (with_reducible apply SetB.app))); done)) ⟨Le.refl _, (by (repeat (first | exact trivial | (apply And.intro; (focus (first | (apply Or.inr; (try dsimp only); ((repeat (first | exact InB.head | apply InB.tail | (with_reducible apply InB.app))); done)) | (apply Or.inl; kernel_rfl))))))), ?_⟩))
    rw [show ((rep.length : Int) != x.acts.length) = false from bne_eq_false_iff_eq.2 (by omega)]
    repeat' (first | refine cs ?_ | refine ss ?_ | (((with_reducible apply Q_box); (focus (exact rfl)); (focus (exact rfl)); (focus (exact rfl))); intro bx) | (((with_reducible apply Q_alloc tab); (focus (exact rfl)); (focus (exact rfl)); (focus (exact rfl))); intro bx) | refine S_do (by kernel_rfl) (A_storeN tab rfl rfl rfl rfl rfl rfl rfl (by ((repeat (first | exact InB.head | apply InB.tail | (with_reducible apply InB.app))); done)) (by exact rfl) (by ((repeat (first | exact SetB.head | apply SetB.tail | (with_reducible apply SetB.app))); done)) ⟨Le.refl _, (by (repeat (first | exact trivial | (apply And.intro; (focus (first | (apply Or.inr; (try dsimp only); ((repeat (first | exact InB.head | apply InB.tail | (with_reducible apply InB.app))); done)) | (apply Or.inl; kernel_rfl))))))), ?_⟩))
    rw [show ((dk.length : Int) != m.dawn.length) = false from bne_eq_false_iff_eq.2 (by omega)]
    repeat' (first | refine cs ?_ | refine ss ?_ | (((with_reducible apply Q_box); (focus (exact rfl)); (focus (exact rfl)); (focus (exact rfl))); intro bx) | (((with_reducible apply Q_alloc tab); (focus (exact rfl)); (focus (exact rfl)); (focus (exact rfl))); intro bx) | refine S_do (by kernel_rfl) (A_storeN tab rfl rfl rfl rfl rfl rfl rfl (by ((repeat (first | exact InB.head | apply InB.tail | (with_reducible apply InB.app))); done)) (by exact rfl) (by ((repeat (first | exact SetB.head | apply SetB.tail | (with_reducible apply SetB.app))); done)) ⟨Le.refl _, (by (repeat (first | exact trivial | (apply And.intro; (focus (first | (apply Or.inr; (try dsimp only); ((repeat (first | exact InB.head | apply InB.tail | (with_reducible apply InB.app))); done)) | (apply Or.inl; kernel_rfl))))))), ?_⟩))
    refine Q_op fun ho => A_make tab (m := m.P) (x := undef) ho rfl rfl rfl rfl rfl rfl rfl rfl rfl (by omega) (by omega) (fun b66 c66 hs66 hz66 => ?_)
    clear ho
    refine Q_retire (β1 := [(b66, c66, 22)]) (β2 := [(b4, (Value.agg (List.toArray [natV m.P, .slice m.a m.dawn.length m.cap])).cells, 26)]) cntA fun hbk5 => ?_
    obtain ⟨v5, hv5⟩ : ∃ v5, v5 = v4.union (bview [(b66, c66, 22)]) := ⟨_, rfl⟩
    have hle5 : v4.Le v5 := by rw [hv5]; exact union_le _ _
    have hrow66 : RowAt v5 (some ⟨b66, 0, none⟩) (List.replicate m.P (.slice none 0 0)) := by
      rw [hv5]
      exact row_rep (union_box hbk5 .head) (by omega) (fun j hj => by rw [hz66 j (by omega)]; show some ((#[Value.slice none 0 0] : Array Value)[j % 1]!) = _; rw [Nat.mod_one]; rfl)
    rw [← hv5]
    repeat' (first | refine cr ?_ | refine ss ?_ | (((with_reducible apply Q_box); (focus (exact rfl)); (focus (exact rfl)); (focus (exact rfl))); intro bx) | (((with_reducible apply Q_alloc tab); (focus (exact rfl)); (focus (exact rfl)); (focus (exact rfl))); intro bx) | refine S_do (by kernel_rfl) (A_storeN tab rfl rfl rfl rfl rfl rfl rfl (by ((repeat (first | exact InB.head | apply InB.tail | (with_reducible apply InB.app))); done)) (by exact rfl) (by ((repeat (first | exact SetB.head | apply SetB.tail | (with_reducible apply SetB.app))); done)) ⟨Le.refl _, (by (repeat (first | exact trivial | (apply And.intro; (focus (first | (apply Or.inr; (try dsimp only); ((repeat (first | exact InB.head | apply InB.tail | (with_reducible apply InB.app))); done)) | (apply Or.inl; kernel_rfl))))))), ?_⟩))
    have hm5 := hm4.le hle5
    have hx5 := hx4.le hle5
    have hrr5 := hrr.le hle5
    have hrd5 := hrd.le hle5
    have hrp5 := hrp4.le hle5
    have hvv5 := hvv4.trans hle5
    clear hm4 hx4 hrr hrd hrp4 hvv4 hle5 hv5 hbk5
    obtain ⟨b11, rfl⟩ : ∃ b : Nat, b = bx := ⟨bx, rfl⟩
    refine C_cut (fun σ w => w = v5 ∧ ∃ (segd : Boxes) (sa : Option Addr) (sc : Nat), OwnS 42 3 segd sa (dsOf prs m.dawn x.acts).length sc (dtC (dsOf prs m.dawn x.acts)) ∧
      σ = ⟨[], [(11, .pointer (some ⟨b11, 0, none⟩)), (9, .slice ad dk.length cd), (6, .slice ap prs.length cp), (4, .pointer (some ⟨b4, 0, none⟩))], (b11, List.toArray [.slice (some ⟨b66, 0, none⟩) m.P m.P, .slice sa (dsOf prs m.dawn x.acts).length sc], 38) :: (b4, (Value.agg (List.toArray [natV m.P, .slice m.a m.dawn.length m.cap])).cells, 26) :: segd⟩) ?_ ?_
    · rintro σ w ⟨rfl, segd', sa, sc, hSd2, rfl⟩
      refine XC_retire (β1 := segd') (β2 := [(b11, List.toArray [.slice (some ⟨b66, 0, none⟩) m.P m.P, .slice sa (dsOf prs m.dawn x.acts).length sc], 38), (b4, (Value.agg (List.toArray [natV m.P, .slice m.a m.dawn.length m.cap])).cells, 26)]) cntA fun hbk6 => ?_
      obtain ⟨v6, hv6⟩ : ∃ v6, v6 = w.union (bview segd') := ⟨_, rfl⟩
      have hle6 : w.Le v6 := by rw [hv6]; exact union_le _ _
      have hrds : RowAt v6 sa (dtC (dsOf prs m.dawn x.acts)) := by rw [hv6]; exact RowAt.own hbk6 (fun _ => Nat.le_refl _) hSd2
      rw [← hv6]
      obtain ⟨o, hod⟩ : ∃ o : Ow, o = ⟨m.P, some ⟨b66, 0, none⟩, m.P, dsOf prs m.dawn x.acts, sa, sc⟩ := ⟨_, rfl⟩
      have hoo : o.ok v6 := by
        subst hod
        exact ⟨hrow66.le hle6, hrds, hmP, by have := dsOf_len prs m.dawn x.acts; have := hx5.len; show (dsOf prs m.dawn x.acts).length ≤ 8; omega, dsOf_ok (N := m.dawn.length) (fun h hh => hpr h (by omega)) hxa⟩
      have hm6 := hm5.le hle6
      have hrd6 := hrd5.le hle6
      have hrp6 := hrp5.le hle6
      have hvv6 := hvv5.trans hle6
      clear hbk6 hSd2 hrds hm5 hx5 hrr5 hrd5 hrp5 hvv5 hrow66 hle6 hv6
      have hdkP : ∀ y ∈ dk, y < m.P := by rw [hdk]; exact duskOf_lt _ _ hxa hma
      obtain ⟨hnet, hoff⟩ := nets_due hmP.2 hma hxa hpl hpr
      rw [← hdk] at hnet
      have hods : o.ds = dsOf prs m.dawn x.acts := by rw [hod]
      have hon : o.n = m.P := by rw [hod]
      rw [← hods] at hnet hoff
      have ht := tail_x hm6 hoo hon hrp6 hrd6 hpl hdl hpr hdkP hnet (settle_ex hoo (by rw [hon]; exact hoff)) hoff (b4 := b4) (b11 := b11) (cp := cp) (cd := cd)
      subst hod
      exact ht
    · repeat' (first | refine cs ?_ | refine ss ?_ | (((with_reducible apply Q_box); (focus (exact rfl)); (focus (exact rfl)); (focus (exact rfl))); intro bx) | (((with_reducible apply Q_alloc tab); (focus (exact rfl)); (focus (exact rfl)); (focus (exact rfl))); intro bx) | refine S_do (by kernel_rfl) (A_storeN tab rfl rfl rfl rfl rfl rfl rfl (by ((repeat (first | exact InB.head | apply InB.tail | (with_reducible apply InB.app))); done)) (by exact rfl) (by ((repeat (first | exact SetB.head | apply SetB.tail | (with_reducible apply SetB.app))); done)) ⟨Le.refl _, (by (repeat (first | exact trivial | (apply And.intro; (focus (first | (apply Or.inr; (try dsimp only); ((repeat (first | exact InB.head | apply InB.tail | (with_reducible apply InB.app))); done)) | (apply Or.inl; kernel_rfl))))))), ?_⟩))
      refine C_loop (α := Nat × Boxes × Option Addr × Nat) (fun z => ⟨[], [(12, .int .i64 z.1), (11, .pointer (some ⟨b11, 0, none⟩)), (9, .slice ad dk.length cd), (8, .slice ar rep.length cpr), (6, .slice ap prs.length cp), (5, .slice x.a x.acts.length x.cap), (4, .pointer (some ⟨b4, 0, none⟩))], (b11, List.toArray [.slice (some ⟨b66, 0, none⟩) m.P m.P, .slice z.2.2.1 (dsOf prs m.dawn (x.acts.take z.1)).length z.2.2.2], 38) :: (b4, (Value.agg (List.toArray [natV m.P, .slice m.a m.dawn.length m.cap])).cells, 26) :: z.2.1⟩)
        (fun z w => w = v5 ∧ z.1 ≤ x.acts.length ∧ OwnS 42 3 z.2.1 z.2.2.1 (dsOf prs m.dawn (x.acts.take z.1)).length z.2.2.2 (dtC (dsOf prs m.dawn (x.acts.take z.1)))) (fun z => x.acts.length - z.1) (0, [], none, 0)
        ⟨rfl, (by (repeat (first | exact trivial | refine ⟨rfl, ?_⟩))), (show Subm [(b11, List.toArray [.slice (some ⟨b66, 0, none⟩) m.P m.P, .slice none 0 0], 38), (b4, (Value.agg (List.toArray [natV m.P, .slice m.a m.dawn.length m.cap])).cells, 26)] [(b11, List.toArray [.slice (some ⟨b66, 0, none⟩) m.P m.P, .slice none 0 0], 38), (b4, (Value.agg (List.toArray [natV m.P, .slice m.a m.dawn.length m.cap])).cells, 26)] from fun _ => Nat.le_refl _)⟩ (Le.refl _) ⟨rfl, Nat.zero_le _, .nil⟩ ?_
      rintro ⟨i, seg, sa, sc⟩ w ⟨rfl, hi, hS⟩
      simp only at hi hS
      dsimp only
      repeat' (first | refine cs ?_ | refine ss ?_ | (((with_reducible apply Q_box); (focus (exact rfl)); (focus (exact rfl)); (focus (exact rfl))); intro bx) | (((with_reducible apply Q_alloc tab); (focus (exact rfl)); (focus (exact rfl)); (focus (exact rfl))); intro bx) | refine S_do (by kernel_rfl) (A_storeN tab rfl rfl rfl rfl rfl rfl rfl (by ((repeat (first | exact InB.head | apply InB.tail | (with_reducible apply InB.app))); done)) (by exact rfl) (by ((repeat (first | exact SetB.head | apply SetB.tail | (with_reducible apply SetB.app))); done)) ⟨Le.refl _, (by (repeat (first | exact trivial | (apply And.intro; (focus (first | (apply Or.inr; (try dsimp only); ((repeat (first | exact InB.head | apply InB.tail | (with_reducible apply InB.app))); done)) | (apply Or.inl; kernel_rfl))))))), ?_⟩))
      refine XC_cond rfl (fun h => ?_) (fun h => ?_)
      · (simp only [decide_eq_true_eq, decide_eq_false_iff_not, beq_iff_eq, bne_iff_ne, Bool.not_eq_true', beq_eq_false_iff_ne, bne_eq_false_iff_eq, ne_eq] at h)
        have hlt : i < x.acts.length := by omega
        clear h
        obtain ⟨bo, offo, po, c, e, f, hxa2, hvo, hcx⟩ := bo_cell hx5 (by omega)
        obtain ⟨hk, ha, hb, hh⟩ := hcx i hlt
        have hact := hxa _ (List.getElem_mem hlt)
        have hsn := dsOf_snoc prs m.dawn (x.acts.take i) x.acts[i]
        rw [← List.take_succ_eq_append_getElem hlt] at hsn
        have hro2 := repOk_at hrep hlt (by omega)
        rw [hxa2]
        repeat' (first | refine cs ?_ | refine ss ?_ | (((with_reducible apply Q_box); (focus (exact rfl)); (focus (exact rfl)); (focus (exact rfl))); intro bx) | (((with_reducible apply Q_alloc tab); (focus (exact rfl)); (focus (exact rfl)); (focus (exact rfl))); intro bx) | refine S_do (by kernel_rfl) (A_storeN tab rfl rfl rfl rfl rfl rfl rfl (by ((repeat (first | exact InB.head | apply InB.tail | (with_reducible apply InB.app))); done)) (by exact rfl) (by ((repeat (first | exact SetB.head | apply SetB.tail | (with_reducible apply SetB.app))); done)) ⟨Le.refl _, (by (repeat (first | exact trivial | (apply And.intro; (focus (first | (apply Or.inr; (try dsimp only); ((repeat (first | exact InB.head | apply InB.tail | (with_reducible apply InB.app))); done)) | (apply Or.inl; kernel_rfl))))))), ?_⟩))
        refine Q_elem tab i rfl rfl rfl rfl rfl rfl rfl hlt ?_
        repeat' (first | refine cs ?_ | refine ss ?_ | (((with_reducible apply Q_box); (focus (exact rfl)); (focus (exact rfl)); (focus (exact rfl))); intro bx) | (((with_reducible apply Q_alloc tab); (focus (exact rfl)); (focus (exact rfl)); (focus (exact rfl))); intro bx) | refine S_do (by kernel_rfl) (A_storeN tab rfl rfl rfl rfl rfl rfl rfl (by ((repeat (first | exact InB.head | apply InB.tail | (with_reducible apply InB.app))); done)) (by exact rfl) (by ((repeat (first | exact SetB.head | apply SetB.tail | (with_reducible apply SetB.app))); done)) ⟨Le.refl _, (by (repeat (first | exact trivial | (apply And.intro; (focus (first | (apply Or.inr; (try dsimp only); ((repeat (first | exact InB.head | apply InB.tail | (with_reducible apply InB.app))); done)) | (apply Or.inl; kernel_rfl))))))), ?_⟩))
        refine Q_load tab rfl rfl rfl hvo (readB_one tab rfl rfl rfl hk) ?_
        repeat' (first | refine cs ?_ | refine ss ?_ | (((with_reducible apply Q_box); (focus (exact rfl)); (focus (exact rfl)); (focus (exact rfl))); intro bx) | (((with_reducible apply Q_alloc tab); (focus (exact rfl)); (focus (exact rfl)); (focus (exact rfl))); intro bx) | refine S_do (by kernel_rfl) (A_storeN tab rfl rfl rfl rfl rfl rfl rfl (by ((repeat (first | exact InB.head | apply InB.tail | (with_reducible apply InB.app))); done)) (by exact rfl) (by ((repeat (first | exact SetB.head | apply SetB.tail | (with_reducible apply SetB.app))); done)) ⟨Le.refl _, (by (repeat (first | exact trivial | (apply And.intro; (focus (first | (apply Or.inr; (try dsimp only); ((repeat (first | exact InB.head | apply InB.tail | (with_reducible apply InB.app))); done)) | (apply Or.inl; kernel_rfl))))))), ?_⟩))
        have hskip : sold (duskOf m.dawn (x.acts.take i)) x.acts[i] = false → dsOf prs m.dawn (x.acts.take (i + 1)) = dsOf prs m.dawn (x.acts.take i) := fun e => by rw [hsn, e]; simp
        by_cases hk0 : x.acts[i].k = 0
        · rw [show ((x.acts[i].k : Int) == 0) = true from beq_iff_eq.2 (by omega)]
          obtain ⟨br, offr, pr, cr2, er, fr, rfl, hvr, hcr⟩ := hrr5.get (show i < rep.length by omega)
          repeat' (first | refine cs ?_ | refine ss ?_ | (((with_reducible apply Q_box); (focus (exact rfl)); (focus (exact rfl)); (focus (exact rfl))); intro bx) | (((with_reducible apply Q_alloc tab); (focus (exact rfl)); (focus (exact rfl)); (focus (exact rfl))); intro bx) | refine S_do (by kernel_rfl) (A_storeN tab rfl rfl rfl rfl rfl rfl rfl (by ((repeat (first | exact InB.head | apply InB.tail | (with_reducible apply InB.app))); done)) (by exact rfl) (by ((repeat (first | exact SetB.head | apply SetB.tail | (with_reducible apply SetB.app))); done)) ⟨Le.refl _, (by (repeat (first | exact trivial | (apply And.intro; (focus (first | (apply Or.inr; (try dsimp only); ((repeat (first | exact InB.head | apply InB.tail | (with_reducible apply InB.app))); done)) | (apply Or.inl; kernel_rfl))))))), ?_⟩))
          refine Q_elem tab i rfl rfl rfl rfl rfl rfl rfl (by omega) ?_
          refine Q_load tab rfl rfl rfl hvr (readB_one tab rfl rfl rfl (by rw [Nat.mul_one]; exact hcr _ (by omega))) ?_
          repeat' (first | refine cs ?_ | refine ss ?_ | (((with_reducible apply Q_box); (focus (exact rfl)); (focus (exact rfl)); (focus (exact rfl))); intro bx) | (((with_reducible apply Q_alloc tab); (focus (exact rfl)); (focus (exact rfl)); (focus (exact rfl))); intro bx) | refine S_do (by kernel_rfl) (A_storeN tab rfl rfl rfl rfl rfl rfl rfl (by ((repeat (first | exact InB.head | apply InB.tail | (with_reducible apply InB.app))); done)) (by exact rfl) (by ((repeat (first | exact SetB.head | apply SetB.tail | (with_reducible apply SetB.app))); done)) ⟨Le.refl _, (by (repeat (first | exact trivial | (apply And.intro; (focus (first | (apply Or.inr; (try dsimp only); ((repeat (first | exact InB.head | apply InB.tail | (with_reducible apply InB.app))); done)) | (apply Or.inl; kernel_rfl))))))), ?_⟩))
          by_cases hs : sold (duskOf m.dawn (x.acts.take i)) x.acts[i] = true
          · rw [show (rep[i].toList == (ByteArray.mk #[111, 107]).toList) = true from (bt_inj _ _).2 (hro2.2 hs)]
            rw [hs] at hsn
            obtain ⟨bp, offp, pp, cp2, ep, fp, rfl, hvp, hcp⟩ := hrp5.get (show x.acts[i].h < prs.length by have := hact.h; omega)
            have hgp : gat prs x.acts[i].h = prs[x.acts[i].h]'(by have := hact.h; omega) := by
              unfold gat; rw [List.getD_eq_getElem?_getD, List.getElem?_eq_getElem (by have := hact.h; omega)]; rfl
            have hdl2 := dsOf_len prs m.dawn (x.acts.take i)
            rw [List.length_take] at hdl2
            have hx8 := hx5.len
            repeat' (first | refine cs ?_ | refine ss ?_ | (((with_reducible apply Q_box); (focus (exact rfl)); (focus (exact rfl)); (focus (exact rfl))); intro bx) | (((with_reducible apply Q_alloc tab); (focus (exact rfl)); (focus (exact rfl)); (focus (exact rfl))); intro bx) | refine S_do (by kernel_rfl) (A_storeN tab rfl rfl rfl rfl rfl rfl rfl (by ((repeat (first | exact InB.head | apply InB.tail | (with_reducible apply InB.app))); done)) (by exact rfl) (by ((repeat (first | exact SetB.head | apply SetB.tail | (with_reducible apply SetB.app))); done)) ⟨Le.refl _, (by (repeat (first | exact trivial | (apply And.intro; (focus (first | (apply Or.inr; (try dsimp only); ((repeat (first | exact InB.head | apply InB.tail | (with_reducible apply InB.app))); done)) | (apply Or.inl; kernel_rfl))))))), ?_⟩))
            refine C_draw [21, 22, 24] [0, 1, 2, 3, 4, 5, 6, 7, 8, 9, 10, 11, 12, 13, 14, 15, 16, 17, 18, 19, 20, 21, 22, 23, 24] mixed rfl (by kernel_rfl) ?_
            repeat' (first | refine cs ?_ | refine ss ?_ | (((with_reducible apply Q_box); (focus (exact rfl)); (focus (exact rfl)); (focus (exact rfl))); intro bx) | (((with_reducible apply Q_alloc tab); (focus (exact rfl)); (focus (exact rfl)); (focus (exact rfl))); intro bx) | refine S_do (by kernel_rfl) (A_storeN tab rfl rfl rfl rfl rfl rfl rfl (by ((repeat (first | exact InB.head | apply InB.tail | (with_reducible apply InB.app))); done)) (by exact rfl) (by ((repeat (first | exact SetB.head | apply SetB.tail | (with_reducible apply SetB.app))); done)) ⟨Le.refl _, (by (repeat (first | exact trivial | (apply And.intro; (focus (first | (apply Or.inr; (try dsimp only); ((repeat (first | exact InB.head | apply InB.tail | (with_reducible apply InB.app))); done)) | (apply Or.inl; kernel_rfl))))))), ?_⟩))
            refine S_elem tab i rfl rfl rfl (by kernel_rfl) rfl rfl rfl rfl rfl hlt ?_
            repeat' (first | refine cs ?_ | refine ss ?_ | (((with_reducible apply Q_box); (focus (exact rfl)); (focus (exact rfl)); (focus (exact rfl))); intro bx) | (((with_reducible apply Q_alloc tab); (focus (exact rfl)); (focus (exact rfl)); (focus (exact rfl))); intro bx) | refine S_do (by kernel_rfl) (A_storeN tab rfl rfl rfl rfl rfl rfl rfl (by ((repeat (first | exact InB.head | apply InB.tail | (with_reducible apply InB.app))); done)) (by exact rfl) (by ((repeat (first | exact SetB.head | apply SetB.tail | (with_reducible apply SetB.app))); done)) ⟨Le.refl _, (by (repeat (first | exact trivial | (apply And.intro; (focus (first | (apply Or.inr; (try dsimp only); ((repeat (first | exact InB.head | apply InB.tail | (with_reducible apply InB.app))); done)) | (apply Or.inl; kernel_rfl))))))), ?_⟩))
            refine S_load tab rfl rfl rfl (by kernel_rfl) rfl hvo (readB_one tab rfl rfl rfl hb) ?_
            repeat' (first | refine cs ?_ | refine ss ?_ | (((with_reducible apply Q_box); (focus (exact rfl)); (focus (exact rfl)); (focus (exact rfl))); intro bx) | (((with_reducible apply Q_alloc tab); (focus (exact rfl)); (focus (exact rfl)); (focus (exact rfl))); intro bx) | refine S_do (by kernel_rfl) (A_storeN tab rfl rfl rfl rfl rfl rfl rfl (by ((repeat (first | exact InB.head | apply InB.tail | (with_reducible apply InB.app))); done)) (by exact rfl) (by ((repeat (first | exact SetB.head | apply SetB.tail | (with_reducible apply SetB.app))); done)) ⟨Le.refl _, (by (repeat (first | exact trivial | (apply And.intro; (focus (first | (apply Or.inr; (try dsimp only); ((repeat (first | exact InB.head | apply InB.tail | (with_reducible apply InB.app))); done)) | (apply Or.inl; kernel_rfl))))))), ?_⟩))
            refine S_elem tab i rfl rfl rfl (by kernel_rfl) rfl rfl rfl rfl rfl hlt ?_
            repeat' (first | refine cs ?_ | refine ss ?_ | (((with_reducible apply Q_box); (focus (exact rfl)); (focus (exact rfl)); (focus (exact rfl))); intro bx) | (((with_reducible apply Q_alloc tab); (focus (exact rfl)); (focus (exact rfl)); (focus (exact rfl))); intro bx) | refine S_do (by kernel_rfl) (A_storeN tab rfl rfl rfl rfl rfl rfl rfl (by ((repeat (first | exact InB.head | apply InB.tail | (with_reducible apply InB.app))); done)) (by exact rfl) (by ((repeat (first | exact SetB.head | apply SetB.tail | (with_reducible apply SetB.app))); done)) ⟨Le.refl _, (by (repeat (first | exact trivial | (apply And.intro; (focus (first | (apply Or.inr; (try dsimp only); ((repeat (first | exact InB.head | apply InB.tail | (with_reducible apply InB.app))); done)) | (apply Or.inl; kernel_rfl))))))), ?_⟩))
            refine S_load tab rfl rfl rfl (by kernel_rfl) rfl hvo (readB_one tab rfl rfl rfl ha) ?_
            repeat' (first | refine cs ?_ | refine ss ?_ | (((with_reducible apply Q_box); (focus (exact rfl)); (focus (exact rfl)); (focus (exact rfl))); intro bx) | (((with_reducible apply Q_alloc tab); (focus (exact rfl)); (focus (exact rfl)); (focus (exact rfl))); intro bx) | refine S_do (by kernel_rfl) (A_storeN tab rfl rfl rfl rfl rfl rfl rfl (by ((repeat (first | exact InB.head | apply InB.tail | (with_reducible apply InB.app))); done)) (by exact rfl) (by ((repeat (first | exact SetB.head | apply SetB.tail | (with_reducible apply SetB.app))); done)) ⟨Le.refl _, (by (repeat (first | exact trivial | (apply And.intro; (focus (first | (apply Or.inr; (try dsimp only); ((repeat (first | exact InB.head | apply InB.tail | (with_reducible apply InB.app))); done)) | (apply Or.inl; kernel_rfl))))))), ?_⟩))
            refine S_elem tab i rfl rfl rfl (by kernel_rfl) rfl rfl rfl rfl rfl hlt ?_
            repeat' (first | refine cs ?_ | refine ss ?_ | (((with_reducible apply Q_box); (focus (exact rfl)); (focus (exact rfl)); (focus (exact rfl))); intro bx) | (((with_reducible apply Q_alloc tab); (focus (exact rfl)); (focus (exact rfl)); (focus (exact rfl))); intro bx) | refine S_do (by kernel_rfl) (A_storeN tab rfl rfl rfl rfl rfl rfl rfl (by ((repeat (first | exact InB.head | apply InB.tail | (with_reducible apply InB.app))); done)) (by exact rfl) (by ((repeat (first | exact SetB.head | apply SetB.tail | (with_reducible apply SetB.app))); done)) ⟨Le.refl _, (by (repeat (first | exact trivial | (apply And.intro; (focus (first | (apply Or.inr; (try dsimp only); ((repeat (first | exact InB.head | apply InB.tail | (with_reducible apply InB.app))); done)) | (apply Or.inl; kernel_rfl))))))), ?_⟩))
            refine S_load tab rfl rfl rfl (by kernel_rfl) rfl hvo (readB_one tab rfl rfl rfl hh) ?_
            repeat' (first | refine cs ?_ | refine ss ?_ | (((with_reducible apply Q_box); (focus (exact rfl)); (focus (exact rfl)); (focus (exact rfl))); intro bx) | (((with_reducible apply Q_alloc tab); (focus (exact rfl)); (focus (exact rfl)); (focus (exact rfl))); intro bx) | refine S_do (by kernel_rfl) (A_storeN tab rfl rfl rfl rfl rfl rfl rfl (by ((repeat (first | exact InB.head | apply InB.tail | (with_reducible apply InB.app))); done)) (by exact rfl) (by ((repeat (first | exact SetB.head | apply SetB.tail | (with_reducible apply SetB.app))); done)) ⟨Le.refl _, (by (repeat (first | exact trivial | (apply And.intro; (focus (first | (apply Or.inr; (try dsimp only); ((repeat (first | exact InB.head | apply InB.tail | (with_reducible apply InB.app))); done)) | (apply Or.inl; kernel_rfl))))))), ?_⟩))
            refine S_elem tab x.acts[i].h rfl rfl rfl (by kernel_rfl) rfl rfl rfl rfl rfl (by have := hact.h; omega) ?_
            refine S_load tab rfl rfl rfl (by kernel_rfl) rfl hvp (readB_one tab rfl rfl rfl (by rw [Nat.mul_one]; exact hcp _ (by have := hact.h; omega))) ?_
            repeat' (first | refine cs ?_ | refine ss ?_ | (((with_reducible apply Q_box); (focus (exact rfl)); (focus (exact rfl)); (focus (exact rfl))); intro bx) | (((with_reducible apply Q_alloc tab); (focus (exact rfl)); (focus (exact rfl)); (focus (exact rfl))); intro bx) | refine S_do (by kernel_rfl) (A_storeN tab rfl rfl rfl rfl rfl rfl rfl (by ((repeat (first | exact InB.head | apply InB.tail | (with_reducible apply InB.app))); done)) (by exact rfl) (by ((repeat (first | exact SetB.head | apply SetB.tail | (with_reducible apply SetB.app))); done)) ⟨Le.refl _, (by (repeat (first | exact trivial | (apply And.intro; (focus (first | (apply Or.inr; (try dsimp only); ((repeat (first | exact InB.head | apply InB.tail | (with_reducible apply InB.app))); done)) | (apply Or.inl; kernel_rfl))))))), ?_⟩))
            refine S_do (by kernel_rfl) (A_lit tab rfl rfl rfl rfl rfl rfl rfl rfl rfl rfl (fun b3 c3 hL => ⟨Le.refl _, ?_, ?_⟩))
            · (repeat (first | exact trivial | (apply And.intro; (focus (first | (apply Or.inr; (try dsimp only); ((repeat (first | exact InB.head | apply InB.tail | (with_reducible apply InB.app))); done)) | (apply Or.inl; kernel_rfl))))))
            repeat' (first | refine cs ?_ | refine ss ?_ | (((with_reducible apply Q_box); (focus (exact rfl)); (focus (exact rfl)); (focus (exact rfl))); intro bx) | (((with_reducible apply Q_alloc tab); (focus (exact rfl)); (focus (exact rfl)); (focus (exact rfl))); intro bx) | refine S_do (by kernel_rfl) (A_storeN tab rfl rfl rfl rfl rfl rfl rfl (by ((repeat (first | exact InB.head | apply InB.tail | (with_reducible apply InB.app))); done)) (by exact rfl) (by ((repeat (first | exact SetB.head | apply SetB.tail | (with_reducible apply SetB.app))); done)) ⟨Le.refl _, (by (repeat (first | exact trivial | (apply And.intro; (focus (first | (apply Or.inr; (try dsimp only); ((repeat (first | exact InB.head | apply InB.tail | (with_reducible apply InB.app))); done)) | (apply Or.inl; kernel_rfl))))))), ?_⟩))
            refine S_do (by kernel_rfl) (A_append tab (xs := [natV x.acts[i].b, natV x.acts[i].a, intV (prs[x.acts[i].h]'(by have := hact.h; omega))]) seg [(b3, c3, 42)] [(b11, List.toArray [.slice (some ⟨b66, 0, none⟩) m.P m.P, .slice sa (dsOf prs m.dawn (x.acts.take i)).length sc], 38), (b4, (Value.agg (List.toArray [natV m.P, .slice m.a m.dawn.length m.cap])).cells, 26)] rfl rfl rfl rfl rfl rfl rfl rfl rfl rfl rfl cntA hS
              (fun hb => RowAt.own hb cntL hL) rfl rfl (by show (2 * ((dsOf prs m.dawn (x.acts.take i)).length + 1) + 768) * 24 ≤ 2 ^ 48; omega) (by omega) (fun seg' a' cap' hS' => ⟨Le.refl _, ?_, ?_⟩))
            · (repeat (first | exact trivial | (apply And.intro; (focus (first | (apply Or.inr; (try dsimp only); ((repeat (first | exact InB.head | apply InB.tail | (with_reducible apply InB.app))); done)) | (apply Or.inl; kernel_rfl))))))
            repeat' (first | refine cs ?_ | refine ss ?_ | (((with_reducible apply Q_box); (focus (exact rfl)); (focus (exact rfl)); (focus (exact rfl))); intro bx) | (((with_reducible apply Q_alloc tab); (focus (exact rfl)); (focus (exact rfl)); (focus (exact rfl))); intro bx) | refine S_do (by kernel_rfl) (A_storeN tab rfl rfl rfl rfl rfl rfl rfl (by ((repeat (first | exact InB.head | apply InB.tail | (with_reducible apply InB.app))); done)) (by exact rfl) (by ((repeat (first | exact SetB.head | apply SetB.tail | (with_reducible apply SetB.app))); done)) ⟨Le.refl _, (by (repeat (first | exact trivial | (apply And.intro; (focus (first | (apply Or.inr; (try dsimp only); ((repeat (first | exact InB.head | apply InB.tail | (with_reducible apply InB.app))); done)) | (apply Or.inl; kernel_rfl))))))), ?_⟩))
            simp only [if_true] at hsn
            have hln : (dsOf prs m.dawn (x.acts.take (i + 1))).length = (dsOf prs m.dawn (x.acts.take i)).length + 1 := by rw [hsn, List.length_append]; rfl
            have hdc : dtC (dsOf prs m.dawn (x.acts.take (i + 1))) = dtC (dsOf prs m.dawn (x.acts.take i)) ++ [natV x.acts[i].b, natV x.acts[i].a, intV (prs[x.acts[i].h]'(by have := hact.h; omega))] := by
              rw [hsn, ← hgp]; simp [dtC, Dt.cells]
            refine Loop_normal ⟨(i + 1, seg', a', cap'), w, by simp only; omega, ⟨rfl, (by (repeat (first | exact trivial | refine ⟨rfl, ?_⟩))), ?_⟩, Le.refl _, rfl, hlt, by simp only [hln, hdc]; exact hS'⟩
            simp only [hln]
            exact show Subm ((b11, List.toArray [.slice (some ⟨b66, 0, none⟩) m.P m.P, .slice a' ((dsOf prs m.dawn (x.acts.take i)).length + 1) cap'], 38) :: (b4, (Value.agg (List.toArray [natV m.P, .slice m.a m.dawn.length m.cap])).cells, 26) :: seg') (seg' ++ [(b11, List.toArray [.slice (some ⟨b66, 0, none⟩) m.P m.P, .slice a' ((dsOf prs m.dawn (x.acts.take i)).length + 1) cap'], 38), (b4, (Value.agg (List.toArray [natV m.P, .slice m.a m.dawn.length m.cap])).cells, 26)]) from cntL
          · have hs' : sold (duskOf m.dawn (x.acts.take i)) x.acts[i] = false := by simpa using hs
            have hsk := hskip hs'
            rw [show (rep[i].toList == (ByteArray.mk #[111, 107]).toList) = false from by
              cases h : (rep[i].toList == (ByteArray.mk #[111, 107]).toList) with
              | false => rfl
              | true => exact absurd (hro2.1 ((bt_inj _ _).1 h)) hs]
            repeat' (first | refine cs ?_ | refine ss ?_ | (((with_reducible apply Q_box); (focus (exact rfl)); (focus (exact rfl)); (focus (exact rfl))); intro bx) | (((with_reducible apply Q_alloc tab); (focus (exact rfl)); (focus (exact rfl)); (focus (exact rfl))); intro bx) | refine S_do (by kernel_rfl) (A_storeN tab rfl rfl rfl rfl rfl rfl rfl (by ((repeat (first | exact InB.head | apply InB.tail | (with_reducible apply InB.app))); done)) (by exact rfl) (by ((repeat (first | exact SetB.head | apply SetB.tail | (with_reducible apply SetB.app))); done)) ⟨Le.refl _, (by (repeat (first | exact trivial | (apply And.intro; (focus (first | (apply Or.inr; (try dsimp only); ((repeat (first | exact InB.head | apply InB.tail | (with_reducible apply InB.app))); done)) | (apply Or.inl; kernel_rfl))))))), ?_⟩))
            exact Loop_normal ⟨(i + 1, seg, sa, sc), w, by simp only; omega, ⟨rfl, (by (repeat (first | exact trivial | refine ⟨rfl, ?_⟩))), (by simp only [hsk]; exact cntL)⟩, Le.refl _, rfl, hlt, by simp only [hsk]; exact hS⟩
        · have hs' : sold (duskOf m.dawn (x.acts.take i)) x.acts[i] = false := by unfold sold; simp [hk0]
          have hsk := hskip hs'
          rw [show ((x.acts[i].k : Int) == 0) = false from beq_eq_false_iff_ne.2 (by omega)]
          repeat' (first | refine cs ?_ | refine ss ?_ | (((with_reducible apply Q_box); (focus (exact rfl)); (focus (exact rfl)); (focus (exact rfl))); intro bx) | (((with_reducible apply Q_alloc tab); (focus (exact rfl)); (focus (exact rfl)); (focus (exact rfl))); intro bx) | refine S_do (by kernel_rfl) (A_storeN tab rfl rfl rfl rfl rfl rfl rfl (by ((repeat (first | exact InB.head | apply InB.tail | (with_reducible apply InB.app))); done)) (by exact rfl) (by ((repeat (first | exact SetB.head | apply SetB.tail | (with_reducible apply SetB.app))); done)) ⟨Le.refl _, (by (repeat (first | exact trivial | (apply And.intro; (focus (first | (apply Or.inr; (try dsimp only); ((repeat (first | exact InB.head | apply InB.tail | (with_reducible apply InB.app))); done)) | (apply Or.inl; kernel_rfl))))))), ?_⟩))
          exact Loop_normal ⟨(i + 1, seg, sa, sc), w, by simp only; omega, ⟨rfl, (by (repeat (first | exact trivial | refine ⟨rfl, ?_⟩))), (by simp only [hsk]; exact cntL)⟩, Le.refl _, rfl, hlt, by simp only [hsk]; exact hS⟩
      · (simp only [decide_eq_true_eq, decide_eq_false_iff_not, beq_iff_eq, bne_iff_ne, Bool.not_eq_true', beq_eq_false_iff_ne, bne_eq_false_iff_eq, ne_eq] at h)
        have hie : i = x.acts.length := by omega
        subst hie
        rw [List.take_length] at hS
        repeat' (first | refine cs ?_ | refine ss ?_ | (((with_reducible apply Q_box); (focus (exact rfl)); (focus (exact rfl)); (focus (exact rfl))); intro bx) | (((with_reducible apply Q_alloc tab); (focus (exact rfl)); (focus (exact rfl)); (focus (exact rfl))); intro bx) | refine S_do (by kernel_rfl) (A_storeN tab rfl rfl rfl rfl rfl rfl rfl (by ((repeat (first | exact InB.head | apply InB.tail | (with_reducible apply InB.app))); done)) (by exact rfl) (by ((repeat (first | exact SetB.head | apply SetB.tail | (with_reducible apply SetB.app))); done)) ⟨Le.refl _, (by (repeat (first | exact trivial | (apply And.intro; (focus (first | (apply Or.inr; (try dsimp only); ((repeat (first | exact InB.head | apply InB.tail | (with_reducible apply InB.app))); done)) | (apply Or.inl; kernel_rfl))))))), ?_⟩))
        rw [List.take_length]
        exact Loop_normal ⟨_, _, ⟨rfl, seg, sa, sc, hS, rfl⟩, ⟨rfl, (by (repeat (first | exact trivial | refine ⟨rfl, ?_⟩))), cntL⟩, Le.refl _⟩
  · repeat' (first | refine cs ?_ | refine ss ?_ | (((with_reducible apply Q_box); (focus (exact rfl)); (focus (exact rfl)); (focus (exact rfl))); intro bx) | (((with_reducible apply Q_alloc tab); (focus (exact rfl)); (focus (exact rfl)); (focus (exact rfl))); intro bx) | refine S_do (by kernel_rfl) (A_storeN tab rfl rfl rfl rfl rfl rfl rfl (by ((repeat (first | exact InB.head | apply InB.tail | (with_reducible apply InB.app))); done)) (by exact rfl) (by ((repeat (first | exact SetB.head | apply SetB.tail | (with_reducible apply SetB.app))); done)) ⟨Le.refl _, (by (repeat (first | exact trivial | (apply And.intro; (focus (first | (apply Or.inr; (try dsimp only); ((repeat (first | exact InB.head | apply InB.tail | (with_reducible apply InB.app))); done)) | (apply Or.inl; kernel_rfl))))))), ?_⟩))
    refine C_loop (α := PrS) (fun z => ⟨[], [(7, .int .i64 z.i), (6, .slice z.a z.prs.length z.cap), (5, .slice x.a x.acts.length x.cap), (4, .pointer (some ⟨b4, 0, none⟩)), (3, g.ptr)], (b4, (Value.agg (List.toArray [natV m.P, .slice m.a m.dawn.length m.cap])).cells, 26) :: (z.βb ++ z.seg)⟩)
      (fun z w => w = v2 ∧ z.prs.length = z.i ∧ z.i ≤ m.dawn.length ∧ (∀ h, h < z.prs.length → 1 ≤ gat z.prs h ∧ gat z.prs h ≤ 9) ∧ OwnS 3 1 z.seg z.a z.prs.length z.cap (z.prs.map intV) ∧ g.at z.n z.βb ∧ z.n ≤ n2 + z.i) (fun z => m.dawn.length - z.i) ⟨0, [], [], none, 0, n2, βc⟩
      ⟨rfl, (by (repeat (first | exact trivial | refine ⟨rfl, ?_⟩))), cntL⟩ (Le.refl _) ⟨rfl, rfl, Nat.zero_le _, (fun h hh => by simp at hh), .nil, hB2, by simp⟩ ?_
    rintro ⟨i, prs, seg, a, cap', n, βb'⟩ w ⟨rfl, hpl, hi, hpr, hS, hBb, hn⟩
    simp only at hpl hi hpr hS hBb hn
    dsimp only
    repeat' (first | refine cs ?_ | refine ss ?_ | (((with_reducible apply Q_box); (focus (exact rfl)); (focus (exact rfl)); (focus (exact rfl))); intro bx) | (((with_reducible apply Q_alloc tab); (focus (exact rfl)); (focus (exact rfl)); (focus (exact rfl))); intro bx) | refine S_do (by kernel_rfl) (A_storeN tab rfl rfl rfl rfl rfl rfl rfl (by ((repeat (first | exact InB.head | apply InB.tail | (with_reducible apply InB.app))); done)) (by exact rfl) (by ((repeat (first | exact SetB.head | apply SetB.tail | (with_reducible apply SetB.app))); done)) ⟨Le.refl _, (by (repeat (first | exact trivial | (apply And.intro; (focus (first | (apply Or.inr; (try dsimp only); ((repeat (first | exact InB.head | apply InB.tail | (with_reducible apply InB.app))); done)) | (apply Or.inl; kernel_rfl))))))), ?_⟩))
    refine XC_cond rfl (fun h => ?_) (fun h => ?_)
    · (simp only [decide_eq_true_eq, decide_eq_false_iff_not, beq_iff_eq, bne_iff_ne, Bool.not_eq_true', beq_eq_false_iff_ne, bne_eq_false_iff_eq, ne_eq] at h)
      have hlt : i < m.dawn.length := by omega
      clear h
      repeat' (first | refine cs ?_ | refine ss ?_ | (((with_reducible apply Q_box); (focus (exact rfl)); (focus (exact rfl)); (focus (exact rfl))); intro bx) | (((with_reducible apply Q_alloc tab); (focus (exact rfl)); (focus (exact rfl)); (focus (exact rfl))); intro bx) | refine S_do (by kernel_rfl) (A_storeN tab rfl rfl rfl rfl rfl rfl rfl (by ((repeat (first | exact InB.head | apply InB.tail | (with_reducible apply InB.app))); done)) (by exact rfl) (by ((repeat (first | exact SetB.head | apply SetB.tail | (with_reducible apply SetB.app))); done)) ⟨Le.refl _, (by (repeat (first | exact trivial | (apply And.intro; (focus (first | (apply Or.inr; (try dsimp only); ((repeat (first | exact InB.head | apply InB.tail | (with_reducible apply InB.app))); done)) | (apply Or.inl; kernel_rfl))))))), ?_⟩))
      refine Q_op fun ho => A_callR (βb') (((b4, (Value.agg (List.toArray [natV m.P, .slice m.a m.dawn.length m.cap])).cells, 26) :: seg)) ho bod7 rfl rfl rfl rfl rfl cntA (among_x (hgk2.le (union_le _ _)) hBb (by omega) 1 9 (by omega) (by omega)) (fun x β' hR => ?_)
      clear ho
      obtain ⟨⟨y, rfl, hy⟩, hB3⟩ := hR
      repeat' (first | refine cs ?_ | refine ss ?_ | (((with_reducible apply Q_box); (focus (exact rfl)); (focus (exact rfl)); (focus (exact rfl))); intro bx) | (((with_reducible apply Q_alloc tab); (focus (exact rfl)); (focus (exact rfl)); (focus (exact rfl))); intro bx) | refine S_do (by kernel_rfl) (A_storeN tab rfl rfl rfl rfl rfl rfl rfl (by ((repeat (first | exact InB.head | apply InB.tail | (with_reducible apply InB.app))); done)) (by exact rfl) (by ((repeat (first | exact SetB.head | apply SetB.tail | (with_reducible apply SetB.app))); done)) ⟨Le.refl _, (by (repeat (first | exact trivial | (apply And.intro; (focus (first | (apply Or.inr; (try dsimp only); ((repeat (first | exact InB.head | apply InB.tail | (with_reducible apply InB.app))); done)) | (apply Or.inl; kernel_rfl))))))), ?_⟩))
      refine Q_op fun ho => A_lit tab ho rfl rfl rfl rfl rfl rfl rfl rfl rfl (fun b3 c3 hL => ?_)
      clear ho
      repeat' (first | refine cs ?_ | refine ss ?_ | (((with_reducible apply Q_box); (focus (exact rfl)); (focus (exact rfl)); (focus (exact rfl))); intro bx) | (((with_reducible apply Q_alloc tab); (focus (exact rfl)); (focus (exact rfl)); (focus (exact rfl))); intro bx) | refine S_do (by kernel_rfl) (A_storeN tab rfl rfl rfl rfl rfl rfl rfl (by ((repeat (first | exact InB.head | apply InB.tail | (with_reducible apply InB.app))); done)) (by exact rfl) (by ((repeat (first | exact SetB.head | apply SetB.tail | (with_reducible apply SetB.app))); done)) ⟨Le.refl _, (by (repeat (first | exact trivial | (apply And.intro; (focus (first | (apply Or.inr; (try dsimp only); ((repeat (first | exact InB.head | apply InB.tail | (with_reducible apply InB.app))); done)) | (apply Or.inl; kernel_rfl))))))), ?_⟩))
      refine Q_op fun ho => A_append tab (xs := [intV y]) seg [(b3, c3, 3)] ((b4, (Value.agg (List.toArray [natV m.P, .slice m.a m.dawn.length m.cap])).cells, 26) :: β') ho rfl rfl rfl rfl rfl rfl rfl rfl rfl rfl cntA hS
        (fun hb => RowAt.own hb cntL hL) rfl rfl (by show (2 * (prs.length + 1) + 768) * 8 ≤ 2 ^ 48; omega) (by omega) (fun seg' a' cap2 hS' => ?_)
      clear ho
      repeat' (first | refine cs ?_ | refine ss ?_ | (((with_reducible apply Q_box); (focus (exact rfl)); (focus (exact rfl)); (focus (exact rfl))); intro bx) | (((with_reducible apply Q_alloc tab); (focus (exact rfl)); (focus (exact rfl)); (focus (exact rfl))); intro bx) | refine S_do (by kernel_rfl) (A_storeN tab rfl rfl rfl rfl rfl rfl rfl (by ((repeat (first | exact InB.head | apply InB.tail | (with_reducible apply InB.app))); done)) (by exact rfl) (by ((repeat (first | exact SetB.head | apply SetB.tail | (with_reducible apply SetB.app))); done)) ⟨Le.refl _, (by (repeat (first | exact trivial | (apply And.intro; (focus (first | (apply Or.inr; (try dsimp only); ((repeat (first | exact InB.head | apply InB.tail | (with_reducible apply InB.app))); done)) | (apply Or.inl; kernel_rfl))))))), ?_⟩))
      refine Loop_normal ⟨⟨i + 1, prs ++ [(y : Int)], seg', a', cap2, n + 1, β'⟩, w, by simp only; omega, ⟨rfl, ?_, cntL⟩, Le.refl _, rfl, by simp [hpl], hlt, fun h hh => ?_, ?_, hB3, by simp only; omega⟩
      · refine ⟨rfl, ?_, rfl, rfl, rfl, trivial⟩
        simp only [List.length_append, List.length_singleton]; rfl
      · simp only at hh ⊢
        rw [gat_snoc]
        split
        · exact hpr h ‹_›
        · rw [if_pos (by simp at hh; omega)]; omega
      · simp only [List.length_append, List.length_singleton, List.map_append, List.map_cons, List.map_nil]
        exact hS'
    · (simp only [decide_eq_true_eq, decide_eq_false_iff_not, beq_iff_eq, bne_iff_ne, Bool.not_eq_true', beq_eq_false_iff_ne, bne_eq_false_iff_eq, ne_eq] at h)
      have hie : i = m.dawn.length := by omega
      repeat' (first | refine cs ?_ | refine ss ?_ | (((with_reducible apply Q_box); (focus (exact rfl)); (focus (exact rfl)); (focus (exact rfl))); intro bx) | (((with_reducible apply Q_alloc tab); (focus (exact rfl)); (focus (exact rfl)); (focus (exact rfl))); intro bx) | refine S_do (by kernel_rfl) (A_storeN tab rfl rfl rfl rfl rfl rfl rfl (by ((repeat (first | exact InB.head | apply InB.tail | (with_reducible apply InB.app))); done)) (by exact rfl) (by ((repeat (first | exact SetB.head | apply SetB.tail | (with_reducible apply SetB.app))); done)) ⟨Le.refl _, (by (repeat (first | exact trivial | (apply And.intro; (focus (first | (apply Or.inr; (try dsimp only); ((repeat (first | exact InB.head | apply InB.tail | (with_reducible apply InB.app))); done)) | (apply Or.inl; kernel_rfl))))))), ?_⟩))
      exact Loop_normal ⟨_, _, ⟨rfl, prs, seg, a, cap', by omega, hpr, hS, rfl⟩, ⟨rfl, (by (repeat (first | exact trivial | refine ⟨rfl, ?_⟩))), cntL⟩, Le.refl _⟩
end Go.Proofs.Ytbbaionoibkohaa
end
