/- Part 22 of the proof that stands in the last text. -/
import Derived.Handed
import Derived.Test.YtbbaionoibkohaaPau
set_option linter.all false
section
namespace Go.Proofs.Ytbbaionoibkohaa
open Go Go.Pal Go.Pal.Db Go.Conc View
open Go.Proofs.Try
set_option maxHeartbeats 4000000
def dsOf (pr : List Int) : List Nat → List MAct → List Dt
  | _, [] => []
  | os, x :: xs => (if sold os x then [⟨x.b, x.a, gat pr x.h⟩] else []) ++ dsOf pr (doN os x) xs
theorem dsOf_snoc (pr : List Int) : ∀ (os : List Nat) (xs : List MAct) (x : MAct), dsOf pr os (xs ++ [x]) = dsOf pr os xs ++ (if sold (duskOf os xs) x then [⟨x.b, x.a, gat pr x.h⟩] else [])
  | os, [], x => by simp only [dsOf, List.nil_append, List.append_nil]; rfl
  | os, y :: ys, x => by
    simp only [List.cons_append, dsOf]
    rw [dsOf_snoc pr (doN os y) ys x, List.append_assoc]
    rfl
theorem dsOf_len (pr : List Int) : ∀ (os : List Nat) (xs : List MAct), (dsOf pr os xs).length ≤ xs.length
  | _, [] => Nat.le_refl _
  | os, x :: xs => by
    have := dsOf_len pr (doN os x) xs
    simp only [dsOf, List.length_append, List.length_cons]
    split <;> simp <;> omega
theorem dsOf_ok {pr : List Int} {P N : Nat} (hpr : ∀ h, h < N → 1 ≤ gat pr h ∧ gat pr h ≤ 9) : ∀ {os : List Nat} {xs : List MAct}, (∀ y ∈ xs, y.ok P N) → ∀ d ∈ dsOf pr os xs, d.ok P
  | _, [], _, d, hd => by cases hd
  | os, x :: xs, h, d, hd => by
    simp only [dsOf, List.mem_append] at hd
    rcases hd with hd | hd
    · split at hd
      · rename_i hs
        rw [List.mem_singleton] at hd
        subst hd
        have hx := h x (by simp)
        have hk : x.k = 0 := by
          unfold sold at hs
          rw [Bool.and_eq_true] at hs
          simpa using hs.1
        exact ⟨hx.ab.2, hx.ab.1, fun e => hx.ne hk e.symm, hpr _ hx.h⟩
      · cases hd
    · exact dsOf_ok hpr (fun y hy => h y (by simp [hy])) d hd
def wealth : List Nat → List Int → Nat → Int
  | o :: os, c :: pr, p => (if o = p then c else 0) + wealth os pr p
  | _, _, _ => 0
theorem wealth_set : ∀ {os : List Nat} {pr : List Int} {h y p : Nat}, h < os.length → os.length = pr.length → wealth (os.set h y) pr p = wealth os pr p - (if os.getD h 0 = p then gat pr h else 0) + (if y = p then gat pr h else 0)
  | o :: os, c :: pr, 0, y, p, _, _ => by
    simp only [List.set_cons_zero, wealth, List.getD_cons_zero, gat]
    omega
  | o :: os, c :: pr, h + 1, y, p, h1, h2 => by
    have := wealth_set (os := os) (pr := pr) (h := h) (y := y) (p := p) (by simpa using h1) (by simpa using h2)
    simp only [List.set_cons_succ, wealth, List.getD_cons_succ, gat] at this ⊢
    omega
  | [], _, _, _, _, h1, _ => by simp at h1
  | _ :: _, [], _, _, _, _, h2 => by simp at h2
theorem wealth_snoc : ∀ {os : List Nat} {pr : List Int} {o : Nat} {c : Int} {p : Nat}, os.length = pr.length → wealth (os ++ [o]) (pr ++ [c]) p = wealth os pr p + (if o = p then c else 0)
  | [], [], o, c, p, _ => by simp [wealth]
  | a :: os, b :: pr, o, c, p, h => by
    have := wealth_snoc (os := os) (pr := pr) (o := o) (c := c) (p := p) (by simpa using h)
    simp only [List.cons_append, wealth]
    omega
theorem wealth_off : ∀ {os : List Nat} {pr : List Int} {p P : Nat}, (∀ o ∈ os, o < P) → P ≤ p → wealth os pr p = 0
  | [], _, _, _, _, _ => by simp [wealth]
  | _ :: _, [], _, _, _, _ => by simp [wealth]
  | o :: os, c :: pr, p, P, h, hp => by
    have := wealth_off (os := os) (pr := pr) (p := p) (P := P) (fun o ho => h o (by simp [ho])) hp
    have h1 := h o (by simp)
    simp only [wealth]
    rw [if_neg (by omega), this]; rfl
theorem gat_netStep {L : List Int} {d : Dt} {n p : Nat} (hl : L.length = 5) (hd : d.ok n) (hn : n ≤ 4) : gat (netStep L d) p = gat L p + (if d.t = p then d.m else 0) - (if d.f = p then d.m else 0) := by
  have h1 := hd.f
  have h2 := hd.t
  have h3 := hd.ne
  unfold netStep
  rw [gat_addAt (by rw [addAt_len]; omega), gat_addAt (by omega), gat_addAt (by omega)]
  rw [if_neg h3]
  by_cases e1 : p = d.f
  · rw [if_pos e1, if_pos e1.symm, if_neg (show ¬ d.t = p from fun e => h3 (by rw [← e1, e])), e1]
    omega
  · rw [if_neg e1, if_neg (show ¬ d.f = p from fun e => e1 e.symm)]
    by_cases e2 : p = d.t
    · rw [if_pos e2, if_pos e2.symm, e2]; omega
    · rw [if_neg e2, if_neg (show ¬ d.t = p from fun e => e2 e.symm)]; omega
theorem nets_wealth {pr : List Int} {P : Nat} (hP : P ≤ 4) : ∀ (os : List Nat) (xs : List MAct) (L : List Int), (∀ y ∈ xs, y.ok P pr.length) → (∀ h, h < pr.length → 1 ≤ gat pr h ∧ gat pr h ≤ 9) → os.length = pr.length → L.length = 5 →
    ∀ p, gat ((dsOf pr os xs).foldl netStep L) p + wealth (duskOf os xs) pr p = gat L p + wealth os pr p
  | os, [], L, _, _, _, _, p => rfl
  | os, x :: xs, L, hx, hpr, hl, hL, p => by
    have hxx := hx x (by simp)
    have hlen : (doN os x).length = pr.length := by unfold doN; split <;> simp [hl]
    rw [dsOf, List.foldl_append]
    show _ + wealth (duskOf (doN os x) xs) pr p = _
    cases hs : sold os x with
    | false =>
      simp only [Bool.false_eq_true, if_false, List.foldl_nil]
      have hdo : doN os x = os := by
        unfold doN
        rw [if_neg]
        rintro ⟨h1, h2⟩
        unfold sold at hs
        rw [h1, h2] at hs
        simp at hs
      have := nets_wealth hP (doN os x) xs L (fun y hy => hx y (by simp [hy])) hpr hlen hL p
      rw [this, hdo]
    | true =>
      simp only [if_true, List.foldl_cons, List.foldl_nil]
      have hkx : x.k = 0 ∧ os[x.h]? = some x.a := by
        unfold sold at hs
        rw [Bool.and_eq_true] at hs
        exact ⟨by simpa using hs.1, by simpa using hs.2⟩
      have hdo : doN os x = os.set x.h x.b := by unfold doN; rw [if_pos hkx]
      have hdok : Dt.ok ⟨x.b, x.a, gat pr x.h⟩ P := ⟨hxx.ab.2, hxx.ab.1, fun e => hxx.ne hkx.1 e.symm, hpr _ hxx.h⟩
      have := nets_wealth hP (doN os x) xs (netStep L ⟨x.b, x.a, gat pr x.h⟩) (fun y hy => hx y (by simp [hy])) hpr hlen (by rw [netStep_len]; exact hL) p
      rw [this, gat_netStep hL hdok hP, hdo, wealth_set (by rw [hl]; exact hxx.h) hl]
      have hg : os.getD x.h 0 = x.a := by rw [List.getD_eq_getElem?_getD, hkx.2]; rfl
      rw [hg]
      simp only
      omega
theorem sum_nets {P : Nat} (hP : P ≤ 4) : ∀ (ds : List Dt) (L : List Int), (∀ d ∈ ds, d.ok P) → L.length = 5 → (ds.foldl netStep L).sum = L.sum
  | [], _, _, _ => rfl
  | d :: ds, L, h, hL => by
    have hd := h d (by simp)
    have h1 := hd.f
    have h2 := hd.t
    rw [List.foldl_cons, sum_nets hP ds _ (fun d hd => h d (by simp [hd])) (by rw [netStep_len]; exact hL)]
    unfold netStep
    rw [sum_addAt (by rw [addAt_len]; omega), sum_addAt (by omega)]
    omega
theorem star_sub {c : Nat} {q : Nat → Bool} (hq : ∀ i, q i = true → c < i) : ∀ n, (star c ((List.range n).filter q)).Sublist (pairsOf n)
  | 0 => by simp [star]
  | n + 1 => by
    rw [pairsOf_succ, List.range_succ, List.filter_append]
    unfold star
    rw [List.map_append]
    refine (star_sub hq n).append ?_
    cases h : q n with
    | false => simp [h]
    | true =>
      simp only [List.filter_cons, h, if_true, List.filter_nil, List.map_cons, List.map_nil]
      rw [List.singleton_sublist, List.mem_map]
      exact ⟨c, List.mem_range.2 (hq n h), rfl⟩
theorem first_nz {N : List Int} : ∀ (n : Nat), (∃ i, i < n ∧ gat N i ≠ 0) → ∃ c, c < n ∧ gat N c ≠ 0 ∧ ∀ i, i < c → gat N i = 0
  | 0, ⟨i, h, _⟩ => absurd h (Nat.not_lt_zero _)
  | n + 1, h => by
    by_cases h' : ∃ i, i < n ∧ gat N i ≠ 0
    · obtain ⟨c, h1, h2⟩ := first_nz n h'
      exact ⟨c, by omega, h2⟩
    · obtain ⟨i, h1, h2⟩ := h
      have : i = n := by
        rcases Nat.lt_or_ge i n with h3 | h3
        · exact absurd ⟨i, h3, h2⟩ h'
        · omega
      subst this
      exact ⟨i, h1, h2, fun j hj => Classical.byContradiction fun e => h' ⟨j, hj, e⟩⟩
theorem cnt_zero {o : Ow} : cntO o 0 = if zeroL (netsOf o.ds) then 1 else 0 := by
  unfold cntO cntC
  rw [comb]
  have e : okL o.n ([] ++ []) (netsOf o.ds) = zeroL (netsOf o.ds) := rfl
  rw [List.filter_cons, e]
  cases zeroL (netsOf o.ds) <;> rfl
theorem settle_ex {o : Ow} {v : View} (h : o.ok v) (hoff : ∀ p, o.n ≤ p → gat (netsOf o.ds) p = 0) : ∃ m, m < o.n ∧ 0 < cntO o m := by
  have hn := h.n
  have hl5 := netsOf_len o.ds
  have hsum : (netsOf o.ds).sum = 0 := by
    unfold netsOf
    rw [sum_nets hn.2 _ _ h.all (by simp)]
    rfl
  cases hz : zeroL (netsOf o.ds) with
  | true => exact ⟨0, by omega, by rw [cnt_zero, hz]; decide⟩
  | false =>
    have hex : ∃ i, i < o.n ∧ gat (netsOf o.ds) i ≠ 0 := by
      apply Classical.byContradiction
      intro hno
      have : zeroL (netsOf o.ds) = true := zeroL_iff.2 fun i => by
        rcases Nat.lt_or_ge i o.n with h1 | h1
        · exact Classical.byContradiction fun e => hno ⟨i, h1, e⟩
        · exact hoff i h1
      rw [this] at hz; cases hz
    obtain ⟨c, hc, hcn, hlow⟩ := first_nz o.n hex
    generalize hN : netsOf o.ds = N at *
    obtain ⟨T, hT⟩ : ∃ T, T = (List.range o.n).filter fun i => decide (c < i) && decide (gat N i ≠ 0) := ⟨_, rfl⟩
    have hmem : ∀ i, i ∈ T ↔ i < o.n ∧ c < i ∧ gat N i ≠ 0 := fun i => by rw [hT, List.mem_filter, List.mem_range]; simp
    have hsub : (star c T).Sublist (pairsOf o.n) := by
      rw [hT]
      exact star_sub (fun i hi => by simp only [Bool.and_eq_true, decide_eq_true_eq] at hi; exact hi.1) _
    have hlt : T.length < o.n := by
      have := List.length_filter_lt_length_iff_exists (l := List.range o.n) (p := fun i => decide (c < i) && decide (gat N i ≠ 0))
      rw [← hT, List.length_range] at this
      exact this.2 ⟨c, List.mem_range.2 hc, by simp⟩
    have hok : ok o.n T.length (star c T) N = true := by
      refine star_ok hc T.length rfl (by omega) (by rw [hT]; exact List.nodup_range.filter _) (fun i hi => ⟨((hmem i).1 hi).2.1, ((hmem i).1 hi).1⟩) (fun i hic hiT => ?_) (fun i hi => ((hmem i).1 hi).2.2) hsum
      apply Classical.byContradiction
      intro e
      apply hiT
      rw [hmem]
      rcases Nat.lt_or_ge i o.n with h1 | h1
      · refine ⟨h1, ?_, e⟩
        rcases Nat.lt_trichotomy i c with h2 | h2 | h2
        · exact absurd (hlow i h2) e
        · exact absurd h2 hic
        · exact h2
      · exact absurd (hoff i h1) e
    refine ⟨T.length, hlt, ?_⟩
    unfold cntO cntC
    rw [hN]
    have hin : star c T ∈ (comb T.length (pairsOf o.n)).filter fun x => okL o.n ([] ++ x) N := by
      rw [List.mem_filter]
      have := comb_mem hsub
      rw [star_len] at this
      refine ⟨this, ?_⟩
      show ok o.n (star c T).length (star c T) N = true
      rw [star_len]; exact hok
    have : 0 < ((comb T.length (pairsOf o.n)).filter fun x => okL o.n ([] ++ x) N).length := List.length_pos_of_mem hin
    exact this
end Go.Proofs.Ytbbaionoibkohaa
end
section
namespace Go.Proofs.Ytbbaionoibkohaa
open Go Go.Pal Go.Pal.Db Go.Conc View
open Go.Proofs.Try
set_option maxHeartbeats 4000000
section
variable {mn : Who} {v : View}
theorem sameI_x {xs : List Int} {a b : Option Addr} {c d N : Nat} (ha : RowAt v a (xs.map intV)) (hb : RowAt v b (xs.map intV)) (hl : xs.length < 2 ^ 62) (hN : xs.length = N) : Ret1 Try.prog mn 11 [.slice a N c, .slice b N d] (.bool true) v := by
  subst hN
  refine callsB_fn tab func11 rfl (Nat.le_of_ble_eq_true rfl) (args := [_, _]) ?_
  repeat' (first | refine cs ?_ | refine ss ?_ | (((with_reducible apply Q_box); (focus (exact rfl)); (focus (exact rfl)); (focus (exact rfl))); intro bx) | (((with_reducible apply Q_alloc tab); (focus (exact rfl)); (focus (exact rfl)); (focus (exact rfl))); intro bx) | refine S_do (by kernel_rfl) (A_storeN tab rfl rfl rfl rfl rfl rfl rfl (by ((repeat (first | exact InB.head | apply InB.tail | (with_reducible apply InB.app))); done)) (by exact rfl) (by ((repeat (first | exact SetB.head | apply SetB.tail | (with_reducible apply SetB.app))); done)) ⟨Le.refl _, (by (repeat (first | exact trivial | (apply And.intro; (focus (first | (apply Or.inr; (try dsimp only); ((repeat (first | exact InB.head | apply InB.tail | (with_reducible apply InB.app))); done)) | (apply Or.inl; kernel_rfl))))))), ?_⟩))
  refine C_loop (α := Nat) (fun i => ⟨[], [(5, .int .i64 i), (0, .slice a xs.length c), (1, .slice b xs.length d)], []⟩)
    (fun i w => w = v ∧ i ≤ xs.length) (fun i => xs.length - i) 0 ⟨rfl, (by (repeat (first | exact trivial | refine ⟨rfl, ?_⟩))), cntL⟩ (Le.refl _) ⟨rfl, Nat.zero_le _⟩ ?_
  rintro i w ⟨rfl, hi⟩
  repeat' (first | refine cs ?_ | refine ss ?_ | (((with_reducible apply Q_box); (focus (exact rfl)); (focus (exact rfl)); (focus (exact rfl))); intro bx) | (((with_reducible apply Q_alloc tab); (focus (exact rfl)); (focus (exact rfl)); (focus (exact rfl))); intro bx) | refine S_do (by kernel_rfl) (A_storeN tab rfl rfl rfl rfl rfl rfl rfl (by ((repeat (first | exact InB.head | apply InB.tail | (with_reducible apply InB.app))); done)) (by exact rfl) (by ((repeat (first | exact SetB.head | apply SetB.tail | (with_reducible apply SetB.app))); done)) ⟨Le.refl _, (by (repeat (first | exact trivial | (apply And.intro; (focus (first | (apply Or.inr; (try dsimp only); ((repeat (first | exact InB.head | apply InB.tail | (with_reducible apply InB.app))); done)) | (apply Or.inl; kernel_rfl))))))), ?_⟩))
  by_cases hlt : i < xs.length
  · obtain ⟨b1, off1, p1, c1, e1, f1, rfl, hv1, hc1⟩ := ha.get hlt
    obtain ⟨b2, off2, p2, c2, e2, f2, rfl, hv2, hc2⟩ := hb.get hlt
    rw [show decide ((i : Int) < (xs.length : Int)) = true from decide_eq_true (by omega)]
    repeat' (first | refine cs ?_ | refine ss ?_ | (((with_reducible apply Q_box); (focus (exact rfl)); (focus (exact rfl)); (focus (exact rfl))); intro bx) | (((with_reducible apply Q_alloc tab); (focus (exact rfl)); (focus (exact rfl)); (focus (exact rfl))); intro bx) | refine S_do (by kernel_rfl) (A_storeN tab rfl rfl rfl rfl rfl rfl rfl (by ((repeat (first | exact InB.head | apply InB.tail | (with_reducible apply InB.app))); done)) (by exact rfl) (by ((repeat (first | exact SetB.head | apply SetB.tail | (with_reducible apply SetB.app))); done)) ⟨Le.refl _, (by (repeat (first | exact trivial | (apply And.intro; (focus (first | (apply Or.inr; (try dsimp only); ((repeat (first | exact InB.head | apply InB.tail | (with_reducible apply InB.app))); done)) | (apply Or.inl; kernel_rfl))))))), ?_⟩))
    rw [show decide ((i : Int) < (xs.length : Int)) = true from decide_eq_true (by omega)]
    repeat' (first | refine cs ?_ | refine ss ?_ | (((with_reducible apply Q_box); (focus (exact rfl)); (focus (exact rfl)); (focus (exact rfl))); intro bx) | (((with_reducible apply Q_alloc tab); (focus (exact rfl)); (focus (exact rfl)); (focus (exact rfl))); intro bx) | refine S_do (by kernel_rfl) (A_storeN tab rfl rfl rfl rfl rfl rfl rfl (by ((repeat (first | exact InB.head | apply InB.tail | (with_reducible apply InB.app))); done)) (by exact rfl) (by ((repeat (first | exact SetB.head | apply SetB.tail | (with_reducible apply SetB.app))); done)) ⟨Le.refl _, (by (repeat (first | exact trivial | (apply And.intro; (focus (first | (apply Or.inr; (try dsimp only); ((repeat (first | exact InB.head | apply InB.tail | (with_reducible apply InB.app))); done)) | (apply Or.inl; kernel_rfl))))))), ?_⟩))
    refine L_elem tab i rfl rfl rfl rfl rfl rfl rfl hlt ?_
    refine L_load tab rfl rfl rfl hv1 (readB_one tab rfl rfl rfl (by rw [Nat.mul_one]; exact hc1 _ hlt)) ?_
    repeat' (first | refine cs ?_ | refine ss ?_ | (((with_reducible apply Q_box); (focus (exact rfl)); (focus (exact rfl)); (focus (exact rfl))); intro bx) | (((with_reducible apply Q_alloc tab); (focus (exact rfl)); (focus (exact rfl)); (focus (exact rfl))); intro bx) | refine S_do (by kernel_rfl) (A_storeN tab rfl rfl rfl rfl rfl rfl rfl (by ((repeat (first | exact InB.head | apply InB.tail | (with_reducible apply InB.app))); done)) (by exact rfl) (by ((repeat (first | exact SetB.head | apply SetB.tail | (with_reducible apply SetB.app))); done)) ⟨Le.refl _, (by (repeat (first | exact trivial | (apply And.intro; (focus (first | (apply Or.inr; (try dsimp only); ((repeat (first | exact InB.head | apply InB.tail | (with_reducible apply InB.app))); done)) | (apply Or.inl; kernel_rfl))))))), ?_⟩))
    refine L_elem tab i rfl rfl rfl rfl rfl rfl rfl hlt ?_
    refine L_load tab rfl rfl rfl hv2 (readB_one tab rfl rfl rfl (by rw [Nat.mul_one]; exact hc2 _ hlt)) ?_
    repeat' (first | refine cs ?_ | refine ss ?_ | (((with_reducible apply Q_box); (focus (exact rfl)); (focus (exact rfl)); (focus (exact rfl))); intro bx) | (((with_reducible apply Q_alloc tab); (focus (exact rfl)); (focus (exact rfl)); (focus (exact rfl))); intro bx) | refine S_do (by kernel_rfl) (A_storeN tab rfl rfl rfl rfl rfl rfl rfl (by ((repeat (first | exact InB.head | apply InB.tail | (with_reducible apply InB.app))); done)) (by exact rfl) (by ((repeat (first | exact SetB.head | apply SetB.tail | (with_reducible apply SetB.app))); done)) ⟨Le.refl _, (by (repeat (first | exact trivial | (apply And.intro; (focus (first | (apply Or.inr; (try dsimp only); ((repeat (first | exact InB.head | apply InB.tail | (with_reducible apply InB.app))); done)) | (apply Or.inl; kernel_rfl))))))), ?_⟩))
    rw [show (xs[i] != xs[i]) = false by simp]
    repeat' (first | refine cs ?_ | refine ss ?_ | (((with_reducible apply Q_box); (focus (exact rfl)); (focus (exact rfl)); (focus (exact rfl))); intro bx) | (((with_reducible apply Q_alloc tab); (focus (exact rfl)); (focus (exact rfl)); (focus (exact rfl))); intro bx) | refine S_do (by kernel_rfl) (A_storeN tab rfl rfl rfl rfl rfl rfl rfl (by ((repeat (first | exact InB.head | apply InB.tail | (with_reducible apply InB.app))); done)) (by exact rfl) (by ((repeat (first | exact SetB.head | apply SetB.tail | (with_reducible apply SetB.app))); done)) ⟨Le.refl _, (by (repeat (first | exact trivial | (apply And.intro; (focus (first | (apply Or.inr; (try dsimp only); ((repeat (first | exact InB.head | apply InB.tail | (with_reducible apply InB.app))); done)) | (apply Or.inl; kernel_rfl))))))), ?_⟩))
    exact Loop_normal ⟨i + 1, w, by omega, ⟨rfl, (by (repeat (first | exact trivial | refine ⟨rfl, ?_⟩))), cntL⟩, Le.refl _, rfl, hlt⟩
  · rw [show decide ((i : Int) < (xs.length : Int)) = false from decide_eq_false (by omega)]
    repeat' (first | refine cs ?_ | refine ss ?_ | (((with_reducible apply Q_box); (focus (exact rfl)); (focus (exact rfl)); (focus (exact rfl))); intro bx) | (((with_reducible apply Q_alloc tab); (focus (exact rfl)); (focus (exact rfl)); (focus (exact rfl))); intro bx) | refine S_do (by kernel_rfl) (A_storeN tab rfl rfl rfl rfl rfl rfl rfl (by ((repeat (first | exact InB.head | apply InB.tail | (with_reducible apply InB.app))); done)) (by exact rfl) (by ((repeat (first | exact SetB.head | apply SetB.tail | (with_reducible apply SetB.app))); done)) ⟨Le.refl _, (by (repeat (first | exact trivial | (apply And.intro; (focus (first | (apply Or.inr; (try dsimp only); ((repeat (first | exact InB.head | apply InB.tail | (with_reducible apply InB.app))); done)) | (apply Or.inl; kernel_rfl))))))), ?_⟩))
    refine Fn_ret tab [] (by exact .tmp rfl .nil) (Back.here cntL) ?_
    exact ⟨by show Value.bool ((xs.length : Int) == xs.length) = _; simp, rfl⟩
theorem sameW_x {xs : List ByteArray} {a b : Option Addr} {c d N : Nat} (ha : RowAt v a (xs.map .string)) (hb : RowAt v b (xs.map .string)) (hl : xs.length < 2 ^ 62) (hN : xs.length = N) : Ret1 Try.prog mn 29 [.slice a N c, .slice b N d] (.bool true) v := by
  subst hN
  refine callsB_fn tab func29 rfl (Nat.le_of_ble_eq_true rfl) (args := [_, _]) ?_
  repeat' (first | refine cs ?_ | refine ss ?_ | (((with_reducible apply Q_box); (focus (exact rfl)); (focus (exact rfl)); (focus (exact rfl))); intro bx) | (((with_reducible apply Q_alloc tab); (focus (exact rfl)); (focus (exact rfl)); (focus (exact rfl))); intro bx) | refine S_do (by kernel_rfl) (A_storeN tab rfl rfl rfl rfl rfl rfl rfl (by ((repeat (first | exact InB.head | apply InB.tail | (with_reducible apply InB.app))); done)) (by exact rfl) (by ((repeat (first | exact SetB.head | apply SetB.tail | (with_reducible apply SetB.app))); done)) ⟨Le.refl _, (by (repeat (first | exact trivial | (apply And.intro; (focus (first | (apply Or.inr; (try dsimp only); ((repeat (first | exact InB.head | apply InB.tail | (with_reducible apply InB.app))); done)) | (apply Or.inl; kernel_rfl))))))), ?_⟩))
  refine C_loop (α := Nat) (fun i => ⟨[], [(5, .int .i64 i), (0, .slice a xs.length c), (1, .slice b xs.length d)], []⟩)
    (fun i w => w = v ∧ i ≤ xs.length) (fun i => xs.length - i) 0 ⟨rfl, (by (repeat (first | exact trivial | refine ⟨rfl, ?_⟩))), cntL⟩ (Le.refl _) ⟨rfl, Nat.zero_le _⟩ ?_
  rintro i w ⟨rfl, hi⟩
  repeat' (first | refine cs ?_ | refine ss ?_ | (((with_reducible apply Q_box); (focus (exact rfl)); (focus (exact rfl)); (focus (exact rfl))); intro bx) | (((with_reducible apply Q_alloc tab); (focus (exact rfl)); (focus (exact rfl)); (focus (exact rfl))); intro bx) | refine S_do (by kernel_rfl) (A_storeN tab rfl rfl rfl rfl rfl rfl rfl (by ((repeat (first | exact InB.head | apply InB.tail | (with_reducible apply InB.app))); done)) (by exact rfl) (by ((repeat (first | exact SetB.head | apply SetB.tail | (with_reducible apply SetB.app))); done)) ⟨Le.refl _, (by (repeat (first | exact trivial | (apply And.intro; (focus (first | (apply Or.inr; (try dsimp only); ((repeat (first | exact InB.head | apply InB.tail | (with_reducible apply InB.app))); done)) | (apply Or.inl; kernel_rfl))))))), ?_⟩))
  by_cases hlt : i < xs.length
  · obtain ⟨b1, off1, p1, c1, e1, f1, rfl, hv1, hc1⟩ := ha.get hlt
    obtain ⟨b2, off2, p2, c2, e2, f2, rfl, hv2, hc2⟩ := hb.get hlt
    rw [show decide ((i : Int) < (xs.length : Int)) = true from decide_eq_true (by omega)]
    repeat' (first | refine cs ?_ | refine ss ?_ | (((with_reducible apply Q_box); (focus (exact rfl)); (focus (exact rfl)); (focus (exact rfl))); intro bx) | (((with_reducible apply Q_alloc tab); (focus (exact rfl)); (focus (exact rfl)); (focus (exact rfl))); intro bx) | refine S_do (by kernel_rfl) (A_storeN tab rfl rfl rfl rfl rfl rfl rfl (by ((repeat (first | exact InB.head | apply InB.tail | (with_reducible apply InB.app))); done)) (by exact rfl) (by ((repeat (first | exact SetB.head | apply SetB.tail | (with_reducible apply SetB.app))); done)) ⟨Le.refl _, (by (repeat (first | exact trivial | (apply And.intro; (focus (first | (apply Or.inr; (try dsimp only); ((repeat (first | exact InB.head | apply InB.tail | (with_reducible apply InB.app))); done)) | (apply Or.inl; kernel_rfl))))))), ?_⟩))
    rw [show decide ((i : Int) < (xs.length : Int)) = true from decide_eq_true (by omega)]
    repeat' (first | refine cs ?_ | refine ss ?_ | (((with_reducible apply Q_box); (focus (exact rfl)); (focus (exact rfl)); (focus (exact rfl))); intro bx) | (((with_reducible apply Q_alloc tab); (focus (exact rfl)); (focus (exact rfl)); (focus (exact rfl))); intro bx) | refine S_do (by kernel_rfl) (A_storeN tab rfl rfl rfl rfl rfl rfl rfl (by ((repeat (first | exact InB.head | apply InB.tail | (with_reducible apply InB.app))); done)) (by exact rfl) (by ((repeat (first | exact SetB.head | apply SetB.tail | (with_reducible apply SetB.app))); done)) ⟨Le.refl _, (by (repeat (first | exact trivial | (apply And.intro; (focus (first | (apply Or.inr; (try dsimp only); ((repeat (first | exact InB.head | apply InB.tail | (with_reducible apply InB.app))); done)) | (apply Or.inl; kernel_rfl))))))), ?_⟩))
    refine L_elem tab i rfl rfl rfl rfl rfl rfl rfl hlt ?_
    refine L_load tab rfl rfl rfl hv1 (readB_one tab rfl rfl rfl (by rw [Nat.mul_one]; exact hc1 _ hlt)) ?_
    repeat' (first | refine cs ?_ | refine ss ?_ | (((with_reducible apply Q_box); (focus (exact rfl)); (focus (exact rfl)); (focus (exact rfl))); intro bx) | (((with_reducible apply Q_alloc tab); (focus (exact rfl)); (focus (exact rfl)); (focus (exact rfl))); intro bx) | refine S_do (by kernel_rfl) (A_storeN tab rfl rfl rfl rfl rfl rfl rfl (by ((repeat (first | exact InB.head | apply InB.tail | (with_reducible apply InB.app))); done)) (by exact rfl) (by ((repeat (first | exact SetB.head | apply SetB.tail | (with_reducible apply SetB.app))); done)) ⟨Le.refl _, (by (repeat (first | exact trivial | (apply And.intro; (focus (first | (apply Or.inr; (try dsimp only); ((repeat (first | exact InB.head | apply InB.tail | (with_reducible apply InB.app))); done)) | (apply Or.inl; kernel_rfl))))))), ?_⟩))
    refine L_elem tab i rfl rfl rfl rfl rfl rfl rfl hlt ?_
    refine L_load tab rfl rfl rfl hv2 (readB_one tab rfl rfl rfl (by rw [Nat.mul_one]; exact hc2 _ hlt)) ?_
    repeat' (first | refine cs ?_ | refine ss ?_ | (((with_reducible apply Q_box); (focus (exact rfl)); (focus (exact rfl)); (focus (exact rfl))); intro bx) | (((with_reducible apply Q_alloc tab); (focus (exact rfl)); (focus (exact rfl)); (focus (exact rfl))); intro bx) | refine S_do (by kernel_rfl) (A_storeN tab rfl rfl rfl rfl rfl rfl rfl (by ((repeat (first | exact InB.head | apply InB.tail | (with_reducible apply InB.app))); done)) (by exact rfl) (by ((repeat (first | exact SetB.head | apply SetB.tail | (with_reducible apply SetB.app))); done)) ⟨Le.refl _, (by (repeat (first | exact trivial | (apply And.intro; (focus (first | (apply Or.inr; (try dsimp only); ((repeat (first | exact InB.head | apply InB.tail | (with_reducible apply InB.app))); done)) | (apply Or.inl; kernel_rfl))))))), ?_⟩))
    rw [show (!xs[i].toList == xs[i].toList) = false by simp]
    repeat' (first | refine cs ?_ | refine ss ?_ | (((with_reducible apply Q_box); (focus (exact rfl)); (focus (exact rfl)); (focus (exact rfl))); intro bx) | (((with_reducible apply Q_alloc tab); (focus (exact rfl)); (focus (exact rfl)); (focus (exact rfl))); intro bx) | refine S_do (by kernel_rfl) (A_storeN tab rfl rfl rfl rfl rfl rfl rfl (by ((repeat (first | exact InB.head | apply InB.tail | (with_reducible apply InB.app))); done)) (by exact rfl) (by ((repeat (first | exact SetB.head | apply SetB.tail | (with_reducible apply SetB.app))); done)) ⟨Le.refl _, (by (repeat (first | exact trivial | (apply And.intro; (focus (first | (apply Or.inr; (try dsimp only); ((repeat (first | exact InB.head | apply InB.tail | (with_reducible apply InB.app))); done)) | (apply Or.inl; kernel_rfl))))))), ?_⟩))
    exact Loop_normal ⟨i + 1, w, by omega, ⟨rfl, (by (repeat (first | exact trivial | refine ⟨rfl, ?_⟩))), cntL⟩, Le.refl _, rfl, hlt⟩
  · rw [show decide ((i : Int) < (xs.length : Int)) = false from decide_eq_false (by omega)]
    repeat' (first | refine cs ?_ | refine ss ?_ | (((with_reducible apply Q_box); (focus (exact rfl)); (focus (exact rfl)); (focus (exact rfl))); intro bx) | (((with_reducible apply Q_alloc tab); (focus (exact rfl)); (focus (exact rfl)); (focus (exact rfl))); intro bx) | refine S_do (by kernel_rfl) (A_storeN tab rfl rfl rfl rfl rfl rfl rfl (by ((repeat (first | exact InB.head | apply InB.tail | (with_reducible apply InB.app))); done)) (by exact rfl) (by ((repeat (first | exact SetB.head | apply SetB.tail | (with_reducible apply SetB.app))); done)) ⟨Le.refl _, (by (repeat (first | exact trivial | (apply And.intro; (focus (first | (apply Or.inr; (try dsimp only); ((repeat (first | exact InB.head | apply InB.tail | (with_reducible apply InB.app))); done)) | (apply Or.inl; kernel_rfl))))))), ?_⟩))
    refine Fn_ret tab [] (by exact .tmp rfl .nil) (Back.here cntL) ?_
    exact ⟨by show Value.bool ((xs.length : Int) == xs.length) = _; simp, rfl⟩
end
end Go.Proofs.Ytbbaionoibkohaa
end
section
namespace Go.Proofs.Ytbbaionoibkohaa
open Go Go.Pal Go.Pal.Db Go.Conc View
open Go.Proofs.Try
set_option maxHeartbeats 4000000
theorem row_rep {v : View} {b n : Nat} {p : Bool} {c : Array Value} {e : TypeId} {f : Nat × Nat} {z : Value} (hv : v b = some (p, .cells c e f)) (hs : c.size = n) (hz : ∀ j, j < n → c[j]? = some z) : RowAt v (some ⟨b, 0, none⟩) (List.replicate n z) :=
  .inr ⟨b, 0, p, c, e, f, rfl, hv, by rw [List.length_replicate]; omega, fun i x hx => by
    rw [List.getElem?_replicate] at hx
    split at hx
    · cases hx; rw [Nat.zero_add]; exact hz i ‹_›
    · cases hx⟩
section
variable {mn : Who} {v : View}
theorem awake_x : Ret1 Try.prog mn 12 [] (.bool true) v := by
  refine callsB_fn tab func12 rfl (Nat.le_of_ble_eq_true rfl) (args := []) ?_
  repeat' (first | refine cs ?_ | refine ss ?_ | (((with_reducible apply Q_box); (focus (exact rfl)); (focus (exact rfl)); (focus (exact rfl))); intro bx) | (((with_reducible apply Q_alloc tab); (focus (exact rfl)); (focus (exact rfl)); (focus (exact rfl))); intro bx) | refine S_do (by kernel_rfl) (A_storeN tab rfl rfl rfl rfl rfl rfl rfl (by ((repeat (first | exact InB.head | apply InB.tail | (with_reducible apply InB.app))); done)) (by exact rfl) (by ((repeat (first | exact SetB.head | apply SetB.tail | (with_reducible apply SetB.app))); done)) ⟨Le.refl _, (by (repeat (first | exact trivial | (apply And.intro; (focus (first | (apply Or.inr; (try dsimp only); ((repeat (first | exact InB.head | apply InB.tail | (with_reducible apply InB.app))); done)) | (apply Or.inl; kernel_rfl))))))), ?_⟩))
  refine Q_op fun ho => A_lit tab ho rfl rfl rfl rfl rfl rfl rfl rfl rfl (fun b3 c3 hL3 => ?_)
  clear ho
  repeat' (first | refine cs ?_ | refine ss ?_ | (((with_reducible apply Q_box); (focus (exact rfl)); (focus (exact rfl)); (focus (exact rfl))); intro bx) | (((with_reducible apply Q_alloc tab); (focus (exact rfl)); (focus (exact rfl)); (focus (exact rfl))); intro bx) | refine S_do (by kernel_rfl) (A_storeN tab rfl rfl rfl rfl rfl rfl rfl (by ((repeat (first | exact InB.head | apply InB.tail | (with_reducible apply InB.app))); done)) (by exact rfl) (by ((repeat (first | exact SetB.head | apply SetB.tail | (with_reducible apply SetB.app))); done)) ⟨Le.refl _, (by (repeat (first | exact trivial | (apply And.intro; (focus (first | (apply Or.inr; (try dsimp only); ((repeat (first | exact InB.head | apply InB.tail | (with_reducible apply InB.app))); done)) | (apply Or.inl; kernel_rfl))))))), ?_⟩))
  refine Q_op fun ho => A_lit tab ho rfl rfl rfl rfl rfl rfl rfl rfl rfl (fun b4 c4 hL4 => ?_)
  clear ho
  refine Q_retire (β1 := [(b4, c4, 40), (b3, c3, 3)]) (β2 := []) cntA fun hbk => ?_
  obtain ⟨v1, hv1⟩ : ∃ v1, v1 = v.union (bview [(b4, c4, 40), (b3, c3, 3)]) := ⟨_, rfl⟩
  have hle1 : v.Le v1 := by rw [hv1]; exact union_le _ _
  obtain ⟨m, hmd⟩ : ∃ m : Mo, m = ⟨2, [0], some ⟨b3, 0, none⟩, 1⟩ := ⟨_, rfl⟩
  obtain ⟨x, hxd⟩ : ∃ x : Bo, x = ⟨[⟨0, 0, 1, 0⟩], some ⟨b4, 0, none⟩, 1⟩ := ⟨_, rfl⟩
  have hm : m.ok v1 := by
    subst hmd
    exact ⟨by rw [hv1]; exact RowAt.own hbk cntL hL3, ⟨by show 2 ≤ 2; decide, by show 2 ≤ 4; decide⟩, ⟨by show 1 ≤ 1; decide, by show 1 ≤ 3; decide⟩, by intro y hy; simp only [List.mem_singleton] at hy; subst hy; show 0 < 2; decide⟩
  have hx : x.ok m v1 := by
    subst hmd hxd
    refine ⟨by rw [hv1]; exact RowAt.own hbk cntL hL4, by show 1 ≤ 8; decide, ?_⟩
    intro y hy
    simp only [List.mem_singleton] at hy
    subst hy
    exact ⟨by show 0 ≤ 2; decide, by show 0 < 1; decide, (fun h => by cases h), ⟨by show 0 < 2; decide, by show 1 < 2; decide⟩, fun _ => by show (0 : Nat) ≠ 1; decide⟩
  rw [← hv1]
  refine Q_op fun ho => A_callR [] [] ho bod8 rfl rfl rfl rfl rfl split0 (by
    have := hold_x (mn := mn) (v := v1.union (bview [])) (hm.le (union_le _ _)) (hx.le (union_le _ _))
    rw [show m.val = .agg (List.toArray [natV 2, .slice (some ⟨b3, 0, none⟩) 1 1]) by rw [hmd]; rfl, show x.val = .slice (some ⟨b4, 0, none⟩) 1 1 by rw [hxd]; rfl] at this
    exact this) (fun r β' hR => ?_)
  clear ho
  obtain ⟨ar, cr, ad, cd, segr, segd, rep, rfl, rfl, hSr, hSd, hrep⟩ := hR
  have hdusk : duskOf m.dawn x.acts = [1] := by subst hmd hxd; rfl
  have hrep1 : rep = [okS] := by
    subst hmd hxd
    match rep, hrep with
    | [s], ⟨h1, _⟩ => rw [h1.2 rfl]
  rw [hdusk] at hSd ⊢
  subst hrep1
  clear hrep
  repeat' (first | refine cs ?_ | refine ss ?_ | (((with_reducible apply Q_box); (focus (exact rfl)); (focus (exact rfl)); (focus (exact rfl))); intro bx) | (((with_reducible apply Q_alloc tab); (focus (exact rfl)); (focus (exact rfl)); (focus (exact rfl))); intro bx) | refine S_do (by kernel_rfl) (A_storeN tab rfl rfl rfl rfl rfl rfl rfl (by ((repeat (first | exact InB.head | apply InB.tail | (with_reducible apply InB.app))); done)) (by exact rfl) (by ((repeat (first | exact SetB.head | apply SetB.tail | (with_reducible apply SetB.app))); done)) ⟨Le.refl _, (by (repeat (first | exact trivial | (apply And.intro; (focus (first | (apply Or.inr; (try dsimp only); ((repeat (first | exact InB.head | apply InB.tail | (with_reducible apply InB.app))); done)) | (apply Or.inl; kernel_rfl))))))), ?_⟩))
  refine Q_op fun ho => A_make tab (m := 2) (x := undef) ho rfl rfl rfl rfl rfl rfl rfl rfl rfl (by decide) (by decide) (fun b16 c16 hs16 hz16 => ?_)
  clear ho
  repeat' (first | refine cs ?_ | refine ss ?_ | (((with_reducible apply Q_box); (focus (exact rfl)); (focus (exact rfl)); (focus (exact rfl))); intro bx) | (((with_reducible apply Q_alloc tab); (focus (exact rfl)); (focus (exact rfl)); (focus (exact rfl))); intro bx) | refine S_do (by kernel_rfl) (A_storeN tab rfl rfl rfl rfl rfl rfl rfl (by ((repeat (first | exact InB.head | apply InB.tail | (with_reducible apply InB.app))); done)) (by exact rfl) (by ((repeat (first | exact SetB.head | apply SetB.tail | (with_reducible apply SetB.app))); done)) ⟨Le.refl _, (by (repeat (first | exact trivial | (apply And.intro; (focus (first | (apply Or.inr; (try dsimp only); ((repeat (first | exact InB.head | apply InB.tail | (with_reducible apply InB.app))); done)) | (apply Or.inl; kernel_rfl))))))), ?_⟩))
  refine Q_op fun ho => A_lit tab ho rfl rfl rfl rfl rfl rfl rfl rfl rfl (fun b18 c18 hL18 => ?_)
  clear ho
  refine Q_retire (β1 := [(b18, c18, 42), (b16, c16, 22)] ++ (segr ++ segd)) (β2 := []) cntA fun hbk2 => ?_
  obtain ⟨v2, hv2⟩ : ∃ v2, v2 = v1.union (bview ([(b18, c18, 42), (b16, c16, 22)] ++ (segr ++ segd))) := ⟨_, rfl⟩
  have hle2 : v1.Le v2 := by rw [hv2]; exact union_le _ _
  have hrr : RowAt v2 ar ([okS].map .string) := by rw [hv2]; exact RowAt.own hbk2 cntL hSr
  have hrd : RowAt v2 ad ([1].map natV) := by rw [hv2]; exact RowAt.own hbk2 cntL hSd
  obtain ⟨o, hod⟩ : ∃ o : Ow, o = ⟨2, some ⟨b16, 0, none⟩, 2, [⟨1, 0, 5⟩], some ⟨b18, 0, none⟩, 1⟩ := ⟨_, rfl⟩
  have ho : o.ok v2 := by
    subst hod
    refine ⟨?_, by rw [hv2]; exact RowAt.own hbk2 cntL hL18, ⟨by show 2 ≤ 2; decide, by show 2 ≤ 4; decide⟩, by show 1 ≤ 8; decide, ?_⟩
    · rw [hv2]
      exact row_rep (union_box hbk2 (.tail .head)) hs16 (fun j hj => by have hj : j < 2 := hj; rw [hz16 j (by omega)]; rcases (by omega : j = 0 ∨ j = 1) with rfl | rfl <;> rfl)
    · intro d hd
      simp only [List.mem_singleton] at hd
      subst hd
      exact ⟨by show 1 < 2; decide, by show 0 < 2; decide, by show (1 : Nat) ≠ 0; decide, by show (1 : Int) ≤ 5; decide, by show (5 : Int) ≤ 9; decide⟩
  rw [← hv2]
  repeat' (first | refine cs ?_ | refine ss ?_ | (((with_reducible apply Q_box); (focus (exact rfl)); (focus (exact rfl)); (focus (exact rfl))); intro bx) | (((with_reducible apply Q_alloc tab); (focus (exact rfl)); (focus (exact rfl)); (focus (exact rfl))); intro bx) | refine S_do (by kernel_rfl) (A_storeN tab rfl rfl rfl rfl rfl rfl rfl (by ((repeat (first | exact InB.head | apply InB.tail | (with_reducible apply InB.app))); done)) (by exact rfl) (by ((repeat (first | exact SetB.head | apply SetB.tail | (with_reducible apply SetB.app))); done)) ⟨Le.refl _, (by (repeat (first | exact trivial | (apply And.intro; (focus (first | (apply Or.inr; (try dsimp only); ((repeat (first | exact InB.head | apply InB.tail | (with_reducible apply InB.app))); done)) | (apply Or.inl; kernel_rfl))))))), ?_⟩))
  refine Q_op fun ho' => A_callR [] [] ho' bod9 rfl rfl rfl rfl rfl split0 (by
    have := net_x (mn := mn) (v := v2.union (bview [])) (ho.le (union_le _ _))
    rw [show o.val = .agg (List.toArray [.slice (some ⟨b16, 0, none⟩) 2 2, .slice (some ⟨b18, 0, none⟩) 1 1]) by rw [hod]; rfl] at this
    exact this) (fun r β' hR => ?_)
  clear ho'
  obtain ⟨an, cn, rfl, hSn⟩ := hR
  have hnets : (netsOf o.ds).take o.n = [5, -5] := by subst hod; rfl
  have hon : o.n = 2 := by rw [hod]
  rw [hnets] at hSn
  rw [hon] at hSn ⊢
  repeat' (first | refine cs ?_ | refine ss ?_ | (((with_reducible apply Q_box); (focus (exact rfl)); (focus (exact rfl)); (focus (exact rfl))); intro bx) | (((with_reducible apply Q_alloc tab); (focus (exact rfl)); (focus (exact rfl)); (focus (exact rfl))); intro bx) | refine S_do (by kernel_rfl) (A_storeN tab rfl rfl rfl rfl rfl rfl rfl (by ((repeat (first | exact InB.head | apply InB.tail | (with_reducible apply InB.app))); done)) (by exact rfl) (by ((repeat (first | exact SetB.head | apply SetB.tail | (with_reducible apply SetB.app))); done)) ⟨Le.refl _, (by (repeat (first | exact trivial | (apply And.intro; (focus (first | (apply Or.inr; (try dsimp only); ((repeat (first | exact InB.head | apply InB.tail | (with_reducible apply InB.app))); done)) | (apply Or.inl; kernel_rfl))))))), ?_⟩))
  refine Q_op fun ho => A_lit tab ho rfl rfl rfl rfl rfl rfl rfl rfl rfl (fun b31 c31 hL31 => ?_)
  clear ho
  repeat' (first | refine cs ?_ | refine ss ?_ | (((with_reducible apply Q_box); (focus (exact rfl)); (focus (exact rfl)); (focus (exact rfl))); intro bx) | (((with_reducible apply Q_alloc tab); (focus (exact rfl)); (focus (exact rfl)); (focus (exact rfl))); intro bx) | refine S_do (by kernel_rfl) (A_storeN tab rfl rfl rfl rfl rfl rfl rfl (by ((repeat (first | exact InB.head | apply InB.tail | (with_reducible apply InB.app))); done)) (by exact rfl) (by ((repeat (first | exact SetB.head | apply SetB.tail | (with_reducible apply SetB.app))); done)) ⟨Le.refl _, (by (repeat (first | exact trivial | (apply And.intro; (focus (first | (apply Or.inr; (try dsimp only); ((repeat (first | exact InB.head | apply InB.tail | (with_reducible apply InB.app))); done)) | (apply Or.inl; kernel_rfl))))))), ?_⟩))
  refine Q_op fun ho => A_bok fun hbk3 => A_callR [] _ ho bod29 rfl rfl rfl rfl rfl split0 (sameW_x (xs := [okS]) (hrr.le (union_le _ _)) (RowAt.own hbk3 cntL hL31) (by decide) rfl) (fun r β' hR => ?_)
  clear ho
  obtain ⟨rfl, rfl⟩ := hR
  repeat' (first | refine cs ?_ | refine ss ?_ | (((with_reducible apply Q_box); (focus (exact rfl)); (focus (exact rfl)); (focus (exact rfl))); intro bx) | (((with_reducible apply Q_alloc tab); (focus (exact rfl)); (focus (exact rfl)); (focus (exact rfl))); intro bx) | refine S_do (by kernel_rfl) (A_storeN tab rfl rfl rfl rfl rfl rfl rfl (by ((repeat (first | exact InB.head | apply InB.tail | (with_reducible apply InB.app))); done)) (by exact rfl) (by ((repeat (first | exact SetB.head | apply SetB.tail | (with_reducible apply SetB.app))); done)) ⟨Le.refl _, (by (repeat (first | exact trivial | (apply And.intro; (focus (first | (apply Or.inr; (try dsimp only); ((repeat (first | exact InB.head | apply InB.tail | (with_reducible apply InB.app))); done)) | (apply Or.inl; kernel_rfl))))))), ?_⟩))
  refine Q_op fun ho => A_lit tab ho rfl rfl rfl rfl rfl rfl rfl rfl rfl (fun b36 c36 hL36 => ?_)
  clear ho
  repeat' (first | refine cs ?_ | refine ss ?_ | (((with_reducible apply Q_box); (focus (exact rfl)); (focus (exact rfl)); (focus (exact rfl))); intro bx) | (((with_reducible apply Q_alloc tab); (focus (exact rfl)); (focus (exact rfl)); (focus (exact rfl))); intro bx) | refine S_do (by kernel_rfl) (A_storeN tab rfl rfl rfl rfl rfl rfl rfl (by ((repeat (first | exact InB.head | apply InB.tail | (with_reducible apply InB.app))); done)) (by exact rfl) (by ((repeat (first | exact SetB.head | apply SetB.tail | (with_reducible apply SetB.app))); done)) ⟨Le.refl _, (by (repeat (first | exact trivial | (apply And.intro; (focus (first | (apply Or.inr; (try dsimp only); ((repeat (first | exact InB.head | apply InB.tail | (with_reducible apply InB.app))); done)) | (apply Or.inl; kernel_rfl))))))), ?_⟩))
  refine Q_op fun ho => A_bok fun hbk3 => A_callR [] _ ho bod11 rfl rfl rfl rfl rfl split0 (sameI_x (xs := [1]) (hrd.le (union_le _ _)) (RowAt.own hbk3 cntL hL36) (by decide) rfl) (fun r β' hR => ?_)
  clear ho
  obtain ⟨rfl, rfl⟩ := hR
  repeat' (first | refine cs ?_ | refine ss ?_ | (((with_reducible apply Q_box); (focus (exact rfl)); (focus (exact rfl)); (focus (exact rfl))); intro bx) | (((with_reducible apply Q_alloc tab); (focus (exact rfl)); (focus (exact rfl)); (focus (exact rfl))); intro bx) | refine S_do (by kernel_rfl) (A_storeN tab rfl rfl rfl rfl rfl rfl rfl (by ((repeat (first | exact InB.head | apply InB.tail | (with_reducible apply InB.app))); done)) (by exact rfl) (by ((repeat (first | exact SetB.head | apply SetB.tail | (with_reducible apply SetB.app))); done)) ⟨Le.refl _, (by (repeat (first | exact trivial | (apply And.intro; (focus (first | (apply Or.inr; (try dsimp only); ((repeat (first | exact InB.head | apply InB.tail | (with_reducible apply InB.app))); done)) | (apply Or.inl; kernel_rfl))))))), ?_⟩))
  refine Q_op fun ho => A_lit tab ho rfl rfl rfl rfl rfl rfl rfl rfl rfl (fun b41 c41 hL41 => ?_)
  clear ho
  repeat' (first | refine cs ?_ | refine ss ?_ | (((with_reducible apply Q_box); (focus (exact rfl)); (focus (exact rfl)); (focus (exact rfl))); intro bx) | (((with_reducible apply Q_alloc tab); (focus (exact rfl)); (focus (exact rfl)); (focus (exact rfl))); intro bx) | refine S_do (by kernel_rfl) (A_storeN tab rfl rfl rfl rfl rfl rfl rfl (by ((repeat (first | exact InB.head | apply InB.tail | (with_reducible apply InB.app))); done)) (by exact rfl) (by ((repeat (first | exact SetB.head | apply SetB.tail | (with_reducible apply SetB.app))); done)) ⟨Le.refl _, (by (repeat (first | exact trivial | (apply And.intro; (focus (first | (apply Or.inr; (try dsimp only); ((repeat (first | exact InB.head | apply InB.tail | (with_reducible apply InB.app))); done)) | (apply Or.inl; kernel_rfl))))))), ?_⟩))
  refine Q_op fun ho => A_bok fun hbk3 => A_callR [] _ ho bod11 rfl rfl rfl rfl rfl split0 (sameI_x (xs := [5, -5]) (RowAt.own hbk3 cntL hSn) (RowAt.own hbk3 cntL hL41) (by decide) rfl) (fun r β' hR => ?_)
  clear ho
  obtain ⟨rfl, rfl⟩ := hR
  repeat' (first | refine cs ?_ | refine ss ?_ | (((with_reducible apply Q_box); (focus (exact rfl)); (focus (exact rfl)); (focus (exact rfl))); intro bx) | (((with_reducible apply Q_alloc tab); (focus (exact rfl)); (focus (exact rfl)); (focus (exact rfl))); intro bx) | refine S_do (by kernel_rfl) (A_storeN tab rfl rfl rfl rfl rfl rfl rfl (by ((repeat (first | exact InB.head | apply InB.tail | (with_reducible apply InB.app))); done)) (by exact rfl) (by ((repeat (first | exact SetB.head | apply SetB.tail | (with_reducible apply SetB.app))); done)) ⟨Le.refl _, (by (repeat (first | exact trivial | (apply And.intro; (focus (first | (apply Or.inr; (try dsimp only); ((repeat (first | exact InB.head | apply InB.tail | (with_reducible apply InB.app))); done)) | (apply Or.inl; kernel_rfl))))))), ?_⟩))
  refine Fn_ret tab (xs := [.bool true]) [] (by exact .tmp rfl .nil) (Back.le (hle1.trans hle2) fun p => Nat.zero_le _) ?_
  exact ⟨rfl, rfl⟩
end
end Go.Proofs.Ytbbaionoibkohaa
end
section
namespace Go.Pal
open Go Go.Conc View
def soloM (g : Goroutine) (w : World) : Machine := { world := w, gs := #[g], rest := { timers := #[], alone := none, slice := none } }
theorem move_solo {P : Program} {g : Goroutine} {w : World} (hs : g.status = .running) : move P (soloM g w) = .goroutine (soloM g w) 0 := by
  simp [move, ask, askOn, soloM, runnable_eq, due, ahead, Goroutine.canRun, hs, List.range_succ, choose, pure, Sem.run, Question.forced]
theorem step_solo {P : Program} {g g' : Goroutine} {w w' : World} {es : Array Event} (hs : g.status = .running) (h : stepG P true g w = .go g' w' es) : step P (soloM g w) = .next (soloM g' w') := by
  rw [step, stepT, move_solo hs]
  simp [runT, soloM, Array.swapAt!, h]
def AtCall (f : FuncId) (t : Nat) (cs : List Frame) : View → Goroutine → Prop := fun _ g => ∃ fr : Frame, g = G fr cs ∧ fr.mode = .returning ∧ fr.defers = [] ∧ fr.kind = .normal ∧ fr.fn = f ∧ fr.tmps[t]? = some (.bool true)
def CallQ (t : Nat) : Exit → St → View → Prop := fun e σ _ => e = .ret ∧ σ.ds = [] ∧ σ.ρ.get t = some (.bool true)
section
variable {P : Program} {v : View}
theorem run_lone {Stop : View → Goroutine → Prop} {g : Goroutine} (h : Run P ⟨true, false⟩ Stop v g) : ∀ w, v.Agree w → ∃ w' u g', Steps P (soloM g w) (soloM g' w') ∧ PStep v w u w' ∧ w'.os = w.os ∧ Stop u g' := by
  induction h with
  | @stop u v g hl h => exact fun w hag => ⟨w, u, g, .refl _ _, (PStep.refl (hag.le hl)).le hl, rfl, h⟩
  | @step v g hs ng nw ne nv h r ih =>
    intro w hag
    obtain ⟨h1, h2⟩ := h w hag
    obtain ⟨w', u, g', k1, k2, k3, k4⟩ := ih w hag (nw w) h2.agree
    exact ⟨w', u, g', .head (step_solo hs h1) k1, (h2.pstep).trans k2, k3.trans h2.os, k4⟩
  | phase hp => cases hp
theorem call_run {mn : Who} {f : FuncId} {fn : Func} {c : Code} {args : List Value} {t : Nat} (hf : P.funcs[f]? = some fn) (hb : fn.body = some c) (hn : args.length ≤ fn.ntmps) (h : XC P mn none fn.ntmps c (CallQ t) ⟨[], argRegs 0 args, []⟩ v) (cs : List Frame) :
    Run P mn (AtCall f t cs) v (G (Frame.enter P f args.toArray .normal) cs) := by
  let b : Frame := { fn := f, tmps := #[], todo := [], defers := [], mode := .run, kind := .normal }
  have henter : Frame.enter P f args.toArray .normal = b.on { tmps := args.toArray ++ Array.replicate (fn.ntmps - args.toArray.size) undef, defers := [] } [.code c] := by
    simp [Frame.enter, Frame.on, hf, hb, b]
  rw [henter]
  have h1 := (h _ (fits_args hn) (bok_nil v)) (AtCall f t cs) b [] cs (by simp [b]) rfl (fun e a' w hQ => by
    obtain ⟨⟨ds', ρ', β'⟩, u, ⟨rfl, h1, h2⟩, hf', hb', hl⟩ := hQ
    intro todo
    refine Run.ctl rfl (g' := G { b.on a' (.code .ret :: todo) with mode := .returning } cs) (fun w => by simp [G, stepG, stepG.exec, Frame.on, b]) ?_
    exact .stop (Le.refl _) ⟨_, rfl, rfl, hf'.defers.trans h1, rfl, rfl, hf'.get _ _ h2⟩)
  rw [union_nil] at h1
  exact h1
theorem calls_lone {f : FuncId} {fn : Func} {c : Code} {args : List Value} {t : Nat} {W : World} (hf : P.funcs[f]? = some fn) (hb : fn.body = some c) (hn : args.length ≤ fn.ntmps) (hres : fn.results = #[.tmp t]) (hag : v.Agree W) (hro : ∀ b, ¬ v.Owns b)
    (h : XC P ⟨true, false⟩ none fn.ntmps c (CallQ t) ⟨[], argRegs 0 args, []⟩ v) :
    Calls P f args.toArray W fun e W' => e = .returned (.bool true) ∧ Go.RowKit.Below W.heap.size W W' := fun cs => by
  obtain ⟨w', u, g', k1, k2, k3, fr, rfl, m1, m2, m3, m4, m5⟩ := run_lone (call_run hf hb hn h cs) W hag
  refine ⟨.returned (.bool true), w', fr, ⟨rfl, ⟨k3, k2.tape, k2.output, k2.size, fun k hk => k2.keep k hk (hro k)⟩⟩, k1, m4, m1, m2, m3, fn, by rw [m4]; exact hf, ?_⟩
  simp [results, hres, m5, Sem.run, Sem.bind]
end
end Go.Pal
end
