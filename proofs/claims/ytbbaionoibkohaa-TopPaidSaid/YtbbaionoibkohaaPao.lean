/- Part 15 of the proof that stands in the last text. -/
import Derived.Test.YtbbaionoibkohaaPan
set_option linter.all false
section
namespace Go.Pal.Db
def gat (l : List Int) (i : Nat) : Int := l.getD i 0
def addAt (l : List Int) (i : Nat) (x : Int) : List Int := l.set i (gat l i + x)
theorem addAt_len (l : List Int) (i : Nat) (x : Int) : (addAt l i x).length = l.length := by simp [addAt]
theorem gat_addAt {l : List Int} {i : Nat} (h : i < l.length) (j : Nat) (x : Int) : gat (addAt l i x) j = if j = i then gat l i + x else gat l j := by
  unfold gat addAt
  rw [List.getD_eq_getElem?_getD, List.getElem?_set]
  by_cases hj : j = i
  · subst hj; simp [h, gat]
  · rw [if_neg (fun e => hj e.symm), if_neg hj, List.getD_eq_getElem?_getD]
theorem sum_addAt : ∀ {l : List Int} {i : Nat}, i < l.length → ∀ x, (addAt l i x).sum = l.sum + x
  | a :: l, 0, _, x => by simp only [addAt, gat, List.getD_cons_zero, List.set_cons_zero, List.sum_cons]; omega
  | a :: l, i + 1, h, x => by
    have := sum_addAt (l := l) (i := i) (by simpa using h) x
    simp only [addAt, gat, List.getD_cons_succ, List.set_cons_succ, List.sum_cons] at this ⊢
    omega
theorem sum_zero : ∀ {l : List Int}, (∀ i, gat l i = 0) → l.sum = 0
  | [], _ => rfl
  | a :: l, h => by
    have h0 := h 0
    have h1 := sum_zero (l := l) fun i => by have := h (i + 1); simpa [gat] using this
    simp only [gat, List.getD_cons_zero] at h0
    simp [h0, h1]
theorem sum_one {l : List Int} {c : Nat} (hc : c < l.length) (h : ∀ i, i ≠ c → gat l i = 0) : l.sum = gat l c := by
  have h1 := sum_addAt hc (-gat l c)
  have h2 := sum_zero (l := addAt l c (-gat l c)) fun i => by
    rw [gat_addAt hc]
    split
    · omega
    · exact h i ‹_›
  omega
theorem sum_two {l : List Int} {c i : Nat} (hc : c < l.length) (hi : i < l.length) (hci : i ≠ c) (h : ∀ j, j ≠ c → j ≠ i → gat l j = 0) : l.sum = gat l c + gat l i := by
  have h1 := sum_addAt hi (-gat l i)
  have h2 := sum_one (l := addAt l i (-gat l i)) (c := c) (by rw [addAt_len]; exact hc) fun j hj => by
    rw [gat_addAt hi]
    split
    · omega
    · exact h j hj ‹_›
  rw [gat_addAt hi, if_neg (fun e => hci e.symm)] at h2
  omega
abbrev Pr := Nat × Nat
def touch (p : Nat) (x : Pr) : Bool := x.1 == p || x.2 == p
def scan (p : Nat) : List Pr → Nat → Nat × Nat → Nat × Nat
  | [], _, s => s
  | x :: l, i, s => scan p l (i + 1) (if touch p x then (i, s.2 + 1) else s)
def scanL (p : Nat) (l : List Pr) : Nat × Nat := scan p l 0 (0, 0)
theorem scan_snoc (p : Nat) : ∀ (l : List Pr) (x : Pr) (i : Nat) (s : Nat × Nat), scan p (l ++ [x]) i s = (if touch p x then (i + l.length, (scan p l i s).2 + 1) else scan p l i s)
  | [], x, i, s => by simp [scan]
  | y :: l, x, i, s => by
    simp only [List.cons_append, scan]
    rw [scan_snoc p l x]
    simp only [List.length_cons]
    rw [show i + 1 + l.length = i + (l.length + 1) by omega]
theorem scanL_take (p : Nat) {l : List Pr} {k : Nat} (hk : k < l.length) : scanL p (l.take (k + 1)) = (if touch p l[k] then (k, (scanL p (l.take k)).2 + 1) else scanL p (l.take k)) := by
  unfold scanL
  rw [List.take_succ_eq_append_getElem hk, scan_snoc]
  simp only [List.length_take]
  rw [Nat.min_eq_left (by omega), Nat.zero_add]
theorem scan_cnt (p : Nat) : ∀ (l : List Pr) (i : Nat) (s : Nat × Nat), (scan p l i s).2 = s.2 + (l.filter (touch p)).length
  | [], _, s => by simp [scan]
  | x :: l, i, s => by
    simp only [scan]
    rw [scan_cnt p l]
    cases h : touch p x <;> simp [h]
    omega
theorem scan_at (p : Nat) : ∀ (l : List Pr) (i : Nat) (s : Nat × Nat), ((scan p l i s) = s ∨ ∃ k, ∃ h : k < l.length, (scan p l i s).1 = i + k ∧ touch p l[k] = true)
  | [], _, s => .inl rfl
  | x :: l, i, s => by
    simp only [scan]
    rcases scan_at p l (i + 1) (if touch p x then (i, s.2 + 1) else s) with h | ⟨k, hk, h1, h2⟩
    · rw [h]
      cases hx : touch p x with
      | false => simp
      | true => right; exact ⟨0, by simp, by simp, by simpa using hx⟩
    · right
      exact ⟨k + 1, by simpa using hk, by rw [h1]; omega, by simpa using h2⟩
theorem scanL_one {p : Nat} {l : List Pr} (h : (scanL p l).2 = 1) : ∃ hk : (scanL p l).1 < l.length, touch p l[(scanL p l).1] = true := by
  rcases scan_at p l 0 (0, 0) with e | ⟨k, hk, h1, h2⟩
  · unfold scanL at h; rw [e] at h; cases h
  · have : (scanL p l).1 = k := by unfold scanL; omega
    simp only [this]
    exact ⟨hk, h2⟩
def leafIn (l : List Pr) : List Nat → Option (Nat × Nat)
  | [] => none
  | p :: ps => if (scanL p l).2 = 1 then some (p, (scanL p l).1) else leafIn l ps
theorem leafIn_some {l : List Pr} : ∀ {ps : List Nat} {p k : Nat}, leafIn l ps = some (p, k) → p ∈ ps ∧ (scanL p l).2 = 1 ∧ k = (scanL p l).1
  | q :: ps, p, k, h => by
    unfold leafIn at h
    split at h
    · rename_i h1
      simp only [Option.some.injEq, Prod.mk.injEq] at h
      obtain ⟨rfl, rfl⟩ := h
      exact ⟨by simp, h1, rfl⟩
    · obtain ⟨h1, h2⟩ := leafIn_some h
      exact ⟨by simp [h1], h2⟩
theorem leafIn_none {l : List Pr} : ∀ {ps : List Nat}, leafIn l ps = none → ∀ p ∈ ps, (scanL p l).2 ≠ 1
  | [], _, p, hp => by cases hp
  | q :: ps, h, p, hp => by
    unfold leafIn at h
    split at h
    · cases h
    · rcases List.mem_cons.1 hp with rfl | hp
      · assumption
      · exact leafIn_none h p hp
def paid (left : List Int) (p q : Nat) (m : Int) : List Int := addAt (addAt left p m) q (-m)
theorem paid_len (left : List Int) (p q : Nat) (m : Int) : (paid left p q m).length = left.length := by simp [paid, addAt_len]
theorem paid_swap {left : List Int} {p q : Nat} (h : p ≠ q) (hp : p < left.length) (hq : q < left.length) (m : Int) : paid left q p (-m) = paid left p q m := by
  unfold paid addAt
  rw [Int.neg_neg]
  have e1 : gat (left.set q (gat left q + -m)) p = gat left p := by
    have := gat_addAt hq p (-m); unfold addAt at this; rw [this, if_neg h]
  have e2 : gat (left.set p (gat left p + m)) q = gat left q := by
    have := gat_addAt hp q m; unfold addAt at this; rw [this, if_neg (fun e => h e.symm)]
  rw [e1, e2, List.set_comm _ _ (fun e => h e.symm)]
def zeroL (left : List Int) : Bool := left.all (· == 0)
theorem zeroL_iff {left : List Int} : zeroL left = true ↔ ∀ i, gat left i = 0 := by
  unfold zeroL gat
  rw [List.all_eq_true]
  constructor
  · intro h i
    rw [List.getD_eq_getElem?_getD]
    cases e : left[i]? with
    | none => rfl
    | some x => simpa using h x (List.mem_of_getElem? e)
  · intro h x hx
    obtain ⟨i, hi, rfl⟩ := List.getElem_of_mem hx
    have := h i
    rw [List.getD_eq_getElem?_getD, List.getElem?_eq_getElem hi] at this
    simpa using this
def ok (n : Nat) : Nat → List Pr → List Int → Bool
  | 0, _, left => zeroL left
  | k + 1, l, left => match leafIn l (List.range n) with
    | none => false
    | some (p, j) =>
      let x := l.getD j (0, 0)
      let m := -gat left p
      if m = 0 then false else ok n k (l.eraseIdx j) (paid left p (x.1 + x.2 - p) m)
def okL (n : Nat) (l : List Pr) (left : List Int) : Bool := ok n l.length l left
def star (c : Nat) (T : List Nat) : List Pr := T.map fun i => (c, i)
theorem star_len (c : Nat) (T : List Nat) : (star c T).length = T.length := by simp [star]
theorem touch_star {c i p : Nat} : touch p (c, i) = true ↔ c = p ∨ i = p := by simp [touch]
theorem star_own {c p : Nat} : ∀ {T : List Nat}, p ≠ c → T.Nodup → p ∈ T → ((star c T).filter (touch p)).length = 1
  | i :: T, hp, hn, hm => by
    rw [List.nodup_cons] at hn
    have hz : ∀ {T : List Nat}, p ∉ T → ((star c T).filter (touch p)).length = 0 := fun {T} h => by
      rw [List.length_eq_zero_iff, List.filter_eq_nil_iff]
      intro x hx
      obtain ⟨i, hi, rfl⟩ := List.mem_map.1 hx
      rw [touch_star]
      rintro (e | e)
      · exact hp e.symm
      · exact h (e ▸ hi)
    rcases List.mem_cons.1 hm with rfl | hm
    · show (List.filter (touch p) ((c, p) :: star c T)).length = 1
      rw [List.filter_cons_of_pos (touch_star.2 (.inr rfl)), List.length_cons, hz hn.1]
    · show (List.filter (touch p) ((c, i) :: star c T)).length = 1
      rw [List.filter_cons_of_neg (by rw [touch_star]; rintro (e | e); exact hp e.symm; exact hn.1 (e ▸ hm))]
      exact star_own hp hn.2 hm
theorem star_mid {c : Nat} : ∀ {T : List Nat}, ((star c T).filter (touch c)).length = T.length
  | [] => rfl
  | i :: T => by
    show (List.filter (touch c) ((c, i) :: star c T)).length = _
    rw [List.filter_cons_of_pos (touch_star.2 (.inl rfl)), List.length_cons, star_mid]; rfl
theorem star_erase {c : Nat} {T : List Nat} {k : Nat} : (star c T).eraseIdx k = star c (T.eraseIdx k) := by
  unfold star
  induction T generalizing k with
  | nil => rfl
  | cons x T ih => cases k with
    | zero => rfl
    | succ k => simp only [List.map_cons, List.eraseIdx_cons_succ, ih]
theorem perm_erase : ∀ {T : List Nat} {j : Nat} (h : j < T.length), T.Perm (T[j] :: T.eraseIdx j)
  | x :: T, 0, _ => List.Perm.refl _
  | x :: T, j + 1, h => by
    simp only [List.getElem_cons_succ, List.eraseIdx_cons_succ]
    exact ((perm_erase (by simpa using h)).cons x).trans (List.Perm.swap _ _ _)
theorem star_ok {n c : Nat} (hc : c < n) : ∀ (k : Nat) {T : List Nat} {left : List Int}, T.length = k → n ≤ left.length → T.Nodup → (∀ i ∈ T, c < i ∧ i < n) → (∀ i, i ≠ c → i ∉ T → gat left i = 0) → (∀ i ∈ T, gat left i ≠ 0) → left.sum = 0 → ok n k (star c T) left = true
  | 0, T, left, hk, hl, hn, hT, h0, h1, hs => by
    have := List.length_eq_zero_iff.1 hk
    subst this
    show zeroL left = true
    rw [zeroL_iff]
    have hall : ∀ i, i ≠ c → gat left i = 0 := fun i hi => h0 i hi (by simp)
    have := sum_one (show c < left.length by omega) hall
    intro i
    by_cases hi : i = c
    · rw [hi]; omega
    · exact hall i hi
  | k + 1, T, left, hk, hl, hn, hT, h0, h1, hs => by
    unfold ok
    cases e : leafIn (star c T) (List.range n) with
    | none =>
      exfalso
      obtain ⟨i, T', rfl⟩ : ∃ i T', T = i :: T' := by
        cases T with
        | nil => cases hk
        | cons i T' => exact ⟨i, T', rfl⟩
      have h2 := hT i (by simp)
      have h3 := leafIn_none e i (List.mem_range.2 h2.2)
      apply h3
      unfold scanL
      rw [scan_cnt, star_own (by omega) hn (by simp)]
    | some pj =>
      obtain ⟨p, j⟩ := pj
      obtain ⟨hp, hone, rfl⟩ := leafIn_some e
      obtain ⟨hj, ht⟩ := scanL_one hone
      rw [List.mem_range] at hp
      generalize hjj : (scanL p (star c T)).1 = j at *
      have hjT : j < T.length := by rw [star_len] at hj; exact hj
      have hx : (star c T).getD j (0, 0) = (c, T[j]) := by
        rw [List.getD_eq_getElem?_getD, List.getElem?_eq_getElem hj]; simp [star]
      have ht' : c = p ∨ T[j] = p := by
        have : (star c T)[j] = (c, T[j]) := by simp [star]
        rw [this] at ht
        exact touch_star.1 ht
      have hmem : T[j] ∈ T := List.getElem_mem _
      have hTj := hT _ hmem
      simp only [hx, star_erase]
      have hlen : (T.eraseIdx j).length = k := by rw [List.length_eraseIdx_of_lt hjT]; omega
      have hsub : ∀ i, i ∈ T.eraseIdx j → i ∈ T := fun i hi => List.mem_of_mem_eraseIdx hi
      have hnd : (T.eraseIdx j).Nodup := hn.sublist (List.eraseIdx_sublist _ _)
      have hnot : T[j] ∉ T.eraseIdx j := by
        intro hm
        have hperm : T.Perm (T[j] :: T.eraseIdx j) := perm_erase hjT
        have := hperm.nodup_iff.1 hn
        exact (List.nodup_cons.1 this).1 hm
      have hback : ∀ i, i ∈ T → i ≠ T[j] → i ∈ T.eraseIdx j := fun i hi hne => by
        have hperm : T.Perm (T[j] :: T.eraseIdx j) := perm_erase hjT
        rcases List.mem_cons.1 (hperm.mem_iff.1 hi) with h | h
        · exact absurd h hne
        · exact h
      by_cases hpc : T[j] = p
      · have hpc' : p ≠ c := by omega
        rw [hpc, show c + p - p = c by omega]
        have hmne : ¬ (-gat left p = 0) := by have := h1 _ hmem; rw [hpc] at this; omega
        rw [if_neg hmne]
        have hpl : p < left.length := by omega
        have hcl : c < (addAt left p (-gat left p)).length := by rw [addAt_len]; omega
        refine star_ok hc k hlen (by rw [paid_len]; exact hl) hnd (fun i hi => hT i (hsub i hi)) (fun i hic hiT => ?_) (fun i hi => ?_) ?_
        · unfold paid
          rw [gat_addAt hcl, if_neg hic, gat_addAt hpl]
          split
          · omega
          · refine h0 i hic fun hm => hiT (hback i hm ?_)
            rw [hpc]; assumption
        · unfold paid
          have hic := (hT i (hsub i hi)).1
          rw [gat_addAt hcl, if_neg (by omega), gat_addAt hpl, if_neg (fun e => hnot (by rw [hpc, ← e]; exact hi))]
          exact h1 i (hsub i hi)
        · unfold paid
          rw [sum_addAt hcl, sum_addAt hpl]; omega
      · have hcp : c = p := ht'.resolve_right hpc
        subst hcp
        have hT1 : T.length = 1 := by
          have := hone
          unfold scanL at this
          rw [scan_cnt, star_mid] at this
          omega
        have hk0 : k = 0 := by omega
        subst hk0
        obtain ⟨i, rfl⟩ := List.length_eq_one_iff.1 hT1
        have hj0 : j = 0 := by simpa using hjT
        subst hj0
        simp only [List.getElem_cons_zero] at *
        rw [show c + i - c = i by omega]
        have hcl : c < left.length := by omega
        have hil : i < left.length := by omega
        have hs2 := sum_two hcl hil (by omega) fun j hj1 hj2 => h0 j hj1 (by simpa using hj2)
        have hi1 := h1 i (by simp)
        rw [if_neg (by omega)]
        have hil2 : i < (addAt left c (-gat left c)).length := by rw [addAt_len]; exact hil
        refine star_ok hc 0 hlen (by rw [paid_len]; exact hl) hnd (fun i hi => hT i (hsub i hi)) (fun j hjc hjT => ?_) (fun i hi => absurd hi (by simp)) ?_
        · unfold paid
          rw [gat_addAt hil2, gat_addAt hcl, gat_addAt hcl]
          by_cases hji : j = i
          · rw [if_pos hji, if_neg (by omega)]; omega
          · rw [if_neg hji, if_neg hjc]
            exact h0 j hjc (by simpa using hji)
        · unfold paid
          rw [sum_addAt hil2, sum_addAt hcl]; omega
end Go.Pal.Db
end
section
namespace Go.Proofs.Ytbbaionoibkohaa
open Go Go.Pal Go.Pal.Db Go.Conc View
open Go.Proofs.Try
set_option maxHeartbeats 4000000
abbrev intV (n : Int) : Value := .int .i64 n
structure Dt where
  (f t : Nat)
  m : Int
def Dt.cells (d : Dt) : List Value := [natV d.f, natV d.t, intV d.m]
def Dt.val (d : Dt) : Value := .agg d.cells.toArray
structure Dt.ok (d : Dt) (n : Nat) : Prop where
  f : d.f < n
  t : d.t < n
  ne : d.f ≠ d.t
  m : 1 ≤ d.m ∧ d.m ≤ 9
structure Ow where
  n : Nat
  ap : Option Addr
  cp : Nat
  ds : List Dt
  ad : Option Addr
  cd : Nat
def Ow.val (o : Ow) : Value := .agg (List.toArray [.slice o.ap o.n o.cp, .slice o.ad o.ds.length o.cd])
structure Ow.ok (o : Ow) (v : View) : Prop where
  p : RowAt v o.ap (List.replicate o.n (.slice none 0 0))
  d : RowAt v o.ad (o.ds.map Dt.cells).flatten
  n : 2 ≤ o.n ∧ o.n ≤ 4
  len : o.ds.length ≤ 8
  all : ∀ d ∈ o.ds, d.ok o.n
theorem Ow.ok.le {o : Ow} {u v : View} (h : o.ok u) (hl : u.Le v) : o.ok v := ⟨h.p.le hl, h.d.le hl, h.n, h.len, h.all⟩
theorem Ow.ok.get {o : Ow} {v : View} (h : o.ok v) {i : Nat} (hi : i < o.ds.length) :
    ∃ b off p c e f, o.ad = some ⟨b, off, none⟩ ∧ v b = some (p, .cells c e f) ∧ ∀ j (hj : j < o.ds.length), off + j * 3 + 3 ≤ c.size ∧ c.extract (off + j * 3) (off + j * 3 + 3) = o.ds[j].cells.toArray := by
  obtain ⟨b, off, p, c, e, f, h1, h2, h3⟩ := RowAt.recs (k := 3) h.d (by intro y hy; obtain ⟨z, _, rfl⟩ := List.mem_map.1 hy; rfl) (by omega) (i := i) (by simpa using hi)
  refine ⟨b, off, p, c, e, f, h1, h2, fun j hj => ?_⟩
  have := h3 j (by simpa using hj)
  simpa using this
theorem Ow.ok.purse {o : Ow} {v : View} (h : o.ok v) : ∃ b off p c e f, o.ap = some ⟨b, off, none⟩ ∧ v b = some (p, .cells c e f) ∧ ∀ j, j < o.n → c[off + j]? = some (.slice none 0 0) := by
  obtain ⟨b, off, p, c, e, f, h1, h2, h3⟩ := RowAt.get (f := fun _ : Unit => Value.slice none 0 0) (xs := List.replicate o.n ()) (by rw [List.map_replicate]; exact h.p) (i := 0) (by have := h.n.1; simp; omega)
  refine ⟨b, off, p, c, e, f, h1, h2, fun j hj => ?_⟩
  exact h3 j (by simpa using hj)
abbrev netC (l : List Int) : Array Value := List.toArray [intV (gat l 0), intV (gat l 1), intV (gat l 2), intV (gat l 3), intV (gat l 4)]
abbrev netV (l : List Int) : Value := .agg (netC l)
theorem netC_get (l : List Int) {j : Nat} (hj : j < 5) : (netC l)[0 + j * 1]? = some (intV (gat l j)) := by
  rcases (by omega : j = 0 ∨ j = 1 ∨ j = 2 ∨ j = 3 ∨ j = 4) with rfl | rfl | rfl | rfl | rfl <;> rfl
theorem netC_write {l : List Int} (h : l.length = 5) {i : Nat} (hi : i < 5) (y : Int) : writeB (netC l) (0 + i * 1) (intV y).cells.toList = netC (l.set i y) := by
  match l, h with
  | [a, b, c, d, e], _ => rcases (by omega : i = 0 ∨ i = 1 ∨ i = 2 ∨ i = 3 ∨ i = 4) with rfl | rfl | rfl | rfl | rfl <;> rfl
def netStep (l : List Int) (d : Dt) : List Int := addAt (addAt l d.t d.m) d.f (-d.m)
def netsOf (ds : List Dt) : List Int := ds.foldl netStep (List.replicate 5 0)
theorem netStep_len (l : List Int) (d : Dt) : (netStep l d).length = l.length := by simp [netStep, addAt_len]
theorem netsOf_take {ds : List Dt} {i : Nat} (hi : i < ds.length) : netsOf (ds.take (i + 1)) = netStep (netsOf (ds.take i)) ds[i] := by
  unfold netsOf
  rw [List.take_succ_eq_append_getElem hi, List.foldl_append]; rfl
theorem netsOf_len (ds : List Dt) : (netsOf ds).length = 5 := by
  unfold netsOf
  have : ∀ (ds : List Dt) (l : List Int), (ds.foldl netStep l).length = l.length := by
    intro ds
    induction ds with
    | nil => intro l; rfl
    | cons d ds ih => intro l; rw [List.foldl_cons, ih, netStep_len]
  rw [this]; rfl
def Sm (B : Int) (l : List Int) : Prop := ∀ j, -B ≤ gat l j ∧ gat l j ≤ B
theorem Sm.add {B C x : Int} {l : List Int} {i : Nat} (h : Sm B l) (hi : i < l.length) (hx : -C ≤ x ∧ x ≤ C) : Sm (B + C) (addAt l i x) := fun j => by
  rw [gat_addAt hi]
  have h1 := h i
  have h2 := h j
  split <;> omega
theorem Sm.step {B : Int} {l : List Int} {d : Dt} {n : Nat} (h : Sm B l) (hl : l.length = 5) (hd : d.ok n) (hn : n ≤ 4) : Sm (B + 18) (netStep l d) := by
  have h1 := hd.f
  have h2 := hd.t
  have h3 := hd.m
  have := (h.add (C := 9) (x := d.m) (i := d.t) (by omega) (by omega)).add (C := 9) (x := -d.m) (i := d.f) (by rw [addAt_len]; omega) (by omega)
  rw [show B + 9 + 9 = B + 18 by omega] at this
  exact this
section
variable {mn : Who} {v : View}
theorem within_x (n lo hi : Int) : Ret1 Try.prog mn 35 [intV n, intV lo, intV hi] (.bool (decide (lo ≤ n ∧ n ≤ hi))) v := by
  refine callsB_fn tab func35 rfl (Nat.le_of_ble_eq_true rfl) (args := [_, _, _]) ?_
  repeat' (first | refine cs ?_ | refine ss ?_ | (((with_reducible apply Q_box); (focus (exact rfl)); (focus (exact rfl)); (focus (exact rfl))); intro bx) | (((with_reducible apply Q_alloc tab); (focus (exact rfl)); (focus (exact rfl)); (focus (exact rfl))); intro bx) | refine S_do (by kernel_rfl) (A_storeN tab rfl rfl rfl rfl rfl rfl rfl (by ((repeat (first | exact InB.head | apply InB.tail | (with_reducible apply InB.app))); done)) (by exact rfl) (by ((repeat (first | exact SetB.head | apply SetB.tail | (with_reducible apply SetB.app))); done)) ⟨Le.refl _, (by (repeat (first | exact trivial | (apply And.intro; (focus (first | (apply Or.inr; (try dsimp only); ((repeat (first | exact InB.head | apply InB.tail | (with_reducible apply InB.app))); done)) | (apply Or.inl; kernel_rfl))))))), ?_⟩))
  refine Q_guard rfl rfl (fun h => ?_) (fun h => ?_)
  · repeat' (first | refine cs ?_ | refine ss ?_ | (((with_reducible apply Q_box); (focus (exact rfl)); (focus (exact rfl)); (focus (exact rfl))); intro bx) | (((with_reducible apply Q_alloc tab); (focus (exact rfl)); (focus (exact rfl)); (focus (exact rfl))); intro bx) | refine S_do (by kernel_rfl) (A_storeN tab rfl rfl rfl rfl rfl rfl rfl (by ((repeat (first | exact InB.head | apply InB.tail | (with_reducible apply InB.app))); done)) (by exact rfl) (by ((repeat (first | exact SetB.head | apply SetB.tail | (with_reducible apply SetB.app))); done)) ⟨Le.refl _, (by (repeat (first | exact trivial | (apply And.intro; (focus (first | (apply Or.inr; (try dsimp only); ((repeat (first | exact InB.head | apply InB.tail | (with_reducible apply InB.app))); done)) | (apply Or.inl; kernel_rfl))))))), ?_⟩))
    refine Fn_ret tab [] (by exact .tmp rfl .nil) (Back.here cntL) ?_
    refine ⟨?_, rfl⟩
    simp only [decide_eq_true_eq] at h
    simp [oneOf, h]
  · repeat' (first | refine cs ?_ | refine ss ?_ | (((with_reducible apply Q_box); (focus (exact rfl)); (focus (exact rfl)); (focus (exact rfl))); intro bx) | (((with_reducible apply Q_alloc tab); (focus (exact rfl)); (focus (exact rfl)); (focus (exact rfl))); intro bx) | refine S_do (by kernel_rfl) (A_storeN tab rfl rfl rfl rfl rfl rfl rfl (by ((repeat (first | exact InB.head | apply InB.tail | (with_reducible apply InB.app))); done)) (by exact rfl) (by ((repeat (first | exact SetB.head | apply SetB.tail | (with_reducible apply SetB.app))); done)) ⟨Le.refl _, (by (repeat (first | exact trivial | (apply And.intro; (focus (first | (apply Or.inr; (try dsimp only); ((repeat (first | exact InB.head | apply InB.tail | (with_reducible apply InB.app))); done)) | (apply Or.inl; kernel_rfl))))))), ?_⟩))
    refine Fn_ret tab [] (by exact .tmp rfl .nil) (Back.here cntL) ?_
    refine ⟨?_, rfl⟩
    simp only [decide_eq_false_iff_not] at h
    simp [oneOf, h]
theorem checkDebt_x {d : Dt} {n : Nat} (hd : d.ok n) (hn : n ≤ 4) : Ret1 Try.prog mn 41 [d.val, natV n, intV 9] (intV 0) v := by
  obtain ⟨f, t, m⟩ := d
  obtain ⟨h1, h2, h3, h4⟩ := hd
  simp only at h1 h2 h3 h4
  refine callsB_fn tab func41 rfl (Nat.le_of_ble_eq_true rfl) (args := [.agg (List.toArray [natV f, natV t, intV m]), natV n, intV 9]) ?_
  repeat' (first | refine cs ?_ | refine ss ?_ | (((with_reducible apply Q_box); (focus (exact rfl)); (focus (exact rfl)); (focus (exact rfl))); intro bx) | (((with_reducible apply Q_alloc tab); (focus (exact rfl)); (focus (exact rfl)); (focus (exact rfl))); intro bx) | refine S_do (by kernel_rfl) (A_storeN tab rfl rfl rfl rfl rfl rfl rfl (by ((repeat (first | exact InB.head | apply InB.tail | (with_reducible apply InB.app))); done)) (by exact rfl) (by ((repeat (first | exact SetB.head | apply SetB.tail | (with_reducible apply SetB.app))); done)) ⟨Le.refl _, (by (repeat (first | exact trivial | (apply And.intro; (focus (first | (apply Or.inr; (try dsimp only); ((repeat (first | exact InB.head | apply InB.tail | (with_reducible apply InB.app))); done)) | (apply Or.inl; kernel_rfl))))))), ?_⟩))
  refine Q_op fun ho => A_ret1 ho bod35 rfl rfl rfl rfl rfl (within_x f 0 (n - 1)) ?_
  clear ho
  rw [show decide ((0 : Int) ≤ f ∧ (f : Int) ≤ n - 1) = true from decide_eq_true (by omega)]
  repeat' (first | refine cs ?_ | refine ss ?_ | (((with_reducible apply Q_box); (focus (exact rfl)); (focus (exact rfl)); (focus (exact rfl))); intro bx) | (((with_reducible apply Q_alloc tab); (focus (exact rfl)); (focus (exact rfl)); (focus (exact rfl))); intro bx) | refine S_do (by kernel_rfl) (A_storeN tab rfl rfl rfl rfl rfl rfl rfl (by ((repeat (first | exact InB.head | apply InB.tail | (with_reducible apply InB.app))); done)) (by exact rfl) (by ((repeat (first | exact SetB.head | apply SetB.tail | (with_reducible apply SetB.app))); done)) ⟨Le.refl _, (by (repeat (first | exact trivial | (apply And.intro; (focus (first | (apply Or.inr; (try dsimp only); ((repeat (first | exact InB.head | apply InB.tail | (with_reducible apply InB.app))); done)) | (apply Or.inl; kernel_rfl))))))), ?_⟩))
  refine Q_op fun ho => A_ret1 ho bod35 rfl rfl rfl rfl rfl (within_x t 0 (n - 1)) ?_
  clear ho
  rw [show decide ((0 : Int) ≤ t ∧ (t : Int) ≤ n - 1) = true from decide_eq_true (by omega)]
  repeat' (first | refine cs ?_ | refine ss ?_ | (((with_reducible apply Q_box); (focus (exact rfl)); (focus (exact rfl)); (focus (exact rfl))); intro bx) | (((with_reducible apply Q_alloc tab); (focus (exact rfl)); (focus (exact rfl)); (focus (exact rfl))); intro bx) | refine S_do (by kernel_rfl) (A_storeN tab rfl rfl rfl rfl rfl rfl rfl (by ((repeat (first | exact InB.head | apply InB.tail | (with_reducible apply InB.app))); done)) (by exact rfl) (by ((repeat (first | exact SetB.head | apply SetB.tail | (with_reducible apply SetB.app))); done)) ⟨Le.refl _, (by (repeat (first | exact trivial | (apply And.intro; (focus (first | (apply Or.inr; (try dsimp only); ((repeat (first | exact InB.head | apply InB.tail | (with_reducible apply InB.app))); done)) | (apply Or.inl; kernel_rfl))))))), ?_⟩))
  rw [show ((f : Int) == t) = false from beq_eq_false_iff_ne.2 (by omega)]
  repeat' (first | refine cs ?_ | refine ss ?_ | (((with_reducible apply Q_box); (focus (exact rfl)); (focus (exact rfl)); (focus (exact rfl))); intro bx) | (((with_reducible apply Q_alloc tab); (focus (exact rfl)); (focus (exact rfl)); (focus (exact rfl))); intro bx) | refine S_do (by kernel_rfl) (A_storeN tab rfl rfl rfl rfl rfl rfl rfl (by ((repeat (first | exact InB.head | apply InB.tail | (with_reducible apply InB.app))); done)) (by exact rfl) (by ((repeat (first | exact SetB.head | apply SetB.tail | (with_reducible apply SetB.app))); done)) ⟨Le.refl _, (by (repeat (first | exact trivial | (apply And.intro; (focus (first | (apply Or.inr; (try dsimp only); ((repeat (first | exact InB.head | apply InB.tail | (with_reducible apply InB.app))); done)) | (apply Or.inl; kernel_rfl))))))), ?_⟩))
  refine Q_op fun ho => A_ret1 ho bod35 rfl rfl rfl rfl rfl (within_x m 1 9) ?_
  clear ho
  rw [show decide ((1 : Int) ≤ m ∧ m ≤ 9) = true from decide_eq_true h4]
  repeat' (first | refine cs ?_ | refine ss ?_ | (((with_reducible apply Q_box); (focus (exact rfl)); (focus (exact rfl)); (focus (exact rfl))); intro bx) | (((with_reducible apply Q_alloc tab); (focus (exact rfl)); (focus (exact rfl)); (focus (exact rfl))); intro bx) | refine S_do (by kernel_rfl) (A_storeN tab rfl rfl rfl rfl rfl rfl rfl (by ((repeat (first | exact InB.head | apply InB.tail | (with_reducible apply InB.app))); done)) (by exact rfl) (by ((repeat (first | exact SetB.head | apply SetB.tail | (with_reducible apply SetB.app))); done)) ⟨Le.refl _, (by (repeat (first | exact trivial | (apply And.intro; (focus (first | (apply Or.inr; (try dsimp only); ((repeat (first | exact InB.head | apply InB.tail | (with_reducible apply InB.app))); done)) | (apply Or.inl; kernel_rfl))))))), ?_⟩))
  refine Fn_ret tab [] (by exact .tmp rfl .nil) (Back.here cntL) ?_
  exact ⟨rfl, rfl⟩
end
end Go.Proofs.Ytbbaionoibkohaa
end
section
namespace Go.Proofs.Ytbbaionoibkohaa
open Go Go.Pal Go.Pal.Db Go.Conc View
open Go.Proofs.Try
set_option maxHeartbeats 4000000
section
variable {mn : Who} {v : View}
theorem checkO_x {o : Ow} (ho : o.ok v) : Ret1 Try.prog mn 34 [o.val] (intV 0) v := by
  have hn := ho.n
  have hlen := ho.len
  have hall := ho.all
  have hget := fun {i : Nat} (hi : i < o.ds.length) => ho.get hi
  obtain ⟨b0, off0, p0, c0, e0, f0, hap, hv0, hc0⟩ := ho.purse
  clear ho
  obtain ⟨n, ap, cp, ds, ad, cd⟩ := o
  simp only at hn hlen hall hget hap hv0 hc0
  subst hap
  refine callsB_fn tab func34 rfl (Nat.le_of_ble_eq_true rfl) (args := [.agg (List.toArray [.slice (some ⟨b0, off0, none⟩) n cp, .slice ad ds.length cd])]) ?_
  repeat' (first | refine cs ?_ | refine ss ?_ | (((with_reducible apply Q_box); (focus (exact rfl)); (focus (exact rfl)); (focus (exact rfl))); intro bx) | (((with_reducible apply Q_alloc tab); (focus (exact rfl)); (focus (exact rfl)); (focus (exact rfl))); intro bx) | refine S_do (by kernel_rfl) (A_storeN tab rfl rfl rfl rfl rfl rfl rfl (by ((repeat (first | exact InB.head | apply InB.tail | (with_reducible apply InB.app))); done)) (by exact rfl) (by ((repeat (first | exact SetB.head | apply SetB.tail | (with_reducible apply SetB.app))); done)) ⟨Le.refl _, (by (repeat (first | exact trivial | (apply And.intro; (focus (first | (apply Or.inr; (try dsimp only); ((repeat (first | exact InB.head | apply InB.tail | (with_reducible apply InB.app))); done)) | (apply Or.inl; kernel_rfl))))))), ?_⟩))
  rw [show decide ((n : Int) < 2) = false from decide_eq_false (by omega)]
  repeat' (first | refine cs ?_ | refine ss ?_ | (((with_reducible apply Q_box); (focus (exact rfl)); (focus (exact rfl)); (focus (exact rfl))); intro bx) | (((with_reducible apply Q_alloc tab); (focus (exact rfl)); (focus (exact rfl)); (focus (exact rfl))); intro bx) | refine S_do (by kernel_rfl) (A_storeN tab rfl rfl rfl rfl rfl rfl rfl (by ((repeat (first | exact InB.head | apply InB.tail | (with_reducible apply InB.app))); done)) (by exact rfl) (by ((repeat (first | exact SetB.head | apply SetB.tail | (with_reducible apply SetB.app))); done)) ⟨Le.refl _, (by (repeat (first | exact trivial | (apply And.intro; (focus (first | (apply Or.inr; (try dsimp only); ((repeat (first | exact InB.head | apply InB.tail | (with_reducible apply InB.app))); done)) | (apply Or.inl; kernel_rfl))))))), ?_⟩))
  rw [show decide ((n : Int) > 5) = false from decide_eq_false (by omega)]
  repeat' (first | refine cr ?_ | refine ss ?_ | (((with_reducible apply Q_box); (focus (exact rfl)); (focus (exact rfl)); (focus (exact rfl))); intro bx) | (((with_reducible apply Q_alloc tab); (focus (exact rfl)); (focus (exact rfl)); (focus (exact rfl))); intro bx) | refine S_do (by kernel_rfl) (A_storeN tab rfl rfl rfl rfl rfl rfl rfl (by ((repeat (first | exact InB.head | apply InB.tail | (with_reducible apply InB.app))); done)) (by exact rfl) (by ((repeat (first | exact SetB.head | apply SetB.tail | (with_reducible apply SetB.app))); done)) ⟨Le.refl _, (by (repeat (first | exact trivial | (apply And.intro; (focus (first | (apply Or.inr; (try dsimp only); ((repeat (first | exact InB.head | apply InB.tail | (with_reducible apply InB.app))); done)) | (apply Or.inl; kernel_rfl))))))), ?_⟩))
  refine C_cut (fun σ u => u = v ∧ σ = ⟨[], [(1, .pointer (some ⟨bx, 0, none⟩))], [(bx, #[.slice (some ⟨b0, off0, none⟩) n cp, .slice ad ds.length cd], 38)]⟩) ?_ ?_
  · rintro σ u ⟨rfl, rfl⟩
    repeat' (first | refine cs ?_ | refine ss ?_ | (((with_reducible apply Q_box); (focus (exact rfl)); (focus (exact rfl)); (focus (exact rfl))); intro bx) | (((with_reducible apply Q_alloc tab); (focus (exact rfl)); (focus (exact rfl)); (focus (exact rfl))); intro bx) | refine S_do (by kernel_rfl) (A_storeN tab rfl rfl rfl rfl rfl rfl rfl (by ((repeat (first | exact InB.head | apply InB.tail | (with_reducible apply InB.app))); done)) (by exact rfl) (by ((repeat (first | exact SetB.head | apply SetB.tail | (with_reducible apply SetB.app))); done)) ⟨Le.refl _, (by (repeat (first | exact trivial | (apply And.intro; (focus (first | (apply Or.inr; (try dsimp only); ((repeat (first | exact InB.head | apply InB.tail | (with_reducible apply InB.app))); done)) | (apply Or.inl; kernel_rfl))))))), ?_⟩))
    rw [show decide ((ds.length : Int) > 8) = false from decide_eq_false (by omega)]
    repeat' (first | refine cs ?_ | refine ss ?_ | (((with_reducible apply Q_box); (focus (exact rfl)); (focus (exact rfl)); (focus (exact rfl))); intro bx) | (((with_reducible apply Q_alloc tab); (focus (exact rfl)); (focus (exact rfl)); (focus (exact rfl))); intro bx) | refine S_do (by kernel_rfl) (A_storeN tab rfl rfl rfl rfl rfl rfl rfl (by ((repeat (first | exact InB.head | apply InB.tail | (with_reducible apply InB.app))); done)) (by exact rfl) (by ((repeat (first | exact SetB.head | apply SetB.tail | (with_reducible apply SetB.app))); done)) ⟨Le.refl _, (by (repeat (first | exact trivial | (apply And.intro; (focus (first | (apply Or.inr; (try dsimp only); ((repeat (first | exact InB.head | apply InB.tail | (with_reducible apply InB.app))); done)) | (apply Or.inl; kernel_rfl))))))), ?_⟩))
    refine C_loop (α := Nat) (fun i => ⟨[], [(48, .int .i64 i), (47, .int .i64 ds.length), (46, .slice ad ds.length cd), (1, .pointer (some ⟨bx, 0, none⟩))], [(bx, #[.slice (some ⟨b0, off0, none⟩) n cp, .slice ad ds.length cd], 38)]⟩)
      (fun i u' => u' = u ∧ i ≤ ds.length) (fun i => ds.length - i) 0 ⟨rfl, (by (repeat (first | exact trivial | refine ⟨rfl, ?_⟩))), cntL⟩ (Le.refl _) ⟨rfl, Nat.zero_le _⟩ ?_
    rintro i u' ⟨rfl, hi⟩
    repeat' (first | refine cs ?_ | refine ss ?_ | (((with_reducible apply Q_box); (focus (exact rfl)); (focus (exact rfl)); (focus (exact rfl))); intro bx) | (((with_reducible apply Q_alloc tab); (focus (exact rfl)); (focus (exact rfl)); (focus (exact rfl))); intro bx) | refine S_do (by kernel_rfl) (A_storeN tab rfl rfl rfl rfl rfl rfl rfl (by ((repeat (first | exact InB.head | apply InB.tail | (with_reducible apply InB.app))); done)) (by exact rfl) (by ((repeat (first | exact SetB.head | apply SetB.tail | (with_reducible apply SetB.app))); done)) ⟨Le.refl _, (by (repeat (first | exact trivial | (apply And.intro; (focus (first | (apply Or.inr; (try dsimp only); ((repeat (first | exact InB.head | apply InB.tail | (with_reducible apply InB.app))); done)) | (apply Or.inl; kernel_rfl))))))), ?_⟩))
    refine XC_cond rfl (fun h => ?_) (fun h => ?_)
    · (simp only [decide_eq_true_eq, decide_eq_false_iff_not, beq_iff_eq, bne_iff_ne, Bool.not_eq_true', beq_eq_false_iff_ne, bne_eq_false_iff_eq, ne_eq] at h)
      have hlt : i < ds.length := by omega
      clear h
      obtain ⟨b1, off1, p1, c1, e1, f1, rfl, hv1, hc1⟩ := hget hlt
      repeat' (first | refine cs ?_ | refine ss ?_ | (((with_reducible apply Q_box); (focus (exact rfl)); (focus (exact rfl)); (focus (exact rfl))); intro bx) | (((with_reducible apply Q_alloc tab); (focus (exact rfl)); (focus (exact rfl)); (focus (exact rfl))); intro bx) | refine S_do (by kernel_rfl) (A_storeN tab rfl rfl rfl rfl rfl rfl rfl (by ((repeat (first | exact InB.head | apply InB.tail | (with_reducible apply InB.app))); done)) (by exact rfl) (by ((repeat (first | exact SetB.head | apply SetB.tail | (with_reducible apply SetB.app))); done)) ⟨Le.refl _, (by (repeat (first | exact trivial | (apply And.intro; (focus (first | (apply Or.inr; (try dsimp only); ((repeat (first | exact InB.head | apply InB.tail | (with_reducible apply InB.app))); done)) | (apply Or.inl; kernel_rfl))))))), ?_⟩))
      refine Q_elem tab i rfl rfl rfl rfl rfl rfl rfl hlt ?_
      refine Q_load tab rfl rfl rfl hv1 (readB_rec tab (x := ds[i].cells) rfl rfl rfl (hc1 _ hlt)) ?_
      repeat' (first | refine cs ?_ | refine ss ?_ | (((with_reducible apply Q_box); (focus (exact rfl)); (focus (exact rfl)); (focus (exact rfl))); intro bx) | (((with_reducible apply Q_alloc tab); (focus (exact rfl)); (focus (exact rfl)); (focus (exact rfl))); intro bx) | refine S_do (by kernel_rfl) (A_storeN tab rfl rfl rfl rfl rfl rfl rfl (by ((repeat (first | exact InB.head | apply InB.tail | (with_reducible apply InB.app))); done)) (by exact rfl) (by ((repeat (first | exact SetB.head | apply SetB.tail | (with_reducible apply SetB.app))); done)) ⟨Le.refl _, (by (repeat (first | exact trivial | (apply And.intro; (focus (first | (apply Or.inr; (try dsimp only); ((repeat (first | exact InB.head | apply InB.tail | (with_reducible apply InB.app))); done)) | (apply Or.inl; kernel_rfl))))))), ?_⟩))
      refine Q_op fun ho' => A_ret1 ho' bod41 rfl rfl rfl rfl rfl (checkDebt_x (hall _ (List.getElem_mem hlt)) hn.2) ?_
      clear ho'
      repeat' (first | refine cs ?_ | refine ss ?_ | (((with_reducible apply Q_box); (focus (exact rfl)); (focus (exact rfl)); (focus (exact rfl))); intro bx) | (((with_reducible apply Q_alloc tab); (focus (exact rfl)); (focus (exact rfl)); (focus (exact rfl))); intro bx) | refine S_do (by kernel_rfl) (A_storeN tab rfl rfl rfl rfl rfl rfl rfl (by ((repeat (first | exact InB.head | apply InB.tail | (with_reducible apply InB.app))); done)) (by exact rfl) (by ((repeat (first | exact SetB.head | apply SetB.tail | (with_reducible apply SetB.app))); done)) ⟨Le.refl _, (by (repeat (first | exact trivial | (apply And.intro; (focus (first | (apply Or.inr; (try dsimp only); ((repeat (first | exact InB.head | apply InB.tail | (with_reducible apply InB.app))); done)) | (apply Or.inl; kernel_rfl))))))), ?_⟩))
      exact Loop_normal ⟨i + 1, u', by omega, ⟨rfl, (by (repeat (first | exact trivial | refine ⟨rfl, ?_⟩))), cntL⟩, Le.refl _, rfl, hlt⟩
    · repeat' (first | refine cs ?_ | refine ss ?_ | (((with_reducible apply Q_box); (focus (exact rfl)); (focus (exact rfl)); (focus (exact rfl))); intro bx) | (((with_reducible apply Q_alloc tab); (focus (exact rfl)); (focus (exact rfl)); (focus (exact rfl))); intro bx) | refine S_do (by kernel_rfl) (A_storeN tab rfl rfl rfl rfl rfl rfl rfl (by ((repeat (first | exact InB.head | apply InB.tail | (with_reducible apply InB.app))); done)) (by exact rfl) (by ((repeat (first | exact SetB.head | apply SetB.tail | (with_reducible apply SetB.app))); done)) ⟨Le.refl _, (by (repeat (first | exact trivial | (apply And.intro; (focus (first | (apply Or.inr; (try dsimp only); ((repeat (first | exact InB.head | apply InB.tail | (with_reducible apply InB.app))); done)) | (apply Or.inl; kernel_rfl))))))), ?_⟩))
      refine Fn_ret tab [] (by exact .tmp rfl .nil) (Back.here cntL) ?_
      exact ⟨rfl, rfl⟩
  · repeat' (first | refine cs ?_ | refine ss ?_ | (((with_reducible apply Q_box); (focus (exact rfl)); (focus (exact rfl)); (focus (exact rfl))); intro bx) | (((with_reducible apply Q_alloc tab); (focus (exact rfl)); (focus (exact rfl)); (focus (exact rfl))); intro bx) | refine S_do (by kernel_rfl) (A_storeN tab rfl rfl rfl rfl rfl rfl rfl (by ((repeat (first | exact InB.head | apply InB.tail | (with_reducible apply InB.app))); done)) (by exact rfl) (by ((repeat (first | exact SetB.head | apply SetB.tail | (with_reducible apply SetB.app))); done)) ⟨Le.refl _, (by (repeat (first | exact trivial | (apply And.intro; (focus (first | (apply Or.inr; (try dsimp only); ((repeat (first | exact InB.head | apply InB.tail | (with_reducible apply InB.app))); done)) | (apply Or.inl; kernel_rfl))))))), ?_⟩))
    refine C_loop (α := Nat) (fun i => ⟨[], [(23, .int .i64 i), (22, .int .i64 n), (21, .slice (some ⟨b0, off0, none⟩) n cp), (1, .pointer (some ⟨bx, 0, none⟩))], [(bx, #[.slice (some ⟨b0, off0, none⟩) n cp, .slice ad ds.length cd], 38)]⟩)
      (fun i u' => u' = v ∧ i ≤ n) (fun i => n - i) 0 ⟨rfl, (by (repeat (first | exact trivial | refine ⟨rfl, ?_⟩))), cntL⟩ (Le.refl _) ⟨rfl, Nat.zero_le _⟩ ?_
    rintro i u' ⟨rfl, hi⟩
    repeat' (first | refine cs ?_ | refine ss ?_ | (((with_reducible apply Q_box); (focus (exact rfl)); (focus (exact rfl)); (focus (exact rfl))); intro bx) | (((with_reducible apply Q_alloc tab); (focus (exact rfl)); (focus (exact rfl)); (focus (exact rfl))); intro bx) | refine S_do (by kernel_rfl) (A_storeN tab rfl rfl rfl rfl rfl rfl rfl (by ((repeat (first | exact InB.head | apply InB.tail | (with_reducible apply InB.app))); done)) (by exact rfl) (by ((repeat (first | exact SetB.head | apply SetB.tail | (with_reducible apply SetB.app))); done)) ⟨Le.refl _, (by (repeat (first | exact trivial | (apply And.intro; (focus (first | (apply Or.inr; (try dsimp only); ((repeat (first | exact InB.head | apply InB.tail | (with_reducible apply InB.app))); done)) | (apply Or.inl; kernel_rfl))))))), ?_⟩))
    refine XC_cond rfl (fun h => ?_) (fun h => ?_)
    · (simp only [decide_eq_true_eq, decide_eq_false_iff_not, beq_iff_eq, bne_iff_ne, Bool.not_eq_true', beq_eq_false_iff_ne, bne_eq_false_iff_eq, ne_eq] at h)
      have hlt : i < n := by omega
      clear h
      repeat' (first | refine cs ?_ | refine ss ?_ | (((with_reducible apply Q_box); (focus (exact rfl)); (focus (exact rfl)); (focus (exact rfl))); intro bx) | (((with_reducible apply Q_alloc tab); (focus (exact rfl)); (focus (exact rfl)); (focus (exact rfl))); intro bx) | refine S_do (by kernel_rfl) (A_storeN tab rfl rfl rfl rfl rfl rfl rfl (by ((repeat (first | exact InB.head | apply InB.tail | (with_reducible apply InB.app))); done)) (by exact rfl) (by ((repeat (first | exact SetB.head | apply SetB.tail | (with_reducible apply SetB.app))); done)) ⟨Le.refl _, (by (repeat (first | exact trivial | (apply And.intro; (focus (first | (apply Or.inr; (try dsimp only); ((repeat (first | exact InB.head | apply InB.tail | (with_reducible apply InB.app))); done)) | (apply Or.inl; kernel_rfl))))))), ?_⟩))
      refine Q_elem tab i rfl rfl rfl rfl rfl rfl rfl hlt ?_
      refine Q_load tab rfl rfl rfl hv0 (readB_one tab rfl rfl rfl (by rw [Nat.mul_one]; exact hc0 _ hlt)) ?_
      repeat' (first | refine cs ?_ | refine ss ?_ | (((with_reducible apply Q_box); (focus (exact rfl)); (focus (exact rfl)); (focus (exact rfl))); intro bx) | (((with_reducible apply Q_alloc tab); (focus (exact rfl)); (focus (exact rfl)); (focus (exact rfl))); intro bx) | refine S_do (by kernel_rfl) (A_storeN tab rfl rfl rfl rfl rfl rfl rfl (by ((repeat (first | exact InB.head | apply InB.tail | (with_reducible apply InB.app))); done)) (by exact rfl) (by ((repeat (first | exact SetB.head | apply SetB.tail | (with_reducible apply SetB.app))); done)) ⟨Le.refl _, (by (repeat (first | exact trivial | (apply And.intro; (focus (first | (apply Or.inr; (try dsimp only); ((repeat (first | exact InB.head | apply InB.tail | (with_reducible apply InB.app))); done)) | (apply Or.inl; kernel_rfl))))))), ?_⟩))
      refine C_loop (α := Unit) (fun _ => ⟨[], [(32, .int .i64 0), (31, .int .i64 0), (23, .int .i64 i), (22, .int .i64 n), (21, .slice (some ⟨b0, off0, none⟩) n cp), (1, .pointer (some ⟨bx, 0, none⟩))], [(bx, #[.slice (some ⟨b0, off0, none⟩) n cp, .slice ad ds.length cd], 38)]⟩)
        (fun _ w => w = u') (fun _ => 0) () ⟨rfl, (by (repeat (first | exact trivial | refine ⟨rfl, ?_⟩))), cntL⟩ (Le.refl _) rfl ?_
      rintro _ w rfl
      repeat' (first | refine cs ?_ | refine ss ?_ | (((with_reducible apply Q_box); (focus (exact rfl)); (focus (exact rfl)); (focus (exact rfl))); intro bx) | (((with_reducible apply Q_alloc tab); (focus (exact rfl)); (focus (exact rfl)); (focus (exact rfl))); intro bx) | refine S_do (by kernel_rfl) (A_storeN tab rfl rfl rfl rfl rfl rfl rfl (by ((repeat (first | exact InB.head | apply InB.tail | (with_reducible apply InB.app))); done)) (by exact rfl) (by ((repeat (first | exact SetB.head | apply SetB.tail | (with_reducible apply SetB.app))); done)) ⟨Le.refl _, (by (repeat (first | exact trivial | (apply And.intro; (focus (first | (apply Or.inr; (try dsimp only); ((repeat (first | exact InB.head | apply InB.tail | (with_reducible apply InB.app))); done)) | (apply Or.inl; kernel_rfl))))))), ?_⟩))
      exact Loop_normal ⟨i + 1, w, by omega, ⟨rfl, (by (repeat (first | exact trivial | refine ⟨rfl, ?_⟩))), cntL⟩, Le.refl _, rfl, hlt⟩
    · repeat' (first | refine cs ?_ | refine ss ?_ | (((with_reducible apply Q_box); (focus (exact rfl)); (focus (exact rfl)); (focus (exact rfl))); intro bx) | (((with_reducible apply Q_alloc tab); (focus (exact rfl)); (focus (exact rfl)); (focus (exact rfl))); intro bx) | refine S_do (by kernel_rfl) (A_storeN tab rfl rfl rfl rfl rfl rfl rfl (by ((repeat (first | exact InB.head | apply InB.tail | (with_reducible apply InB.app))); done)) (by exact rfl) (by ((repeat (first | exact SetB.head | apply SetB.tail | (with_reducible apply SetB.app))); done)) ⟨Le.refl _, (by (repeat (first | exact trivial | (apply And.intro; (focus (first | (apply Or.inr; (try dsimp only); ((repeat (first | exact InB.head | apply InB.tail | (with_reducible apply InB.app))); done)) | (apply Or.inl; kernel_rfl))))))), ?_⟩))
      exact Loop_normal ⟨_, _, ⟨rfl, rfl⟩, ⟨rfl, (by (repeat (first | exact trivial | refine ⟨rfl, ?_⟩))), cntL⟩, Le.refl _⟩
theorem openO_x {o : Ow} (ho : o.ok v) : Ret1 Try.prog mn 22 [o.val, .slice none 0 0] (.tuple #[o.val, intV 0]) v := by
  refine callsB_fn tab func22 rfl (Nat.le_of_ble_eq_true rfl) (args := [.agg (List.toArray [.slice o.ap o.n o.cp, .slice o.ad o.ds.length o.cd]), .slice none 0 0]) ?_
  repeat' (first | refine cs ?_ | refine ss ?_ | (((with_reducible apply Q_box); (focus (exact rfl)); (focus (exact rfl)); (focus (exact rfl))); intro bx) | (((with_reducible apply Q_alloc tab); (focus (exact rfl)); (focus (exact rfl)); (focus (exact rfl))); intro bx) | refine S_do (by kernel_rfl) (A_storeN tab rfl rfl rfl rfl rfl rfl rfl (by ((repeat (first | exact InB.head | apply InB.tail | (with_reducible apply InB.app))); done)) (by exact rfl) (by ((repeat (first | exact SetB.head | apply SetB.tail | (with_reducible apply SetB.app))); done)) ⟨Le.refl _, (by (repeat (first | exact trivial | (apply And.intro; (focus (first | (apply Or.inr; (try dsimp only); ((repeat (first | exact InB.head | apply InB.tail | (with_reducible apply InB.app))); done)) | (apply Or.inl; kernel_rfl))))))), ?_⟩))
  rename_i b2
  obtain ⟨b4, rfl⟩ : ∃ b : Nat, b = bx := ⟨bx, rfl⟩
  refine Q_op fun ho' => A_ret1 ho' bod34 rfl rfl rfl rfl rfl (checkO_x ho) ?_
  clear ho'
  repeat' (first | refine cs ?_ | refine ss ?_ | (((with_reducible apply Q_box); (focus (exact rfl)); (focus (exact rfl)); (focus (exact rfl))); intro bx) | (((with_reducible apply Q_alloc tab); (focus (exact rfl)); (focus (exact rfl)); (focus (exact rfl))); intro bx) | refine S_do (by kernel_rfl) (A_storeN tab rfl rfl rfl rfl rfl rfl rfl (by ((repeat (first | exact InB.head | apply InB.tail | (with_reducible apply InB.app))); done)) (by exact rfl) (by ((repeat (first | exact SetB.head | apply SetB.tail | (with_reducible apply SetB.app))); done)) ⟨Le.refl _, (by (repeat (first | exact trivial | (apply And.intro; (focus (first | (apply Or.inr; (try dsimp only); ((repeat (first | exact InB.head | apply InB.tail | (with_reducible apply InB.app))); done)) | (apply Or.inl; kernel_rfl))))))), ?_⟩))
  refine C_loop (α := Unit) (fun _ => ⟨[], [(17, .int .i64 0), (16, .int .i64 0), (4, .pointer (some ⟨b4, 0, none⟩)), (2, .pointer (some ⟨b2, 0, none⟩)), (1, .slice none 0 0)], [(b4, (Value.agg (List.toArray [.slice none 0 0, .slice none 0 0])).cells, 73), (b2, (Value.agg (List.toArray [.slice o.ap o.n o.cp, .slice o.ad o.ds.length o.cd])).cells, 38)]⟩)
    (fun _ w => w = v) (fun _ => 0) () ⟨rfl, (by (repeat (first | exact trivial | refine ⟨rfl, ?_⟩))), cntL⟩ (Le.refl _) rfl ?_
  rintro _ w rfl
  repeat' (first | refine cs ?_ | refine ss ?_ | (((with_reducible apply Q_box); (focus (exact rfl)); (focus (exact rfl)); (focus (exact rfl))); intro bx) | (((with_reducible apply Q_alloc tab); (focus (exact rfl)); (focus (exact rfl)); (focus (exact rfl))); intro bx) | refine S_do (by kernel_rfl) (A_storeN tab rfl rfl rfl rfl rfl rfl rfl (by ((repeat (first | exact InB.head | apply InB.tail | (with_reducible apply InB.app))); done)) (by exact rfl) (by ((repeat (first | exact SetB.head | apply SetB.tail | (with_reducible apply SetB.app))); done)) ⟨Le.refl _, (by (repeat (first | exact trivial | (apply And.intro; (focus (first | (apply Or.inr; (try dsimp only); ((repeat (first | exact InB.head | apply InB.tail | (with_reducible apply InB.app))); done)) | (apply Or.inl; kernel_rfl))))))), ?_⟩))
  refine Fn_ret tab [] (xs := [o.val, intV 0]) (resL_cell tab rfl (by ((repeat (first | exact InB.head | apply InB.tail | (with_reducible apply InB.app))); done)) rfl (.tmp rfl .nil)) (Back.here cntL) ?_
  exact ⟨rfl, rfl⟩
theorem sum3_x {a b c : Int} {bb : Nat} {p : Bool} {cc : Array Value} {e : TypeId} {f : Nat × Nat} (hv : v bb = some (p, .cells cc e f)) (h0 : cc[0]? = some (intV a)) (h1 : cc[1]? = some (intV b)) (h2 : cc[2]? = some (intV c)) (ha : -1000 ≤ a ∧ a ≤ 1000) (hb : -1000 ≤ b ∧ b ≤ 1000) (hc : -1000 ≤ c ∧ c ≤ 1000) :
    Ret1 Try.prog mn 51 [.slice (some ⟨bb, 0, none⟩) 3 3] (intV (a + b + c)) v := by
  refine callsB_fn tab func51 rfl (Nat.le_of_ble_eq_true rfl) (args := [_]) ?_
  repeat' (first | refine cs ?_ | refine ss ?_ | (((with_reducible apply Q_box); (focus (exact rfl)); (focus (exact rfl)); (focus (exact rfl))); intro bx) | (((with_reducible apply Q_alloc tab); (focus (exact rfl)); (focus (exact rfl)); (focus (exact rfl))); intro bx) | refine S_do (by kernel_rfl) (A_storeN tab rfl rfl rfl rfl rfl rfl rfl (by ((repeat (first | exact InB.head | apply InB.tail | (with_reducible apply InB.app))); done)) (by exact rfl) (by ((repeat (first | exact SetB.head | apply SetB.tail | (with_reducible apply SetB.app))); done)) ⟨Le.refl _, (by (repeat (first | exact trivial | (apply And.intro; (focus (first | (apply Or.inr; (try dsimp only); ((repeat (first | exact InB.head | apply InB.tail | (with_reducible apply InB.app))); done)) | (apply Or.inl; kernel_rfl))))))), ?_⟩))
  refine C_loop (α := Nat) (fun i => ⟨[], [(8, .int .i64 i), (7, .int .i64 (3 : Nat)), (6, .slice (some ⟨bb, 0, none⟩) 3 3), (3, intV (if i = 0 then 0 else if i = 1 then a else if i = 2 then a + b else a + b + c))], []⟩)
    (fun i w => w = v ∧ i ≤ 3) (fun i => 3 - i) 0 ⟨rfl, (by (repeat (first | exact trivial | refine ⟨rfl, ?_⟩))), cntL⟩ (Le.refl _) ⟨rfl, Nat.zero_le _⟩ ?_
  rintro i w ⟨rfl, hi⟩
  repeat' (first | refine cs ?_ | refine ss ?_ | (((with_reducible apply Q_box); (focus (exact rfl)); (focus (exact rfl)); (focus (exact rfl))); intro bx) | (((with_reducible apply Q_alloc tab); (focus (exact rfl)); (focus (exact rfl)); (focus (exact rfl))); intro bx) | refine S_do (by kernel_rfl) (A_storeN tab rfl rfl rfl rfl rfl rfl rfl (by ((repeat (first | exact InB.head | apply InB.tail | (with_reducible apply InB.app))); done)) (by exact rfl) (by ((repeat (first | exact SetB.head | apply SetB.tail | (with_reducible apply SetB.app))); done)) ⟨Le.refl _, (by (repeat (first | exact trivial | (apply And.intro; (focus (first | (apply Or.inr; (try dsimp only); ((repeat (first | exact InB.head | apply InB.tail | (with_reducible apply InB.app))); done)) | (apply Or.inl; kernel_rfl))))))), ?_⟩))
  rcases (by omega : i = 0 ∨ i = 1 ∨ i = 2 ∨ i = 3) with rfl | rfl | rfl | rfl
  · repeat' (first | refine cs ?_ | refine ss ?_ | (((with_reducible apply Q_box); (focus (exact rfl)); (focus (exact rfl)); (focus (exact rfl))); intro bx) | (((with_reducible apply Q_alloc tab); (focus (exact rfl)); (focus (exact rfl)); (focus (exact rfl))); intro bx) | refine S_do (by kernel_rfl) (A_storeN tab rfl rfl rfl rfl rfl rfl rfl (by ((repeat (first | exact InB.head | apply InB.tail | (with_reducible apply InB.app))); done)) (by exact rfl) (by ((repeat (first | exact SetB.head | apply SetB.tail | (with_reducible apply SetB.app))); done)) ⟨Le.refl _, (by (repeat (first | exact trivial | (apply And.intro; (focus (first | (apply Or.inr; (try dsimp only); ((repeat (first | exact InB.head | apply InB.tail | (with_reducible apply InB.app))); done)) | (apply Or.inl; kernel_rfl))))))), ?_⟩))
    refine Q_elem tab 0 rfl rfl rfl rfl rfl rfl rfl (by decide) ?_
    refine Q_load tab rfl rfl rfl hv (readB_one tab rfl rfl rfl h0) ?_
    repeat' (first | refine cs ?_ | refine ss ?_ | (((with_reducible apply Q_box); (focus (exact rfl)); (focus (exact rfl)); (focus (exact rfl))); intro bx) | (((with_reducible apply Q_alloc tab); (focus (exact rfl)); (focus (exact rfl)); (focus (exact rfl))); intro bx) | refine S_do (by kernel_rfl) (A_storeN tab rfl rfl rfl rfl rfl rfl rfl (by ((repeat (first | exact InB.head | apply InB.tail | (with_reducible apply InB.app))); done)) (by exact rfl) (by ((repeat (first | exact SetB.head | apply SetB.tail | (with_reducible apply SetB.app))); done)) ⟨Le.refl _, (by (repeat (first | exact trivial | (apply And.intro; (focus (first | (apply Or.inr; (try dsimp only); ((repeat (first | exact InB.head | apply InB.tail | (with_reducible apply InB.app))); done)) | (apply Or.inl; kernel_rfl))))))), ?_⟩))
    refine Loop_normal ⟨1, w, by omega, ⟨rfl, ⟨rfl, rfl, rfl, ?_, trivial⟩, cntL⟩, Le.refl _, rfl, by omega⟩
    show some (intV (0 + a)) = some (intV a)
    rw [Int.zero_add]
  · repeat' (first | refine cs ?_ | refine ss ?_ | (((with_reducible apply Q_box); (focus (exact rfl)); (focus (exact rfl)); (focus (exact rfl))); intro bx) | (((with_reducible apply Q_alloc tab); (focus (exact rfl)); (focus (exact rfl)); (focus (exact rfl))); intro bx) | refine S_do (by kernel_rfl) (A_storeN tab rfl rfl rfl rfl rfl rfl rfl (by ((repeat (first | exact InB.head | apply InB.tail | (with_reducible apply InB.app))); done)) (by exact rfl) (by ((repeat (first | exact SetB.head | apply SetB.tail | (with_reducible apply SetB.app))); done)) ⟨Le.refl _, (by (repeat (first | exact trivial | (apply And.intro; (focus (first | (apply Or.inr; (try dsimp only); ((repeat (first | exact InB.head | apply InB.tail | (with_reducible apply InB.app))); done)) | (apply Or.inl; kernel_rfl))))))), ?_⟩))
    refine Q_elem tab 1 rfl rfl rfl rfl rfl rfl rfl (by decide) ?_
    refine Q_load tab rfl rfl rfl hv (readB_one tab rfl rfl rfl h1) ?_
    repeat' (first | refine cs ?_ | refine ss ?_ | (((with_reducible apply Q_box); (focus (exact rfl)); (focus (exact rfl)); (focus (exact rfl))); intro bx) | (((with_reducible apply Q_alloc tab); (focus (exact rfl)); (focus (exact rfl)); (focus (exact rfl))); intro bx) | refine S_do (by kernel_rfl) (A_storeN tab rfl rfl rfl rfl rfl rfl rfl (by ((repeat (first | exact InB.head | apply InB.tail | (with_reducible apply InB.app))); done)) (by exact rfl) (by ((repeat (first | exact SetB.head | apply SetB.tail | (with_reducible apply SetB.app))); done)) ⟨Le.refl _, (by (repeat (first | exact trivial | (apply And.intro; (focus (first | (apply Or.inr; (try dsimp only); ((repeat (first | exact InB.head | apply InB.tail | (with_reducible apply InB.app))); done)) | (apply Or.inl; kernel_rfl))))))), ?_⟩))
    refine Loop_normal ⟨2, w, by omega, ⟨rfl, ⟨rfl, rfl, rfl, rfl, trivial⟩, cntL⟩, Le.refl _, rfl, by omega⟩
  · repeat' (first | refine cs ?_ | refine ss ?_ | (((with_reducible apply Q_box); (focus (exact rfl)); (focus (exact rfl)); (focus (exact rfl))); intro bx) | (((with_reducible apply Q_alloc tab); (focus (exact rfl)); (focus (exact rfl)); (focus (exact rfl))); intro bx) | refine S_do (by kernel_rfl) (A_storeN tab rfl rfl rfl rfl rfl rfl rfl (by ((repeat (first | exact InB.head | apply InB.tail | (with_reducible apply InB.app))); done)) (by exact rfl) (by ((repeat (first | exact SetB.head | apply SetB.tail | (with_reducible apply SetB.app))); done)) ⟨Le.refl _, (by (repeat (first | exact trivial | (apply And.intro; (focus (first | (apply Or.inr; (try dsimp only); ((repeat (first | exact InB.head | apply InB.tail | (with_reducible apply InB.app))); done)) | (apply Or.inl; kernel_rfl))))))), ?_⟩))
    refine Q_elem tab 2 rfl rfl rfl rfl rfl rfl rfl (by decide) ?_
    refine Q_load tab rfl rfl rfl hv (readB_one tab rfl rfl rfl h2) ?_
    repeat' (first | refine cs ?_ | refine ss ?_ | (((with_reducible apply Q_box); (focus (exact rfl)); (focus (exact rfl)); (focus (exact rfl))); intro bx) | (((with_reducible apply Q_alloc tab); (focus (exact rfl)); (focus (exact rfl)); (focus (exact rfl))); intro bx) | refine S_do (by kernel_rfl) (A_storeN tab rfl rfl rfl rfl rfl rfl rfl (by ((repeat (first | exact InB.head | apply InB.tail | (with_reducible apply InB.app))); done)) (by exact rfl) (by ((repeat (first | exact SetB.head | apply SetB.tail | (with_reducible apply SetB.app))); done)) ⟨Le.refl _, (by (repeat (first | exact trivial | (apply And.intro; (focus (first | (apply Or.inr; (try dsimp only); ((repeat (first | exact InB.head | apply InB.tail | (with_reducible apply InB.app))); done)) | (apply Or.inl; kernel_rfl))))))), ?_⟩))
    refine Loop_normal ⟨3, w, by omega, ⟨rfl, ⟨rfl, rfl, rfl, rfl, trivial⟩, cntL⟩, Le.refl _, rfl, by omega⟩
  · repeat' (first | refine cs ?_ | refine ss ?_ | (((with_reducible apply Q_box); (focus (exact rfl)); (focus (exact rfl)); (focus (exact rfl))); intro bx) | (((with_reducible apply Q_alloc tab); (focus (exact rfl)); (focus (exact rfl)); (focus (exact rfl))); intro bx) | refine S_do (by kernel_rfl) (A_storeN tab rfl rfl rfl rfl rfl rfl rfl (by ((repeat (first | exact InB.head | apply InB.tail | (with_reducible apply InB.app))); done)) (by exact rfl) (by ((repeat (first | exact SetB.head | apply SetB.tail | (with_reducible apply SetB.app))); done)) ⟨Le.refl _, (by (repeat (first | exact trivial | (apply And.intro; (focus (first | (apply Or.inr; (try dsimp only); ((repeat (first | exact InB.head | apply InB.tail | (with_reducible apply InB.app))); done)) | (apply Or.inl; kernel_rfl))))))), ?_⟩))
    refine Fn_ret tab [] (by exact .tmp rfl .nil) (Back.here cntL) ?_
    exact ⟨rfl, rfl⟩
theorem nets_x {o : Ow} (ho : o.ok v) : Ret1 Try.prog mn 23 [o.val] (netV (netsOf o.ds)) v := by
  have hn := ho.n
  have hlen := ho.len
  have hall := ho.all
  have hget := fun {i : Nat} (hi : i < o.ds.length) => ho.get hi
  clear ho
  obtain ⟨n, ap, cp, ds, ad, cd⟩ := o
  simp only at hn hlen hall hget
  refine callsB_fn tab func23 rfl (Nat.le_of_ble_eq_true rfl) (args := [.agg (List.toArray [.slice ap n cp, .slice ad ds.length cd])]) ?_
  repeat' (first | refine cs ?_ | refine ss ?_ | (((with_reducible apply Q_box); (focus (exact rfl)); (focus (exact rfl)); (focus (exact rfl))); intro bx) | (((with_reducible apply Q_alloc tab); (focus (exact rfl)); (focus (exact rfl)); (focus (exact rfl))); intro bx) | refine S_do (by kernel_rfl) (A_storeN tab rfl rfl rfl rfl rfl rfl rfl (by ((repeat (first | exact InB.head | apply InB.tail | (with_reducible apply InB.app))); done)) (by exact rfl) (by ((repeat (first | exact SetB.head | apply SetB.tail | (with_reducible apply SetB.app))); done)) ⟨Le.refl _, (by (repeat (first | exact trivial | (apply And.intro; (focus (first | (apply Or.inr; (try dsimp only); ((repeat (first | exact InB.head | apply InB.tail | (with_reducible apply InB.app))); done)) | (apply Or.inl; kernel_rfl))))))), ?_⟩))
  rename_i b1 b2
  obtain ⟨b3, rfl⟩ : ∃ b : Nat, b = bx := ⟨bx, rfl⟩
  refine C_loop (α := Nat) (fun i => ⟨[], [(10, .int .i64 i), (9, .int .i64 ds.length), (8, .slice ad ds.length cd), (3, .pointer (some ⟨b3, 0, none⟩)), (2, .pointer (some ⟨b2, 0, none⟩))], [(b3, netC (netsOf (ds.take i)), 77), (b2, netC (List.replicate 5 0), 77)]⟩)
    (fun i w => w = v ∧ i ≤ ds.length ∧ Sm (18 * i) (netsOf (ds.take i))) (fun i => ds.length - i) 0 ⟨rfl, (by (repeat (first | exact trivial | refine ⟨rfl, ?_⟩))), (show Subm [(b3, (Value.agg (List.toArray [.int .i64 0, .int .i64 0, .int .i64 0, .int .i64 0, .int .i64 0])).cells, 77), (b2, (Value.agg (List.toArray [.int .i64 0, .int .i64 0, .int .i64 0, .int .i64 0, .int .i64 0])).cells, 77)] [(b3, (Value.agg (List.toArray [.int .i64 0, .int .i64 0, .int .i64 0, .int .i64 0, .int .i64 0])).cells, 77), (b2, (Value.agg (List.toArray [.int .i64 0, .int .i64 0, .int .i64 0, .int .i64 0, .int .i64 0])).cells, 77), (b1, (Value.agg (List.toArray [.slice ap n cp, .slice ad ds.length cd])).cells, 73)] from cntL)⟩ (Le.refl _) ⟨rfl, Nat.zero_le _, fun j => by
      have : gat (netsOf (ds.take 0)) j = 0 := by
        unfold gat; rw [List.take_zero]; show List.getD (List.replicate 5 (0 : Int)) j 0 = 0
        rw [List.getD_eq_getElem?_getD, List.getElem?_replicate]; split <;> rfl
      omega⟩ ?_
  rintro i w ⟨rfl, hi, hsm⟩
  repeat' (first | refine cs ?_ | refine ss ?_ | (((with_reducible apply Q_box); (focus (exact rfl)); (focus (exact rfl)); (focus (exact rfl))); intro bx) | (((with_reducible apply Q_alloc tab); (focus (exact rfl)); (focus (exact rfl)); (focus (exact rfl))); intro bx) | refine S_do (by kernel_rfl) (A_storeN tab rfl rfl rfl rfl rfl rfl rfl (by ((repeat (first | exact InB.head | apply InB.tail | (with_reducible apply InB.app))); done)) (by exact rfl) (by ((repeat (first | exact SetB.head | apply SetB.tail | (with_reducible apply SetB.app))); done)) ⟨Le.refl _, (by (repeat (first | exact trivial | (apply And.intro; (focus (first | (apply Or.inr; (try dsimp only); ((repeat (first | exact InB.head | apply InB.tail | (with_reducible apply InB.app))); done)) | (apply Or.inl; kernel_rfl))))))), ?_⟩))
  refine XC_cond rfl (fun h => ?_) (fun h => ?_)
  · (simp only [decide_eq_true_eq, decide_eq_false_iff_not, beq_iff_eq, bne_iff_ne, Bool.not_eq_true', beq_eq_false_iff_ne, bne_eq_false_iff_eq, ne_eq] at h)
    have hlt : i < ds.length := by omega
    clear h
    obtain ⟨b1', off1, p1, c1, e1, f1, rfl, hv1, hc1⟩ := hget hlt
    repeat' (first | refine cs ?_ | refine ss ?_ | (((with_reducible apply Q_box); (focus (exact rfl)); (focus (exact rfl)); (focus (exact rfl))); intro bx) | (((with_reducible apply Q_alloc tab); (focus (exact rfl)); (focus (exact rfl)); (focus (exact rfl))); intro bx) | refine S_do (by kernel_rfl) (A_storeN tab rfl rfl rfl rfl rfl rfl rfl (by ((repeat (first | exact InB.head | apply InB.tail | (with_reducible apply InB.app))); done)) (by exact rfl) (by ((repeat (first | exact SetB.head | apply SetB.tail | (with_reducible apply SetB.app))); done)) ⟨Le.refl _, (by (repeat (first | exact trivial | (apply And.intro; (focus (first | (apply Or.inr; (try dsimp only); ((repeat (first | exact InB.head | apply InB.tail | (with_reducible apply InB.app))); done)) | (apply Or.inl; kernel_rfl))))))), ?_⟩))
    refine Q_elem tab i rfl rfl rfl rfl rfl rfl rfl hlt ?_
    have hd := hall _ (List.getElem_mem hlt)
    have hci := hc1 _ hlt
    have htk := netsOf_take hlt
    have hl5 := netsOf_len (List.take i ds)
    generalize netsOf (List.take i ds) = L at *
    generalize ds[i] = d at *
    obtain ⟨df, dt, dm⟩ := d
    obtain ⟨hd1, hd2, hd3, hd4⟩ := hd
    simp only at hd1 hd2 hd3 hd4
    refine Q_load tab rfl rfl rfl hv1 (readB_rec tab (x := [natV df, natV dt, intV dm]) rfl rfl rfl hci) ?_
    repeat' (first | refine cs ?_ | refine ss ?_ | (((with_reducible apply Q_box); (focus (exact rfl)); (focus (exact rfl)); (focus (exact rfl))); intro bx) | (((with_reducible apply Q_alloc tab); (focus (exact rfl)); (focus (exact rfl)); (focus (exact rfl))); intro bx) | refine S_do (by kernel_rfl) (A_storeN tab rfl rfl rfl rfl rfl rfl rfl (by ((repeat (first | exact InB.head | apply InB.tail | (with_reducible apply InB.app))); done)) (by exact rfl) (by ((repeat (first | exact SetB.head | apply SetB.tail | (with_reducible apply SetB.app))); done)) ⟨Le.refl _, (by (repeat (first | exact trivial | (apply And.intro; (focus (first | (apply Or.inr; (try dsimp only); ((repeat (first | exact InB.head | apply InB.tail | (with_reducible apply InB.app))); done)) | (apply Or.inl; kernel_rfl))))))), ?_⟩))
    have hs1 := hsm dt
    have hsm2 : Sm (18 * i + 9) (addAt L dt dm) := hsm.add (by omega) (by omega)
    have hs2 := hsm2 df
    have hl5' : (addAt L dt dm).length = 5 := by rw [addAt_len]; exact hl5
    refine C_draw [8] [0, 1, 2, 3, 4, 5, 6, 7, 8] mixed rfl (by kernel_rfl) ?_
    repeat' (first | refine cs ?_ | refine ss ?_ | (((with_reducible apply Q_box); (focus (exact rfl)); (focus (exact rfl)); (focus (exact rfl))); intro bx) | (((with_reducible apply Q_alloc tab); (focus (exact rfl)); (focus (exact rfl)); (focus (exact rfl))); intro bx) | refine S_do (by kernel_rfl) (A_storeN tab rfl rfl rfl rfl rfl rfl rfl (by ((repeat (first | exact InB.head | apply InB.tail | (with_reducible apply InB.app))); done)) (by exact rfl) (by ((repeat (first | exact SetB.head | apply SetB.tail | (with_reducible apply SetB.app))); done)) ⟨Le.refl _, (by (repeat (first | exact trivial | (apply And.intro; (focus (first | (apply Or.inr; (try dsimp only); ((repeat (first | exact InB.head | apply InB.tail | (with_reducible apply InB.app))); done)) | (apply Or.inl; kernel_rfl))))))), ?_⟩))
    refine S_elemA tab dt rfl rfl rfl (by kernel_rfl) rfl rfl rfl rfl rfl (by omega) ?_
    refine S_loadB tab rfl rfl rfl (by kernel_rfl) rfl (by ((repeat (first | exact InB.head | apply InB.tail | (with_reducible apply InB.app))); done)) (readB_one tab rfl rfl rfl (netC_get L (by omega))) ?_
    repeat (refine ss ?_)
    refine S_elemA tab dt rfl rfl rfl (by kernel_rfl) rfl rfl rfl rfl rfl (by omega) ?_
    refine S_do (by kernel_rfl) (A_store tab (c := netC L) (x := intV (gat L dt + dm)) rfl rfl rfl rfl rfl rfl rfl (by ((repeat (first | exact InB.head | apply InB.tail | (with_reducible apply InB.app))); done)) (Nat.ble_eq_true_of_le (by show 0 + dt * 1 + 1 ≤ 5; omega)) (by rw [netC_write hl5 (by omega)]; ((repeat (first | exact SetB.head | apply SetB.tail | (with_reducible apply SetB.app))); done)) ⟨Le.refl _, (by (repeat (first | exact trivial | (apply And.intro; (focus (first | (apply Or.inr; (try dsimp only); ((repeat (first | exact InB.head | apply InB.tail | (with_reducible apply InB.app))); done)) | (apply Or.inl; kernel_rfl))))))), ?_⟩)
    change XS _ _ _ _ _ _ _ _ _ _ ⟨_, _, [_, (b3, netC (addAt L dt dm), 77), _]⟩ _
    repeat' (first | refine cs ?_ | refine ss ?_ | (((with_reducible apply Q_box); (focus (exact rfl)); (focus (exact rfl)); (focus (exact rfl))); intro bx) | (((with_reducible apply Q_alloc tab); (focus (exact rfl)); (focus (exact rfl)); (focus (exact rfl))); intro bx) | refine S_do (by kernel_rfl) (A_storeN tab rfl rfl rfl rfl rfl rfl rfl (by ((repeat (first | exact InB.head | apply InB.tail | (with_reducible apply InB.app))); done)) (by exact rfl) (by ((repeat (first | exact SetB.head | apply SetB.tail | (with_reducible apply SetB.app))); done)) ⟨Le.refl _, (by (repeat (first | exact trivial | (apply And.intro; (focus (first | (apply Or.inr; (try dsimp only); ((repeat (first | exact InB.head | apply InB.tail | (with_reducible apply InB.app))); done)) | (apply Or.inl; kernel_rfl))))))), ?_⟩))
    refine C_draw [8] [0, 1, 2, 3, 4, 5, 6, 7, 8] mixed rfl (by kernel_rfl) ?_
    repeat' (first | refine cs ?_ | refine ss ?_ | (((with_reducible apply Q_box); (focus (exact rfl)); (focus (exact rfl)); (focus (exact rfl))); intro bx) | (((with_reducible apply Q_alloc tab); (focus (exact rfl)); (focus (exact rfl)); (focus (exact rfl))); intro bx) | refine S_do (by kernel_rfl) (A_storeN tab rfl rfl rfl rfl rfl rfl rfl (by ((repeat (first | exact InB.head | apply InB.tail | (with_reducible apply InB.app))); done)) (by exact rfl) (by ((repeat (first | exact SetB.head | apply SetB.tail | (with_reducible apply SetB.app))); done)) ⟨Le.refl _, (by (repeat (first | exact trivial | (apply And.intro; (focus (first | (apply Or.inr; (try dsimp only); ((repeat (first | exact InB.head | apply InB.tail | (with_reducible apply InB.app))); done)) | (apply Or.inl; kernel_rfl))))))), ?_⟩))
    refine S_elemA tab df rfl rfl rfl (by kernel_rfl) rfl rfl rfl rfl rfl (by omega) ?_
    refine S_loadB tab rfl rfl rfl (by kernel_rfl) rfl (by ((repeat (first | exact InB.head | apply InB.tail | (with_reducible apply InB.app))); done)) (readB_one tab rfl rfl rfl (netC_get (addAt L dt dm) (by omega))) ?_
    repeat (refine ss ?_)
    refine S_elemA tab df rfl rfl rfl (by kernel_rfl) rfl rfl rfl rfl rfl (by omega) ?_
    refine S_do (by kernel_rfl) (A_store tab (c := netC (addAt L dt dm)) (x := intV (gat (addAt L dt dm) df - dm)) rfl rfl rfl rfl rfl rfl rfl (by ((repeat (first | exact InB.head | apply InB.tail | (with_reducible apply InB.app))); done)) (Nat.ble_eq_true_of_le (by show 0 + df * 1 + 1 ≤ 5; omega)) (by rw [netC_write hl5' (by omega)]; ((repeat (first | exact SetB.head | apply SetB.tail | (with_reducible apply SetB.app))); done)) ⟨Le.refl _, (by (repeat (first | exact trivial | (apply And.intro; (focus (first | (apply Or.inr; (try dsimp only); ((repeat (first | exact InB.head | apply InB.tail | (with_reducible apply InB.app))); done)) | (apply Or.inl; kernel_rfl))))))), ?_⟩)
    repeat' (first | refine cs ?_ | refine ss ?_ | (((with_reducible apply Q_box); (focus (exact rfl)); (focus (exact rfl)); (focus (exact rfl))); intro bx) | (((with_reducible apply Q_alloc tab); (focus (exact rfl)); (focus (exact rfl)); (focus (exact rfl))); intro bx) | refine S_do (by kernel_rfl) (A_storeN tab rfl rfl rfl rfl rfl rfl rfl (by ((repeat (first | exact InB.head | apply InB.tail | (with_reducible apply InB.app))); done)) (by exact rfl) (by ((repeat (first | exact SetB.head | apply SetB.tail | (with_reducible apply SetB.app))); done)) ⟨Le.refl _, (by (repeat (first | exact trivial | (apply And.intro; (focus (first | (apply Or.inr; (try dsimp only); ((repeat (first | exact InB.head | apply InB.tail | (with_reducible apply InB.app))); done)) | (apply Or.inl; kernel_rfl))))))), ?_⟩))
    refine Loop_normal ⟨i + 1, w, by omega, ⟨rfl, (by (repeat (first | exact trivial | refine ⟨rfl, ?_⟩))), ?_⟩, Le.refl _, rfl, by omega, ?_⟩
    · rw [htk]
      exact show Subm [(b3, netC (netStep L ⟨df, dt, dm⟩), 77), (b2, netC (List.replicate 5 0), 77)] (_ :: [(b3, netC (netStep L ⟨df, dt, dm⟩), 77), (b2, netC (List.replicate 5 0), 77)]) from cntL
    · rw [htk]
      have := hsm.step (d := ⟨df, dt, dm⟩) hl5 ⟨hd1, hd2, hd3, hd4⟩ hn.2
      rw [show (18 * ((i + 1 : Nat) : Int)) = 18 * i + 18 by omega]
      exact this
  · (simp only [decide_eq_true_eq, decide_eq_false_iff_not, beq_iff_eq, bne_iff_ne, Bool.not_eq_true', beq_eq_false_iff_ne, bne_eq_false_iff_eq, ne_eq] at h)
    have hin : i = ds.length := by omega
    subst hin
    rw [List.take_length]
    repeat' (first | refine cs ?_ | refine ss ?_ | (((with_reducible apply Q_box); (focus (exact rfl)); (focus (exact rfl)); (focus (exact rfl))); intro bx) | (((with_reducible apply Q_alloc tab); (focus (exact rfl)); (focus (exact rfl)); (focus (exact rfl))); intro bx) | refine S_do (by kernel_rfl) (A_storeN tab rfl rfl rfl rfl rfl rfl rfl (by ((repeat (first | exact InB.head | apply InB.tail | (with_reducible apply InB.app))); done)) (by exact rfl) (by ((repeat (first | exact SetB.head | apply SetB.tail | (with_reducible apply SetB.app))); done)) ⟨Le.refl _, (by (repeat (first | exact trivial | (apply And.intro; (focus (first | (apply Or.inr; (try dsimp only); ((repeat (first | exact InB.head | apply InB.tail | (with_reducible apply InB.app))); done)) | (apply Or.inl; kernel_rfl))))))), ?_⟩))
    refine Fn_ret tab [] (xs := [netV (netsOf ds)]) (resL_cell tab rfl (by ((repeat (first | exact InB.head | apply InB.tail | (with_reducible apply InB.app))); done)) rfl .nil) (Back.here cntL) ?_
    exact ⟨rfl, rfl⟩
end
end Go.Proofs.Ytbbaionoibkohaa
end
section
namespace Go.Pal
open Go Go.Conc View
section
variable {P : Program} {mn : Who} (T : Tab P) {rd : Option Nat} {n : Nat} {Q : Exit → St → View → Prop} {ds : List Deferred} {ρ : Regs} {β : Boxes} {v : View} {K : St → View → Prop}
  {ops : Array Oper} {i : Nat} {d : Nat} {ty : TypeId} {pos : String} {af : Array Edge} {gu : Option (Nat × Bool)}
include T in
theorem A_indexA {t e : TypeId} {y z : Operand} {cs : Array Value} {len sz j : Nat} {jz : Int} {k : IntKind} {x : Value} (ho : ops[i]? = some ⟨some d, .index t y z, ty, pos, af, gu⟩) (hw : wantG ops gu ρ = some true) (hn : Nat.blt d n = true)
    (hy : ρ.val y = some (.agg cs)) (hz : ρ.val z = some (.int k jz)) (hj : jz = j) (ht : T.und t = some (.array len e)) (hs : T.siz e = some sz) (hl : j < len) (hx : partOf T e cs (j * sz) = some x)
    (h : K ⟨ds, (d, x) :: ρ, β⟩ v) : XOp P mn rd n ops i Q K ⟨ds, ρ, β⟩ v := by
  refine xop_sem ho (wantG_B hw) (.inr rfl) hn fun ev hev hbk => ?_
  subst hj
  simp only [execOp, sx_bind, hev _ _ hy, hev _ _ hz, Instr.index, asIntOf, sx_pure, tx_und T ht]
  rw [if_pos ⟨by omega, by omega⟩]
  simp only [sx_bind, tx_siz T hs, Int.toNat_natCast]
  exact part_sound T hx ⟨β, v, ⟨hbk, Le.refl _⟩, h⟩
end
end Go.Pal
end
