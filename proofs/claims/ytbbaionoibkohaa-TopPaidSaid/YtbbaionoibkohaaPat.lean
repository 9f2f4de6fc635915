/- Part 20 of the proof that stands in the last text. -/
import Derived.Test.YtbbaionoibkohaaPas
set_option linter.all false
section
namespace Go.Proofs.Ytbbaionoibkohaa
open Go Go.Pal Go.Pal.Db Go.Conc View
open Go.Proofs.Try
set_option maxHeartbeats 4000000
theorem netsOf_sm {n : Nat} (hn : n ≤ 4) {ds : List Dt} (hd : ∀ d ∈ ds, d.ok n) : ∀ i, i ≤ ds.length → Sm (18 * i) (netsOf (ds.take i))
  | 0, _ => fun j => by
    have : gat (netsOf (ds.take 0)) j = 0 := by
      unfold gat; rw [List.take_zero]; show List.getD (List.replicate 5 (0 : Int)) j 0 = 0
      rw [List.getD_eq_getElem?_getD, List.getElem?_replicate]; split <;> rfl
    omega
  | i + 1, hi => by
    have h := netsOf_sm hn hd i (by omega)
    rw [netsOf_take (by omega)]
    have := h.step (d := ds[i]) (netsOf_len _) (hd _ (List.getElem_mem _)) hn
    rw [show (18 * ((i + 1 : Nat) : Int)) = 18 * i + 18 by omega]
    exact this
theorem Ow.ok.sm {o : Ow} {v : View} (h : o.ok v) : Sm 144 (netsOf o.ds) := by
  have h1 := netsOf_sm h.n.2 h.all o.ds.length (Nat.le_refl _)
  rw [List.take_length] at h1
  have h2 := h.len
  intro j
  have := h1 j
  omega
def SolveR (o : Ow) (l : List Pr) : Pal.End → Boxes → Prop
  | .ret r, β' => okL o.n l (netsOf o.ds) = true ∧ OwnP β' r l.length
  | .pan ch, _ => okL o.n l (netsOf o.ds) = false ∧ ch = stk
section
variable {mn : Who} {v : View}
theorem pow4 {k : Nat} (h : k ≤ 8) : (144 : Int) * 4 ^ k ≤ 2 ^ 40 := by
  have : (4 : Nat) ^ k ≤ 4 ^ 8 := Nat.pow_le_pow_right (by decide) h
  have h2 : ((4 : Int) ^ k) = ((4 ^ k : Nat) : Int) := by simp
  rw [h2]
  have h3 : (4 : Nat) ^ 8 = 65536 := rfl
  omega
theorem sorted_n {l : List Dt} {a : Addr} {cap N : Nat} (hrow : RowAt v (some a) (dtC l)) (hlen : l.length ≤ 12) (hf : ∀ d ∈ l, d.fit) (hN : l.length = N) : CallsB Try.prog mn 53 #[.slice (some a) N cap] (RetB fun r β' => OwnP β' r N) [] v := by
  subst hN; exact sorted_x hrow hlen hf
theorem solve_x {o : Ow} (ho : o.ok v) {l : List Pr} (hl : l.length ≤ 8) (hpr : ∀ x ∈ l, x.1 < x.2 ∧ x.2 < o.n) {al : Option Addr} {cl : Nat} (hcl : l.length ≤ cl) (hrow : RowAt v al (prsC l)) :
    CallsB Try.prog mn 48 #[o.val, .slice al l.length cl] (SolveR o l) [] v := by
  refine callsB_fn tab func48 rfl (Nat.le_of_ble_eq_true rfl) (args := [.agg (List.toArray [.slice o.ap o.n o.cp, .slice o.ad o.ds.length o.cd]), .slice al l.length cl]) ?_
  repeat' (first | refine cs ?_ | refine ss ?_ | (((with_reducible apply Q_box); (focus (exact rfl)); (focus (exact rfl)); (focus (exact rfl))); intro bx) | (((with_reducible apply Q_alloc tab); (focus (exact rfl)); (focus (exact rfl)); (focus (exact rfl))); intro bx) | refine S_do (by kernel_rfl) (A_storeN tab rfl rfl rfl rfl rfl rfl rfl (by ((repeat (first | exact InB.head | apply InB.tail | (with_reducible apply InB.app))); done)) (by exact rfl) (by ((repeat (first | exact SetB.head | apply SetB.tail | (with_reducible apply SetB.app))); done)) ⟨Le.refl _, (by (repeat (first | exact trivial | (apply And.intro; (focus (first | (apply Or.inr; (try dsimp only); ((repeat (first | exact InB.head | apply InB.tail | (with_reducible apply InB.app))); done)) | (apply Or.inl; kernel_rfl))))))), ?_⟩))
  refine Q_op fun ho' => A_ret1 ho' bod23 rfl rfl rfl rfl rfl (nets_x ho) ?_
  clear ho'
  have hl5 := netsOf_len o.ds
  have hsm := ho.sm
  repeat' (first | refine cs ?_ | refine ss ?_ | (((with_reducible apply Q_box); (focus (exact rfl)); (focus (exact rfl)); (focus (exact rfl))); intro bx) | (((with_reducible apply Q_alloc tab); (focus (exact rfl)); (focus (exact rfl)); (focus (exact rfl))); intro bx) | refine S_do (by kernel_rfl) (A_storeN tab rfl rfl rfl rfl rfl rfl rfl (by ((repeat (first | exact InB.head | apply InB.tail | (with_reducible apply InB.app))); done)) (by exact rfl) (by ((repeat (first | exact SetB.head | apply SetB.tail | (with_reducible apply SetB.app))); done)) ⟨Le.refl _, (by (repeat (first | exact trivial | (apply And.intro; (focus (first | (apply Or.inr; (try dsimp only); ((repeat (first | exact InB.head | apply InB.tail | (with_reducible apply InB.app))); done)) | (apply Or.inl; kernel_rfl))))))), ?_⟩))
  rename_i b2 b5 b6
  obtain ⟨b7, rfl⟩ : ∃ b : Nat, b = bx := ⟨bx, rfl⟩
  generalize hN : netsOf o.ds = N at *
  refine Q_retire (β1 := [(b2, List.toArray [.slice o.ap o.n o.cp, .slice o.ad o.ds.length o.cd], 73), (b7, List.toArray [.func (.func 50) #[] (capG b5 b2 b6 b7).toArray], 129)]) (β2 := [(b5, netC N, 77), (b6, List.toArray [.slice none 0 0], 79)])
    (show ∀ p, cnt p [(b7, List.toArray [.func (.func 50) #[] (capG b5 b2 b6 b7).toArray], 129), (b6, List.toArray [.slice none 0 0], 79), (b5, netC N, 77), (b2, List.toArray [.slice o.ap o.n o.cp, .slice o.ad o.ds.length o.cd], 73)] = cnt p ([(b2, List.toArray [.slice o.ap o.n o.cp, .slice o.ad o.ds.length o.cd], 73), (b7, List.toArray [.func (.func 50) #[] (capG b5 b2 b6 b7).toArray], 129)] ++ [(b5, netC N, 77), (b6, List.toArray [.slice none 0 0], 79)]) from cntA) (fun hbk => ?_)
  have hv2 := union_box (v := v) hbk (b := b2) .head
  have hv7 := union_box (v := v) hbk (b := b7) (.tail .head)
  have hle := union_le v (bview [(b2, List.toArray [.slice o.ap o.n o.cp, .slice o.ad o.ds.length o.cd], 73), (b7, List.toArray [.func (.func 50) #[] (capG b5 b2 b6 b7).toArray], 129)])
  generalize v.union (bview [(b2, List.toArray [.slice o.ap o.n o.cp, .slice o.ad o.ds.length o.cd], 73), (b7, List.toArray [.func (.func 50) #[] (capG b5 b2 b6 b7).toArray], 129)]) = v1 at *
  have hcg : CapG v1 o.n b5 b2 b6 b7 := ⟨⟨_, _, _, _, _, _, _, hv2⟩, ⟨_, _, hv7⟩⟩
  refine Q_op fun ho' => A_callP [(b5, netC N, 77), (b6, List.toArray [.slice none 0 0], 79)] [] ho' bod50 rfl rfl rfl rfl rfl split_all
    (grow_x ho.n.2 l.length l N [] 144 _ al cl [] none 0 rfl hpr hl5 hsm (by omega) (pow4 hl) (by simpa using hl) (by simp) hcl (hrow.le (hle.trans (union_le _ _))) (hcg.le (union_le _ _)) .nil) (fun x β' hR => ?_) (fun ch β' hR => ?_)
  · clear ho'
    obtain ⟨hok, rfl, left', outs', seg', a', c', h1, h2, h3, h4, rfl⟩ := hR
    simp only [List.length_nil, Nat.zero_add] at h2 h4
    rw [List.append_nil]
    simp only [List.length_nil, Nat.zero_add]
    repeat' (first | refine cs ?_ | refine ss ?_ | (((with_reducible apply Q_box); (focus (exact rfl)); (focus (exact rfl)); (focus (exact rfl))); intro bx) | (((with_reducible apply Q_alloc tab); (focus (exact rfl)); (focus (exact rfl)); (focus (exact rfl))); intro bx) | refine S_do (by kernel_rfl) (A_storeN tab rfl rfl rfl rfl rfl rfl rfl (by ((repeat (first | exact InB.head | apply InB.tail | (with_reducible apply InB.app))); done)) (by exact rfl) (by ((repeat (first | exact SetB.head | apply SetB.tail | (with_reducible apply SetB.app))); done)) ⟨Le.refl _, (by (repeat (first | exact trivial | (apply And.intro; (focus (first | (apply Or.inr; (try dsimp only); ((repeat (first | exact InB.head | apply InB.tail | (with_reducible apply InB.app))); done)) | (apply Or.inl; kernel_rfl))))))), ?_⟩))
    have hfin : ∀ {ρ' : Regs} {β' rest : Boxes} {r : Value}, ρ'.get 4 = some r → OwnP β' r l.length → FnB tab f48 (SolveR o l) v .ret ⟨[], ρ', β' ++ rest⟩ v1 := by
      intro ρ' β' rest r hr hO
      refine Fn_ret tab (xs := [r]) β' (by exact .tmp hr .nil) (Back.le hle cntL) ?_
      exact ⟨by show okL o.n l (netsOf o.ds) = true; rw [hN]; exact hok, hO⟩
    cases a' with
    | none =>
      have hz : l.length = 0 ∧ c' = 0 := by
        generalize dtC outs' = ll at h4
        generalize l.length = nn at h4
        cases h4
        exact ⟨rfl, rfl⟩
      rw [hz.1, hz.2]
      refine Q_op fun ho => A_callR ([]) (_) ho bod53 rfl rfl rfl rfl rfl split0 (sorted_nil) (fun x β' hR => ?_)
      clear ho
      repeat' (first | refine cs ?_ | refine ss ?_ | (((with_reducible apply Q_box); (focus (exact rfl)); (focus (exact rfl)); (focus (exact rfl))); intro bx) | (((with_reducible apply Q_alloc tab); (focus (exact rfl)); (focus (exact rfl)); (focus (exact rfl))); intro bx) | refine S_do (by kernel_rfl) (A_storeN tab rfl rfl rfl rfl rfl rfl rfl (by ((repeat (first | exact InB.head | apply InB.tail | (with_reducible apply InB.app))); done)) (by exact rfl) (by ((repeat (first | exact SetB.head | apply SetB.tail | (with_reducible apply SetB.app))); done)) ⟨Le.refl _, (by (repeat (first | exact trivial | (apply And.intro; (focus (first | (apply Or.inr; (try dsimp only); ((repeat (first | exact InB.head | apply InB.tail | (with_reducible apply InB.app))); done)) | (apply Or.inl; kernel_rfl))))))), ?_⟩))
      exact hfin rfl (by rw [hz.1]; exact hR)
    | some a' =>
      refine Q_op fun ho' => A_bok fun hbk2 => A_callR [] _ ho' bod53 rfl rfl rfl rfl rfl split0 (sorted_n (l := outs') (RowAt.own hbk2 cntL h4) (by omega) h3 h2) (fun x β' hR => ?_)
      clear ho'
      repeat' (first | refine cs ?_ | refine ss ?_ | (((with_reducible apply Q_box); (focus (exact rfl)); (focus (exact rfl)); (focus (exact rfl))); intro bx) | (((with_reducible apply Q_alloc tab); (focus (exact rfl)); (focus (exact rfl)); (focus (exact rfl))); intro bx) | refine S_do (by kernel_rfl) (A_storeN tab rfl rfl rfl rfl rfl rfl rfl (by ((repeat (first | exact InB.head | apply InB.tail | (with_reducible apply InB.app))); done)) (by exact rfl) (by ((repeat (first | exact SetB.head | apply SetB.tail | (with_reducible apply SetB.app))); done)) ⟨Le.refl _, (by (repeat (first | exact trivial | (apply And.intro; (focus (first | (apply Or.inr; (try dsimp only); ((repeat (first | exact InB.head | apply InB.tail | (with_reducible apply InB.app))); done)) | (apply Or.inl; kernel_rfl))))))), ?_⟩))
      exact hfin rfl hR
  · clear ho'
    refine pn ?_
    refine Fn_panic tab [] (Back.le hle fun p => Nat.zero_le _) ?_
    exact ⟨by show okL o.n l (netsOf o.ds) = false; rw [hN]; exact hR.1, hR.2⟩
end
end Go.Proofs.Ytbbaionoibkohaa
end
section
namespace Go.Proofs.Ytbbaionoibkohaa
open Go Go.Pal Go.Pal.Db Go.Conc View
open Go.Proofs.Try
set_option maxHeartbeats 4000000
section
variable {mn : Who}
theorem caught_x : Caught2 Try.prog mn 47 (.iface 125 (.agg #[])) 79 4 #[.slice none 0 0] #[.bool false] where
  fn := by
    obtain ⟨fn, c, h1, h2, h3⟩ := bod47
    exact ⟨fn, h1, h3, by rw [h2]; simp⟩
  ok := by
    intro Stop v c fs p1 p2 hm hrun
    refine F_enter (R := Run Try.prog mn Stop v) (ys := [_, _]) func47 rfl (Nat.le_of_ble_eq_true rfl) fun bf hbn hbr hbf => ?_
    have hbk : bf.kind ≠ .early := by rw [hbn]; simp
    refine F_seq ?_
    refine F_region (l := [0, 1, 2, 3, 4, 5, 6, 7]) rfl ?_
    intro a hf
    refine run_recN hbn hbr rfl (fits_want (o := ⟨some 5, .call { callee := .builtin .recover, args := #[], argTypes := #[] }, _, _, _, none⟩) hf rfl) hm ?_
    refine run_tail (R := fun σ u => σ.ds = [] ∧ u = v) (σ := ⟨[], (5, .nilIface) :: argRegs 0 [.pointer (some p1), .pointer (some p2)], []⟩) (u := v) hbk hbr ?_ (fits_put (d := some 5) hf rfl) (bok_nil v) (by rw [union_nil]; exact Le.refl _) (fun σ' u' a' hR hf' hb' => ?_)
    · refine XR_at (i := 1) (l := [_, _, _, _, _, _, _]) rfl rfl ?_
      repeat' (first | refine cs ?_ | refine ss ?_ | (((with_reducible apply Q_box); (focus (exact rfl)); (focus (exact rfl)); (focus (exact rfl))); intro bx) | (((with_reducible apply Q_alloc tab); (focus (exact rfl)); (focus (exact rfl)); (focus (exact rfl))); intro bx) | refine S_do (by kernel_rfl) (A_storeN tab rfl rfl rfl rfl rfl rfl rfl (by ((repeat (first | exact InB.head | apply InB.tail | (with_reducible apply InB.app))); done)) (by exact rfl) (by ((repeat (first | exact SetB.head | apply SetB.tail | (with_reducible apply SetB.app))); done)) ⟨Le.refl _, (by (repeat (first | exact trivial | (apply And.intro; (focus (first | (apply Or.inr; (try dsimp only); ((repeat (first | exact InB.head | apply InB.tail | (with_reducible apply InB.app))); done)) | (apply Or.inl; kernel_rfl))))))), ?_⟩))
      exact ⟨rfl, rfl, rfl⟩
    · obtain ⟨h1, rfl⟩ := hR
      refine run_end (fn := f47) hbr (hf'.defers.trans h1) hbn (by rw [hbf]; exact func47) rfl (.inl hm) ?_
      have : ({ c with mode := .returning } : Frame) = c := by cases c; simp only at hm; subst hm; rfl
      rw [this]; exact Run.weaken hrun (union_le _ _)
  pan := by
    intro Stop u c fs b1 b2 c1 c2 hm hs1 hs2 hbok hrun
    obtain ⟨x1, rfl⟩ : ∃ x, c1 = #[x] := Array.size_eq_one_iff.1 hs1
    obtain ⟨x2, rfl⟩ : ∃ x, c2 = #[x] := Array.size_eq_one_iff.1 hs2
    refine F_enter (R := Run Try.prog mn Stop _) (ys := [_, _]) func47 rfl (Nat.le_of_ble_eq_true rfl) fun bf hbn hbr hbf => ?_
    have hbk : bf.kind ≠ .early := by rw [hbn]; simp
    refine F_seq ?_
    refine F_region (l := [0, 1, 2, 3, 4, 5, 6, 7]) rfl ?_
    intro a hf
    refine run_recP hbn hbr rfl (fits_want (o := ⟨some 5, .call { callee := .builtin .recover, args := #[], argTypes := #[] }, _, _, _, none⟩) hf rfl) hm ?_
    refine run_tail (R := fun σ u' => σ.ds = [] ∧ u' = u ∧ ∃ rest, σ.β = rest ++ [(b1, #[.slice none 0 0], 79), (b2, #[.bool false], 4)]) (σ := ⟨[], (5, .iface 125 (.agg #[])) :: argRegs 0 [.pointer (some ⟨b1, 0, none⟩), .pointer (some ⟨b2, 0, none⟩)], [(b1, #[x1], 79), (b2, #[x2], 4)]⟩) (u := u) hbk hbr ?_ (by have hp := fits_put (d := some 5) (x := .iface 125 (.agg #[])) hf rfl; exact ⟨hp.size, hp.defers, hp.get⟩) hbok (Le.refl _) (fun σ' u' a' hR hf' hb' => ?_)
    · refine XR_at (i := 1) (l := [_, _, _, _, _, _, _]) rfl rfl ?_
      repeat' (first | refine cs ?_ | refine ss ?_ | (((with_reducible apply Q_box); (focus (exact rfl)); (focus (exact rfl)); (focus (exact rfl))); intro bx) | (((with_reducible apply Q_alloc tab); (focus (exact rfl)); (focus (exact rfl)); (focus (exact rfl))); intro bx) | refine S_do (by kernel_rfl) (A_storeN tab rfl rfl rfl rfl rfl rfl rfl (by ((repeat (first | exact InB.head | apply InB.tail | (with_reducible apply InB.app))); done)) (by exact rfl) (by ((repeat (first | exact SetB.head | apply SetB.tail | (with_reducible apply SetB.app))); done)) ⟨Le.refl _, (by (repeat (first | exact trivial | (apply And.intro; (focus (first | (apply Or.inr; (try dsimp only); ((repeat (first | exact InB.head | apply InB.tail | (with_reducible apply InB.app))); done)) | (apply Or.inl; kernel_rfl))))))), ?_⟩))
      exact ⟨rfl, rfl, rfl, [_], rfl⟩
    · obtain ⟨h1, rfl, rest, h2⟩ := hR
      refine run_end (fn := f47) hbr (hf'.defers.trans h1) hbn (by rw [hbf]; exact func47) rfl (.inr ⟨_, rfl⟩) ?_
      refine Run.weaken hrun ?_
      rw [h2] at hb' ⊢
      exact (bok_subm (cntL) hb').2
def SolvedR (o : Ow) (l : List Pr) (r : Value) (β' : Boxes) : Prop :=
  (okL o.n l (netsOf o.ds) = true ∧ ∃ p, r = .tuple #[p, .bool true] ∧ OwnP β' p l.length) ∨ (okL o.n l (netsOf o.ds) = false ∧ r = .tuple #[.slice none 0 0, .bool false] ∧ β' = [])
theorem solved_x {v : View} {o : Ow} (ho : o.ok v) {l : List Pr} (hl : l.length ≤ 8) (hpr : ∀ x ∈ l, x.1 < x.2 ∧ x.2 < o.n) {al : Option Addr} {cl : Nat} (hcl : l.length ≤ cl) (hrow : RowAt v al (prsC l)) :
    CallsB Try.prog mn 45 #[o.val, .slice al l.length cl] (RetB (SolvedR o l)) [] v := by
  refine callsB_fnS tab caught_x func45 rfl (Nat.le_of_ble_eq_true rfl) (args := [.agg (List.toArray [.slice o.ap o.n o.cp, .slice o.ad o.ds.length o.cd]), .slice al l.length cl]) ?_
  repeat' (first | refine cs ?_ | refine ss ?_ | (((with_reducible apply Q_box); (focus (exact rfl)); (focus (exact rfl)); (focus (exact rfl))); intro bx) | (((with_reducible apply Q_alloc tab); (focus (exact rfl)); (focus (exact rfl)); (focus (exact rfl))); intro bx) | refine S_do (by kernel_rfl) (A_storeN tab rfl rfl rfl rfl rfl rfl rfl (by ((repeat (first | exact InB.head | apply InB.tail | (with_reducible apply InB.app))); done)) (by exact rfl) (by ((repeat (first | exact SetB.head | apply SetB.tail | (with_reducible apply SetB.app))); done)) ⟨Le.refl _, (by (repeat (first | exact trivial | (apply And.intro; (focus (first | (apply Or.inr; (try dsimp only); ((repeat (first | exact InB.head | apply InB.tail | (with_reducible apply InB.app))); done)) | (apply Or.inl; kernel_rfl))))))), ?_⟩))
  rename_i b2 b4
  obtain ⟨b5, rfl⟩ : ∃ b : Nat, b = bx := ⟨bx, rfl⟩
  refine Q_op fun ho' => A_deferV rfl ho' rfl rfl rfl ?_
  clear ho'
  repeat' (first | refine cs ?_ | refine ss ?_ | (((with_reducible apply Q_box); (focus (exact rfl)); (focus (exact rfl)); (focus (exact rfl))); intro bx) | (((with_reducible apply Q_alloc tab); (focus (exact rfl)); (focus (exact rfl)); (focus (exact rfl))); intro bx) | refine S_do (by kernel_rfl) (A_storeN tab rfl rfl rfl rfl rfl rfl rfl (by ((repeat (first | exact InB.head | apply InB.tail | (with_reducible apply InB.app))); done)) (by exact rfl) (by ((repeat (first | exact SetB.head | apply SetB.tail | (with_reducible apply SetB.app))); done)) ⟨Le.refl _, (by (repeat (first | exact trivial | (apply And.intro; (focus (first | (apply Or.inr; (try dsimp only); ((repeat (first | exact InB.head | apply InB.tail | (with_reducible apply InB.app))); done)) | (apply Or.inl; kernel_rfl))))))), ?_⟩))
  refine Q_op fun ho' => A_callP [] _ ho' bod48 rfl rfl rfl rfl rfl split0 (solve_x (ho.le (union_le _ _)) hl hpr hcl (hrow.le (union_le _ _))) (fun x β' hR => ?_) (fun ch β' hR => ?_)
  · clear ho'
    obtain ⟨hok, lo, a', c', h1, h2, rfl, h4⟩ := hR
    repeat' (first | refine cs ?_ | refine ss ?_ | (((with_reducible apply Q_box); (focus (exact rfl)); (focus (exact rfl)); (focus (exact rfl))); intro bx) | (((with_reducible apply Q_alloc tab); (focus (exact rfl)); (focus (exact rfl)); (focus (exact rfl))); intro bx) | refine S_do (by kernel_rfl) (A_storeN tab rfl rfl rfl rfl rfl rfl rfl (by ((repeat (first | exact InB.head | apply InB.tail | (with_reducible apply InB.app))); done)) (by exact rfl) (by ((repeat (first | exact SetB.head | apply SetB.tail | (with_reducible apply SetB.app))); done)) ⟨Le.refl _, (by (repeat (first | exact trivial | (apply And.intro; (focus (first | (apply Or.inr; (try dsimp only); ((repeat (first | exact InB.head | apply InB.tail | (with_reducible apply InB.app))); done)) | (apply Or.inl; kernel_rfl))))))), ?_⟩))
    refine ⟨_, _, rfl, [.slice a' l.length c', .bool true], β', .cell rfl (by ((repeat (first | exact InB.head | apply InB.tail | (with_reducible apply InB.app))); done)) rfl (.cell rfl (by ((repeat (first | exact InB.head | apply InB.tail | (with_reducible apply InB.app))); done)) rfl .nil), .inl ⟨hok, _, rfl, lo, a', c', h1, h2, rfl, h4⟩, Back.here cntL⟩
  · clear ho'
    refine pn ?_
    obtain ⟨hok, rfl⟩ := hR
    exact ⟨b4, b5, #[.slice none 0 0], #[.bool false], β' ++ [(b2, (Value.agg (List.toArray [.slice o.ap o.n o.cp, .slice o.ad o.ds.length o.cd])).cells, 73)], [.slice none 0 0, .bool false], [], rfl, rfl, rfl, rfl,
      (show ∀ p, cnt p (β' ++ [(b5, #[.bool false], 4), (b4, #[.slice none 0 0], 79), (b2, (Value.agg (List.toArray [.slice o.ap o.n o.cp, .slice o.ad o.ds.length o.cd])).cells, 73)]) = cnt p ([(b4, #[.slice none 0 0], 79), (b5, #[.bool false], 4)] ++ (β' ++ [(b2, (Value.agg (List.toArray [.slice o.ap o.n o.cp, .slice o.ad o.ds.length o.cd])).cells, 73)])) from cntA),
      .cell rfl (by ((repeat (first | exact InB.head | apply InB.tail | (with_reducible apply InB.app))); done)) rfl (.cell rfl (by ((repeat (first | exact InB.head | apply InB.tail | (with_reducible apply InB.app))); done)) rfl .nil), .inr ⟨hok, rfl, rfl⟩, Back.here fun p => Nat.zero_le _⟩
end
end Go.Proofs.Ytbbaionoibkohaa
end
section
namespace Go.Pal
open Go Go.Conc View
section
variable {P : Program} {mn : Who}
theorem YieldX.imp {l : Nat} {xs : List Value} {J J' : View → Prop} {u : View} (h : YieldX P mn l xs J u) (hJ : ∀ w, J w → J' w) : YieldX P mn l xs J' u := by
  unfold YieldX at h ⊢
  refine semX_mono _ (fun nx w hK => ?_) (fun x w hE => hE) h
  cases nx with
  | round l f tmps assign body => exact RoundX.mono hK fun e w' hR => ⟨_, Le.refl _, hR.1, hJ _ hR.2⟩
  | _ => exact hK.elim
theorem YieldX.frame {l : Nat} {xs : List Value} {J : View → Prop} {u F : View} (h : YieldX P mn l xs J u) (hd : Disj u F) : YieldX P mn l xs (fun w => ∃ u1, w = u1.union F ∧ Disj u1 F ∧ J u1) (u.union F) := by
  unfold YieldX at h ⊢
  refine semX_mono _ (fun nx w hK => ?_) (fun x w hE => ?_) (semX_frame (F := F) _ h hd)
  · obtain ⟨u1, rfl, hd1, hK⟩ := hK
    cases nx with
    | round l f tmps assign body =>
      refine RoundX.mono (RoundX.frame hK hd1) fun e w' hR => ?_
      obtain ⟨u2, rfl, hd2, rfl, hJ2⟩ := hR
      exact ⟨_, Le.refl _, rfl, u2, rfl, hd2, hJ2⟩
    | _ => exact hK.elim
  · obtain ⟨u1, _, _, hE⟩ := hE
    exact hE.elim
theorem union_le_mono {u v F : View} (h : u.Le v) (hd : Disj v F) : (u.union F).Le (v.union F) := fun b x hx => by
  unfold View.union at hx ⊢
  cases hu : u b with
  | some y =>
    rw [hu] at hx
    simp only at hx
    rw [h b y hu]
    exact hx
  | none =>
    rw [hu] at hx
    simp only at hx
    have := (hd b).resolve_right (by rw [hx]; simp)
    rw [this]
    exact hx
theorem disj_le {u v F : View} (h : Disj v F) (hl : u.Le v) : Disj u F := fun b => (h b).imp (fun e => by
  cases hu : u b with
  | none => rfl
  | some x => rw [hl b x hu] at e; cases e) id
def Beside (I : Nat → View → Prop) (W : View) (s : Nat) (u : View) : Prop := ∃ u1, I s u1 ∧ Disj u1 W ∧ (u1.union W).Le u
theorem Beside.le {I : Nat → View → Prop} {W u w : View} {s : Nat} (h : Beside I W s u) (hl : u.Le w) : Beside I W s w := by
  obtain ⟨u1, h1, h2, h3⟩ := h
  exact ⟨u1, h1, h2, h3.trans hl⟩
theorem Beside.yield {I : Nat → View → Prop} {W u : View} {s s' l : Nat} {xs : List Value} {β : Boxes} (h : Beside I W s u) (hb : Bok β u)
    (hy : ∀ u1, I s u1 → Bok β u1 → YieldX P mn l xs (I s') (u1.union (bview β))) : YieldX P mn l xs (Beside I W s') (u.union (bview β)) := by
  obtain ⟨u1, h1, h2, h3⟩ := h
  have hdu : Disj u (bview β) := hb.disj
  have hb1 : Bok β u1 := ⟨hb.nodup, disj_le hdu ((union_le _ _).trans h3)⟩
  have hW : W.Le u := fun b x hx => h3 b x (by
    unfold View.union
    rw [(h2 b).resolve_right (by rw [hx]; simp)]
    exact hx)
  have hd2 : Disj (u1.union (bview β)) W := fun b => by
    cases hWb : W b with
    | none => exact .inr rfl
    | some x =>
      left
      have hn1 := (h2 b).resolve_right (by rw [hWb]; simp)
      have hn2 := (hdu b).resolve_left (by rw [hW b x hWb]; simp)
      unfold View.union
      rw [hn1]
      exact hn2
  have h4 := (hy u1 h1 hb1).frame hd2
  refine YieldX.le (fun u w hJ hl => Beside.le hJ hl) (u := (u1.union (bview β)).union W) ?_ ?_
  · refine YieldX.imp h4 fun w hw => ?_
    obtain ⟨u2, rfl, h5, h6⟩ := hw
    exact ⟨u2, h6, h5, Le.refl _⟩
  · intro b x hx
    unfold View.union at hx ⊢
    cases hub : u b with
    | some y =>
      simp only
      cases h1b : u1 b with
      | some z =>
        rw [h1b] at hx
        have := h3 b z (union_le _ _ _ _ h1b)
        rw [hub] at this
        simp only at hx
        rw [this]; exact hx
      | none =>
        rw [h1b] at hx
        simp only at hx
        have hbn := (hdu b).resolve_left (by rw [hub]; simp)
        rw [hbn] at hx
        simp only at hx
        have := hW b x hx
        rw [hub] at this
        exact this
    | none =>
      have h1b : u1 b = none := by
        cases h1b : u1 b with
        | none => rfl
        | some z => rw [h3 b z (union_le _ _ _ _ h1b)] at hub; cases hub
      rw [h1b] at hx
      simp only at hx ⊢
      cases hbb : bview β b with
      | some y => rw [hbb] at hx; simpa using hx
      | none =>
        rw [hbb] at hx
        simp only at hx
        rw [hW b x hx] at hub; cases hub
end
section
variable {P : Program} {mn : Who} {rd : Option Nat} {n : Nat} {Q : Exit → St → View → Prop} {ds : List Deferred} {ρ : Regs} {β : Boxes} {v : View} {K : St → View → Prop}
  {ops : Array Oper} {i : Nat} {d : Nat} {ty : TypeId} {pos : String} {af : Array Edge} {gu : Option (Nat × Bool)}
theorem A_callX {f : Operand} {args : Array Operand} {ats : Array TypeId} {k : FuncId} {first captured : Array Value} {xs ys : List Value} {R : Value → View → Prop} (bin rest : Boxes) (ho : ops[i]? = some ⟨some d, .call { callee := .value f, args := args, argTypes := ats }, ty, pos, af, gu⟩) (hk : Bodied P k) (hw : wantG ops gu ρ = some true) (hn : Nat.blt d n = true)
    (hf : ρ.val f = some (.func (.func k) first captured)) (hxs : allGet ρ.val args.toList = some xs) (hys : first.toList ++ (xs ++ captured.toList) = ys)
    (hsplit : ∀ p, cnt p β = cnt p (rest ++ bin)) (hc : Bok bin v → CallsX P mn k ys.toArray (fun e u => ∃ x, e = .ret x ∧ R x u) (v.union (bview bin)))
    (hr : ∀ x u, R x u → K ⟨ds, (d, x) :: ρ, rest⟩ u) : XOp P mn rd n ops i Q K ⟨ds, ρ, β⟩ v := by
  refine xop_sem ho (wantG_B hw) (.inr rfl) hn fun ev hev hbk => ?_
  have ha : args.map ev = xs.toArray := Array.toList_inj.1 (by simpa using allGet_map hev hxs)
  unfold execOp
  simp only [resolve, Deferred.ofValue, hev _ _ hf, ha, sx_bind, sx_pure, invoke]
  obtain ⟨hb1, he⟩ := bok_perm (perm_of_cnt hsplit) hbk
  obtain ⟨hb2, hb3⟩ := bok_append.1 hb1
  have hc' := (hc hb2).frame hb3.disj
  have hys' : first ++ xs.toArray ++ captured = ys.toArray := by rw [← hys]; apply Array.ext'; simp
  rw [← union_comm_boxes hb1, he, ← hys'] at hc'
  refine sx_callFunc hk (CallsX.mono hc' fun e w hR => ⟨w, Le.refl _, ?_⟩)
  obtain ⟨u, rfl, hd, x, rfl, hR⟩ := hR
  exact ⟨rest, u, ⟨⟨hb3.nodup, hd⟩, Le.refl _⟩, hr x u hR⟩
end
end Go.Pal
end
section
namespace Go.Proofs.Ytbbaionoibkohaa
open Go Go.Pal Go.Pal.Db Go.Conc View
open Go.Proofs.Try
set_option maxHeartbeats 4000000
def comb : Nat → List Pr → List (List Pr)
  | 0, _ => [[]]
  | _ + 1, [] => []
  | k + 1, x :: xs => (comb k xs).map (x :: ·) ++ comb (k + 1) xs
theorem comb_count : ∀ (k : Nat) (l : List Pr), (comb k l).length ≤ 2 ^ l.length
  | 0, l => by simp [comb, Nat.one_le_two_pow]
  | k + 1, [] => by simp [comb]
  | k + 1, x :: xs => by
    have h1 := comb_count k xs
    have h2 := comb_count (k + 1) xs
    rw [comb, List.length_append, List.length_map, List.length_cons, Nat.pow_succ]
    omega
def cntC (n : Nat) (N : List Int) (pre : List Pr) (k : Nat) (rest : List Pr) : Nat := ((comb k rest).filter fun c => okL n (pre ++ c) N).length
theorem cntC_cons {n : Nat} {N : List Int} {pre : List Pr} {k : Nat} {x : Pr} {xs : List Pr} : cntC n N pre (k + 1) (x :: xs) = cntC n N (pre ++ [x]) k xs + cntC n N pre (k + 1) xs := by
  unfold cntC
  rw [comb, List.filter_append, List.length_append, List.filter_map, List.length_map]
  congr 2
  refine List.filter_congr fun c _ => ?_
  simp [Function.comp, List.append_assoc]
theorem comb_mem : ∀ {l c : List Pr}, c.Sublist l → c ∈ comb c.length l
  | _, [], _ => by simp [comb]
  | x :: xs, c, .cons _ h => by
    cases c with
    | nil => simp [comb]
    | cons y c => rw [List.length_cons, comb, List.mem_append]; exact .inr (comb_mem h)
  | x :: xs, _, .cons_cons (l₁ := c) _ h => by
    rw [List.length_cons, comb, List.mem_append, List.mem_map]
    exact .inl ⟨c, comb_mem h, rfl⟩
abbrev capS (bm bo by_ ba bv bg : Nat) : List Value := [.pointer (some ⟨bm, 0, none⟩), .pointer (some ⟨bo, 0, none⟩), .pointer (some ⟨by_, 0, none⟩), .pointer (some ⟨ba, 0, none⟩), .pointer (some ⟨bv, 0, none⟩), .pointer (some ⟨bg, 0, none⟩)]
structure CapS (v : View) (o : Ow) (many lp bm bo by_ ba bv bg : Nat) : Prop where
  k0 : o.ok v
  km : ∃ p f, v bm = some (p, .cells (List.toArray [natV many]) 3 f)
  ko : ∃ p f, v bo = some (p, .cells (List.toArray [.slice o.ap o.n o.cp, .slice o.ad o.ds.length o.cd]) 73 f)
  ky : ∃ p f, v by_ = some (p, .cells (List.toArray [.func (.yield lp) #[] #[]]) 115 f)
  ka : ∃ p f aa ca, v ba = some (p, .cells (List.toArray [.slice aa (pairsOf o.n).length ca]) 116 f) ∧ RowAt v aa (prsC (pairsOf o.n))
  kv : ∃ p f, v bv = some (p, .cells (List.toArray [.int .u32 0]) 85 f)
  kg : ∃ p f, v bg = some (p, .cells (List.toArray [.func (.func 44) #[] (capS bm bo by_ ba bv bg).toArray]) 118 f)
theorem CapS.le {u w : View} {o : Ow} {many lp bm bo by_ ba bv bg : Nat} (h : CapS u o many lp bm bo by_ ba bv bg) (hl : u.Le w) : CapS w o many lp bm bo by_ ba bv bg := by
  obtain ⟨h0, ⟨p1, f1, h1⟩, ⟨p2, f2, h2⟩, ⟨p3, f3, h3⟩, ⟨p4, f4, aa, ca, h4, h5⟩, ⟨p6, f6, h6⟩, ⟨p7, f7, h7⟩⟩ := h
  exact ⟨h0.le hl, ⟨p1, f1, hl _ _ h1⟩, ⟨p2, f2, hl _ _ h2⟩, ⟨p3, f3, hl _ _ h3⟩, ⟨p4, f4, aa, ca, hl _ _ h4, h5.le hl⟩, ⟨p6, f6, hl _ _ h6⟩, ⟨p7, f7, hl _ _ h7⟩⟩
section
variable {mn : Who}
theorem set_x {o : Ow} {many lp bm bo by_ ba bv bg T : Nat} (hmany : many ≤ 3) : ∀ (k : Nat) (pre : List Pr) (I : Nat → View → Prop) (s : Nat) (u V0 : View) (i0 : Nat) (al : Option Addr) (cl : Nat),
    pre.length + k = many → i0 ≤ (pairsOf o.n).length → (∀ x ∈ pre, x.1 < x.2 ∧ x.2 < o.n) → pre.length ≤ cl → CapS V0 o many lp bm bo by_ ba bv bg → RowAt V0 al (prsC pre) →
    (∀ s u, I s u → V0.Le u) → (∀ s u w, I s u → u.Le w → I s w) → (∀ s u β p, s < T → I s u → Bok β u → OwnP β p many → YieldX Try.prog mn lp [p] (I (s + 1)) (u.union (bview β))) → s + cntC o.n (netsOf o.ds) pre k ((pairsOf o.n).drop i0) ≤ T → I s u →
    CallsX Try.prog mn 44 (List.toArray (.slice al pre.length cl :: natV i0 :: capS bm bo by_ ba bv bg)) (fun e u' => ∃ x, e = .ret x ∧ x = .bool true ∧ I (s + cntC o.n (netsOf o.ds) pre k ((pairsOf o.n).drop i0)) u') u := by
  intro k
  induction k with
  | zero =>
    intro pre I s u V0 i0 al cl hk hi0 hpr hcl hcap hrow hV hle hy hT hI
    have hu := hV _ _ hI
    obtain ⟨hok, ⟨p1, f1, h1⟩, ⟨p2, f2, h2⟩, ⟨p3, f3, h3⟩, _, _, _⟩ := hcap.le hu
    refine callsX_fn tab func44 rfl (Nat.le_of_ble_eq_true rfl) (args := [_, _, _, _, _, _, _, _]) ?_
    repeat' (first | refine cs ?_ | refine ss ?_ | (((with_reducible apply Q_box); (focus (exact rfl)); (focus (exact rfl)); (focus (exact rfl))); intro bx) | (((with_reducible apply Q_alloc tab); (focus (exact rfl)); (focus (exact rfl)); (focus (exact rfl))); intro bx) | refine S_do (by kernel_rfl) (A_storeN tab rfl rfl rfl rfl rfl rfl rfl (by ((repeat (first | exact InB.head | apply InB.tail | (with_reducible apply InB.app))); done)) (by exact rfl) (by ((repeat (first | exact SetB.head | apply SetB.tail | (with_reducible apply SetB.app))); done)) ⟨Le.refl _, (by (repeat (first | exact trivial | (apply And.intro; (focus (first | (apply Or.inr; (try dsimp only); ((repeat (first | exact InB.head | apply InB.tail | (with_reducible apply InB.app))); done)) | (apply Or.inl; kernel_rfl))))))), ?_⟩))
    refine Q_load tab rfl rfl rfl h1 (readB_one tab rfl rfl rfl rfl) ?_
    repeat' (first | refine cs ?_ | refine ss ?_ | (((with_reducible apply Q_box); (focus (exact rfl)); (focus (exact rfl)); (focus (exact rfl))); intro bx) | (((with_reducible apply Q_alloc tab); (focus (exact rfl)); (focus (exact rfl)); (focus (exact rfl))); intro bx) | refine S_do (by kernel_rfl) (A_storeN tab rfl rfl rfl rfl rfl rfl rfl (by ((repeat (first | exact InB.head | apply InB.tail | (with_reducible apply InB.app))); done)) (by exact rfl) (by ((repeat (first | exact SetB.head | apply SetB.tail | (with_reducible apply SetB.app))); done)) ⟨Le.refl _, (by (repeat (first | exact trivial | (apply And.intro; (focus (first | (apply Or.inr; (try dsimp only); ((repeat (first | exact InB.head | apply InB.tail | (with_reducible apply InB.app))); done)) | (apply Or.inl; kernel_rfl))))))), ?_⟩))
    rw [show ((pre.length : Int) == (many : Int)) = true from beq_iff_eq.2 (by omega)]
    repeat' (first | refine cs ?_ | refine ss ?_ | (((with_reducible apply Q_box); (focus (exact rfl)); (focus (exact rfl)); (focus (exact rfl))); intro bx) | (((with_reducible apply Q_alloc tab); (focus (exact rfl)); (focus (exact rfl)); (focus (exact rfl))); intro bx) | refine S_do (by kernel_rfl) (A_storeN tab rfl rfl rfl rfl rfl rfl rfl (by ((repeat (first | exact InB.head | apply InB.tail | (with_reducible apply InB.app))); done)) (by exact rfl) (by ((repeat (first | exact SetB.head | apply SetB.tail | (with_reducible apply SetB.app))); done)) ⟨Le.refl _, (by (repeat (first | exact trivial | (apply And.intro; (focus (first | (apply Or.inr; (try dsimp only); ((repeat (first | exact InB.head | apply InB.tail | (with_reducible apply InB.app))); done)) | (apply Or.inl; kernel_rfl))))))), ?_⟩))
    refine Q_load tab rfl rfl rfl h2 (readB_rec tab (x := [.slice o.ap o.n o.cp, .slice o.ad o.ds.length o.cd]) rfl rfl rfl ⟨Nat.le_refl _, rfl⟩) ?_
    repeat' (first | refine cs ?_ | refine ss ?_ | (((with_reducible apply Q_box); (focus (exact rfl)); (focus (exact rfl)); (focus (exact rfl))); intro bx) | (((with_reducible apply Q_alloc tab); (focus (exact rfl)); (focus (exact rfl)); (focus (exact rfl))); intro bx) | refine S_do (by kernel_rfl) (A_storeN tab rfl rfl rfl rfl rfl rfl rfl (by ((repeat (first | exact InB.head | apply InB.tail | (with_reducible apply InB.app))); done)) (by exact rfl) (by ((repeat (first | exact SetB.head | apply SetB.tail | (with_reducible apply SetB.app))); done)) ⟨Le.refl _, (by (repeat (first | exact trivial | (apply And.intro; (focus (first | (apply Or.inr; (try dsimp only); ((repeat (first | exact InB.head | apply InB.tail | (with_reducible apply InB.app))); done)) | (apply Or.inl; kernel_rfl))))))), ?_⟩))
    have hcz : cntC o.n (netsOf o.ds) pre 0 ((pairsOf o.n).drop i0) = if okL o.n pre (netsOf o.ds) then 1 else 0 := by
      unfold cntC
      rw [comb]
      cases h : okL o.n pre (netsOf o.ds) <;> simp [h]
    rw [hcz] at hT ⊢
    refine Q_op fun ho => A_callR [] _ ho bod45 rfl rfl rfl rfl rfl split0 (solved_x (hok.le (union_le _ _)) (by omega) hpr hcl ((hrow.le hu).le (union_le _ _))) (fun x β' hR => ?_)
    clear ho
    rcases hR with ⟨hok2, p, rfl, hO⟩ | ⟨hok2, rfl, rfl⟩
    · rw [hok2] at hT ⊢
      simp only [if_true] at hT
      repeat' (first | refine cs ?_ | refine ss ?_ | (((with_reducible apply Q_box); (focus (exact rfl)); (focus (exact rfl)); (focus (exact rfl))); intro bx) | (((with_reducible apply Q_alloc tab); (focus (exact rfl)); (focus (exact rfl)); (focus (exact rfl))); intro bx) | refine S_do (by kernel_rfl) (A_storeN tab rfl rfl rfl rfl rfl rfl rfl (by ((repeat (first | exact InB.head | apply InB.tail | (with_reducible apply InB.app))); done)) (by exact rfl) (by ((repeat (first | exact SetB.head | apply SetB.tail | (with_reducible apply SetB.app))); done)) ⟨Le.refl _, (by (repeat (first | exact trivial | (apply And.intro; (focus (first | (apply Or.inr; (try dsimp only); ((repeat (first | exact InB.head | apply InB.tail | (with_reducible apply InB.app))); done)) | (apply Or.inl; kernel_rfl))))))), ?_⟩))
      refine Q_retire (β1 := β') (β2 := []) (fun p => rfl) fun hbk => ?_
      refine Q_load tab rfl rfl rfl (union_le _ _ _ _ h3) (readB_one tab rfl rfl rfl rfl) ?_
      repeat' (first | refine cs ?_ | refine ss ?_ | (((with_reducible apply Q_box); (focus (exact rfl)); (focus (exact rfl)); (focus (exact rfl))); intro bx) | (((with_reducible apply Q_alloc tab); (focus (exact rfl)); (focus (exact rfl)); (focus (exact rfl))); intro bx) | refine S_do (by kernel_rfl) (A_storeN tab rfl rfl rfl rfl rfl rfl rfl (by ((repeat (first | exact InB.head | apply InB.tail | (with_reducible apply InB.app))); done)) (by exact rfl) (by ((repeat (first | exact SetB.head | apply SetB.tail | (with_reducible apply SetB.app))); done)) ⟨Le.refl _, (by (repeat (first | exact trivial | (apply And.intro; (focus (first | (apply Or.inr; (try dsimp only); ((repeat (first | exact InB.head | apply InB.tail | (with_reducible apply InB.app))); done)) | (apply Or.inl; kernel_rfl))))))), ?_⟩))
      refine Q_op fun ho => A_yield (by simp) ho rfl rfl rfl rfl (xs := [p]) (hy s u β' p (by omega) hI hbk (by rw [show many = pre.length by omega]; exact hO)) fun u' hJ => ?_
      clear ho
      repeat' (first | refine cs ?_ | refine ss ?_ | (((with_reducible apply Q_box); (focus (exact rfl)); (focus (exact rfl)); (focus (exact rfl))); intro bx) | (((with_reducible apply Q_alloc tab); (focus (exact rfl)); (focus (exact rfl)); (focus (exact rfl))); intro bx) | refine S_do (by kernel_rfl) (A_storeN tab rfl rfl rfl rfl rfl rfl rfl (by ((repeat (first | exact InB.head | apply InB.tail | (with_reducible apply InB.app))); done)) (by exact rfl) (by ((repeat (first | exact SetB.head | apply SetB.tail | (with_reducible apply SetB.app))); done)) ⟨Le.refl _, (by (repeat (first | exact trivial | (apply And.intro; (focus (first | (apply Or.inr; (try dsimp only); ((repeat (first | exact InB.head | apply InB.tail | (with_reducible apply InB.app))); done)) | (apply Or.inl; kernel_rfl))))))), ?_⟩))
      exact ⟨rfl, [_], rfl, _, rfl, rfl, hJ⟩
    · rw [hok2]
      repeat' (first | refine cs ?_ | refine ss ?_ | (((with_reducible apply Q_box); (focus (exact rfl)); (focus (exact rfl)); (focus (exact rfl))); intro bx) | (((with_reducible apply Q_alloc tab); (focus (exact rfl)); (focus (exact rfl)); (focus (exact rfl))); intro bx) | refine S_do (by kernel_rfl) (A_storeN tab rfl rfl rfl rfl rfl rfl rfl (by ((repeat (first | exact InB.head | apply InB.tail | (with_reducible apply InB.app))); done)) (by exact rfl) (by ((repeat (first | exact SetB.head | apply SetB.tail | (with_reducible apply SetB.app))); done)) ⟨Le.refl _, (by (repeat (first | exact trivial | (apply And.intro; (focus (first | (apply Or.inr; (try dsimp only); ((repeat (first | exact InB.head | apply InB.tail | (with_reducible apply InB.app))); done)) | (apply Or.inl; kernel_rfl))))))), ?_⟩))
      exact ⟨rfl, [_], rfl, _, rfl, rfl, hI⟩
  | succ k ih =>
    intro pre I s u V0 i0 al cl hk hi0 hpr hcl hcap hrow hV hle hy hT hI
    obtain ⟨hok, ⟨p1, f1, h1⟩, ⟨p2, f2, h2⟩, ⟨p3, f3, h3⟩, ⟨p4, f4, aa, ca, h4, h5⟩, ⟨p6, f6, h6⟩, ⟨p7, f7, h7⟩⟩ := hcap
    have hn := hok.n
    have hpl := pairs_len hn.2
    obtain ⟨A, hA⟩ : ∃ A, A = pairsOf o.n := ⟨_, rfl⟩
    rw [← hA] at hi0 h4 h5 hpl hT ⊢
    refine callsX_fn tab func44 rfl (Nat.le_of_ble_eq_true rfl) (args := [_, _, _, _, _, _, _, _]) ?_
    repeat' (first | refine cs ?_ | refine ss ?_ | (((with_reducible apply Q_box); (focus (exact rfl)); (focus (exact rfl)); (focus (exact rfl))); intro bx) | (((with_reducible apply Q_alloc tab); (focus (exact rfl)); (focus (exact rfl)); (focus (exact rfl))); intro bx) | refine S_do (by kernel_rfl) (A_storeN tab rfl rfl rfl rfl rfl rfl rfl (by ((repeat (first | exact InB.head | apply InB.tail | (with_reducible apply InB.app))); done)) (by exact rfl) (by ((repeat (first | exact SetB.head | apply SetB.tail | (with_reducible apply SetB.app))); done)) ⟨Le.refl _, (by (repeat (first | exact trivial | (apply And.intro; (focus (first | (apply Or.inr; (try dsimp only); ((repeat (first | exact InB.head | apply InB.tail | (with_reducible apply InB.app))); done)) | (apply Or.inl; kernel_rfl))))))), ?_⟩))
    refine Q_load tab rfl rfl rfl (hV _ _ hI _ _ h1) (readB_one tab rfl rfl rfl rfl) ?_
    repeat' (first | refine cs ?_ | refine ss ?_ | (((with_reducible apply Q_box); (focus (exact rfl)); (focus (exact rfl)); (focus (exact rfl))); intro bx) | (((with_reducible apply Q_alloc tab); (focus (exact rfl)); (focus (exact rfl)); (focus (exact rfl))); intro bx) | refine S_do (by kernel_rfl) (A_storeN tab rfl rfl rfl rfl rfl rfl rfl (by ((repeat (first | exact InB.head | apply InB.tail | (with_reducible apply InB.app))); done)) (by exact rfl) (by ((repeat (first | exact SetB.head | apply SetB.tail | (with_reducible apply SetB.app))); done)) ⟨Le.refl _, (by (repeat (first | exact trivial | (apply And.intro; (focus (first | (apply Or.inr; (try dsimp only); ((repeat (first | exact InB.head | apply InB.tail | (with_reducible apply InB.app))); done)) | (apply Or.inl; kernel_rfl))))))), ?_⟩))
    rw [show ((pre.length : Int) == (many : Int)) = false from beq_eq_false_iff_ne.2 (by omega)]
    repeat' (first | refine cs ?_ | refine ss ?_ | (((with_reducible apply Q_box); (focus (exact rfl)); (focus (exact rfl)); (focus (exact rfl))); intro bx) | (((with_reducible apply Q_alloc tab); (focus (exact rfl)); (focus (exact rfl)); (focus (exact rfl))); intro bx) | refine S_do (by kernel_rfl) (A_storeN tab rfl rfl rfl rfl rfl rfl rfl (by ((repeat (first | exact InB.head | apply InB.tail | (with_reducible apply InB.app))); done)) (by exact rfl) (by ((repeat (first | exact SetB.head | apply SetB.tail | (with_reducible apply SetB.app))); done)) ⟨Le.refl _, (by (repeat (first | exact trivial | (apply And.intro; (focus (first | (apply Or.inr; (try dsimp only); ((repeat (first | exact InB.head | apply InB.tail | (with_reducible apply InB.app))); done)) | (apply Or.inl; kernel_rfl))))))), ?_⟩))
    refine C_loop (α := Nat × Nat) (fun z => ⟨[], [(13, .int .i64 z.1), (0, .slice al pre.length cl), (2, .pointer (some ⟨bm, 0, none⟩)), (3, .pointer (some ⟨bo, 0, none⟩)), (4, .pointer (some ⟨by_, 0, none⟩)), (5, .pointer (some ⟨ba, 0, none⟩)), (6, .pointer (some ⟨bv, 0, none⟩)), (7, .pointer (some ⟨bg, 0, none⟩))], []⟩)
      (fun z w => I z.2 w ∧ z.1 ≤ A.length ∧ z.2 + cntC o.n (netsOf o.ds) pre (k + 1) (A.drop z.1) = s + cntC o.n (netsOf o.ds) pre (k + 1) (A.drop i0)) (fun z => A.length - z.1) (i0, s) ⟨rfl, (by (repeat (first | exact trivial | refine ⟨rfl, ?_⟩))), cntL⟩ (Le.refl _) ⟨hI, hi0, rfl⟩ ?_
    rintro ⟨i, s1⟩ w ⟨hI1, hi, hs1⟩
    simp only at hI1 hi hs1
    dsimp only
    have hw := hV _ _ hI1
    repeat' (first | refine cs ?_ | refine ss ?_ | (((with_reducible apply Q_box); (focus (exact rfl)); (focus (exact rfl)); (focus (exact rfl))); intro bx) | (((with_reducible apply Q_alloc tab); (focus (exact rfl)); (focus (exact rfl)); (focus (exact rfl))); intro bx) | refine S_do (by kernel_rfl) (A_storeN tab rfl rfl rfl rfl rfl rfl rfl (by ((repeat (first | exact InB.head | apply InB.tail | (with_reducible apply InB.app))); done)) (by exact rfl) (by ((repeat (first | exact SetB.head | apply SetB.tail | (with_reducible apply SetB.app))); done)) ⟨Le.refl _, (by (repeat (first | exact trivial | (apply And.intro; (focus (first | (apply Or.inr; (try dsimp only); ((repeat (first | exact InB.head | apply InB.tail | (with_reducible apply InB.app))); done)) | (apply Or.inl; kernel_rfl))))))), ?_⟩))
    refine Q_load tab rfl rfl rfl (hw _ _ h4) (readB_one tab rfl rfl rfl rfl) ?_
    repeat' (first | refine cs ?_ | refine ss ?_ | (((with_reducible apply Q_box); (focus (exact rfl)); (focus (exact rfl)); (focus (exact rfl))); intro bx) | (((with_reducible apply Q_alloc tab); (focus (exact rfl)); (focus (exact rfl)); (focus (exact rfl))); intro bx) | refine S_do (by kernel_rfl) (A_storeN tab rfl rfl rfl rfl rfl rfl rfl (by ((repeat (first | exact InB.head | apply InB.tail | (with_reducible apply InB.app))); done)) (by exact rfl) (by ((repeat (first | exact SetB.head | apply SetB.tail | (with_reducible apply SetB.app))); done)) ⟨Le.refl _, (by (repeat (first | exact trivial | (apply And.intro; (focus (first | (apply Or.inr; (try dsimp only); ((repeat (first | exact InB.head | apply InB.tail | (with_reducible apply InB.app))); done)) | (apply Or.inl; kernel_rfl))))))), ?_⟩))
    refine XC_cond rfl (fun h => ?_) (fun h => ?_)
    · (simp only [decide_eq_true_eq, decide_eq_false_iff_not, beq_iff_eq, bne_iff_ne, Bool.not_eq_true', beq_eq_false_iff_ne, bne_eq_false_iff_eq, ne_eq] at h)
      have hlt : i < A.length := by omega
      clear h
      obtain ⟨bl, offl, pl, c, e, f, rfl, hvl, hcl'⟩ := prs_get h5 (by omega)
      obtain ⟨hrec, ha, hb⟩ := hcl' i hlt
      have hpi := pairs_mem (n := o.n) (x := A[i]) (by rw [← hA]; exact List.getElem_mem hlt)
      have hdrop : A.drop i = A[i] :: A.drop (i + 1) := List.drop_eq_getElem_cons hlt
      rw [hdrop, cntC_cons] at hs1
      repeat' (first | refine cs ?_ | refine ss ?_ | (((with_reducible apply Q_box); (focus (exact rfl)); (focus (exact rfl)); (focus (exact rfl))); intro bx) | (((with_reducible apply Q_alloc tab); (focus (exact rfl)); (focus (exact rfl)); (focus (exact rfl))); intro bx) | refine S_do (by kernel_rfl) (A_storeN tab rfl rfl rfl rfl rfl rfl rfl (by ((repeat (first | exact InB.head | apply InB.tail | (with_reducible apply InB.app))); done)) (by exact rfl) (by ((repeat (first | exact SetB.head | apply SetB.tail | (with_reducible apply SetB.app))); done)) ⟨Le.refl _, (by (repeat (first | exact trivial | (apply And.intro; (focus (first | (apply Or.inr; (try dsimp only); ((repeat (first | exact InB.head | apply InB.tail | (with_reducible apply InB.app))); done)) | (apply Or.inl; kernel_rfl))))))), ?_⟩))
      refine lexL mixed rfl (by kernel_rfl) ?_
      repeat' (first | refine cs ?_ | refine ss ?_ | (((with_reducible apply Q_box); (focus (exact rfl)); (focus (exact rfl)); (focus (exact rfl))); intro bx) | (((with_reducible apply Q_alloc tab); (focus (exact rfl)); (focus (exact rfl)); (focus (exact rfl))); intro bx) | refine S_do (by kernel_rfl) (A_storeN tab rfl rfl rfl rfl rfl rfl rfl (by ((repeat (first | exact InB.head | apply InB.tail | (with_reducible apply InB.app))); done)) (by exact rfl) (by ((repeat (first | exact SetB.head | apply SetB.tail | (with_reducible apply SetB.app))); done)) ⟨Le.refl _, (by (repeat (first | exact trivial | (apply And.intro; (focus (first | (apply Or.inr; (try dsimp only); ((repeat (first | exact InB.head | apply InB.tail | (with_reducible apply InB.app))); done)) | (apply Or.inl; kernel_rfl))))))), ?_⟩))
      refine L_load tab rfl rfl rfl (hw _ _ h6) (readB_one tab rfl rfl rfl rfl) ?_
      repeat' (first | refine cs ?_ | refine ss ?_ | (((with_reducible apply Q_box); (focus (exact rfl)); (focus (exact rfl)); (focus (exact rfl))); intro bx) | (((with_reducible apply Q_alloc tab); (focus (exact rfl)); (focus (exact rfl)); (focus (exact rfl))); intro bx) | refine S_do (by kernel_rfl) (A_storeN tab rfl rfl rfl rfl rfl rfl rfl (by ((repeat (first | exact InB.head | apply InB.tail | (with_reducible apply InB.app))); done)) (by exact rfl) (by ((repeat (first | exact SetB.head | apply SetB.tail | (with_reducible apply SetB.app))); done)) ⟨Le.refl _, (by (repeat (first | exact trivial | (apply And.intro; (focus (first | (apply Or.inr; (try dsimp only); ((repeat (first | exact InB.head | apply InB.tail | (with_reducible apply InB.app))); done)) | (apply Or.inl; kernel_rfl))))))), ?_⟩))
      refine L_load tab rfl rfl rfl (hw _ _ h4) (readB_one tab rfl rfl rfl rfl) ?_
      repeat' (first | refine cs ?_ | refine ss ?_ | (((with_reducible apply Q_box); (focus (exact rfl)); (focus (exact rfl)); (focus (exact rfl))); intro bx) | (((with_reducible apply Q_alloc tab); (focus (exact rfl)); (focus (exact rfl)); (focus (exact rfl))); intro bx) | refine S_do (by kernel_rfl) (A_storeN tab rfl rfl rfl rfl rfl rfl rfl (by ((repeat (first | exact InB.head | apply InB.tail | (with_reducible apply InB.app))); done)) (by exact rfl) (by ((repeat (first | exact SetB.head | apply SetB.tail | (with_reducible apply SetB.app))); done)) ⟨Le.refl _, (by (repeat (first | exact trivial | (apply And.intro; (focus (first | (apply Or.inr; (try dsimp only); ((repeat (first | exact InB.head | apply InB.tail | (with_reducible apply InB.app))); done)) | (apply Or.inl; kernel_rfl))))))), ?_⟩))
      refine L_elem tab i rfl rfl rfl rfl rfl rfl rfl hlt ?_
      repeat' (first | refine cs ?_ | refine ss ?_ | (((with_reducible apply Q_box); (focus (exact rfl)); (focus (exact rfl)); (focus (exact rfl))); intro bx) | (((with_reducible apply Q_alloc tab); (focus (exact rfl)); (focus (exact rfl)); (focus (exact rfl))); intro bx) | refine S_do (by kernel_rfl) (A_storeN tab rfl rfl rfl rfl rfl rfl rfl (by ((repeat (first | exact InB.head | apply InB.tail | (with_reducible apply InB.app))); done)) (by exact rfl) (by ((repeat (first | exact SetB.head | apply SetB.tail | (with_reducible apply SetB.app))); done)) ⟨Le.refl _, (by (repeat (first | exact trivial | (apply And.intro; (focus (first | (apply Or.inr; (try dsimp only); ((repeat (first | exact InB.head | apply InB.tail | (with_reducible apply InB.app))); done)) | (apply Or.inl; kernel_rfl))))))), ?_⟩))
      refine L_load tab rfl rfl rfl (hw _ _ hvl) (readB_one tab rfl rfl rfl ha) ?_
      repeat' (first | refine cs ?_ | refine ss ?_ | (((with_reducible apply Q_box); (focus (exact rfl)); (focus (exact rfl)); (focus (exact rfl))); intro bx) | (((with_reducible apply Q_alloc tab); (focus (exact rfl)); (focus (exact rfl)); (focus (exact rfl))); intro bx) | refine S_do (by kernel_rfl) (A_storeN tab rfl rfl rfl rfl rfl rfl rfl (by ((repeat (first | exact InB.head | apply InB.tail | (with_reducible apply InB.app))); done)) (by exact rfl) (by ((repeat (first | exact SetB.head | apply SetB.tail | (with_reducible apply SetB.app))); done)) ⟨Le.refl _, (by (repeat (first | exact trivial | (apply And.intro; (focus (first | (apply Or.inr; (try dsimp only); ((repeat (first | exact InB.head | apply InB.tail | (with_reducible apply InB.app))); done)) | (apply Or.inl; kernel_rfl))))))), ?_⟩))
      refine L_load tab rfl rfl rfl (hw _ _ h4) (readB_one tab rfl rfl rfl rfl) ?_
      repeat' (first | refine cs ?_ | refine ss ?_ | (((with_reducible apply Q_box); (focus (exact rfl)); (focus (exact rfl)); (focus (exact rfl))); intro bx) | (((with_reducible apply Q_alloc tab); (focus (exact rfl)); (focus (exact rfl)); (focus (exact rfl))); intro bx) | refine S_do (by kernel_rfl) (A_storeN tab rfl rfl rfl rfl rfl rfl rfl (by ((repeat (first | exact InB.head | apply InB.tail | (with_reducible apply InB.app))); done)) (by exact rfl) (by ((repeat (first | exact SetB.head | apply SetB.tail | (with_reducible apply SetB.app))); done)) ⟨Le.refl _, (by (repeat (first | exact trivial | (apply And.intro; (focus (first | (apply Or.inr; (try dsimp only); ((repeat (first | exact InB.head | apply InB.tail | (with_reducible apply InB.app))); done)) | (apply Or.inl; kernel_rfl))))))), ?_⟩))
      refine L_elem tab i rfl rfl rfl rfl rfl rfl rfl hlt ?_
      repeat' (first | refine cs ?_ | refine ss ?_ | (((with_reducible apply Q_box); (focus (exact rfl)); (focus (exact rfl)); (focus (exact rfl))); intro bx) | (((with_reducible apply Q_alloc tab); (focus (exact rfl)); (focus (exact rfl)); (focus (exact rfl))); intro bx) | refine S_do (by kernel_rfl) (A_storeN tab rfl rfl rfl rfl rfl rfl rfl (by ((repeat (first | exact InB.head | apply InB.tail | (with_reducible apply InB.app))); done)) (by exact rfl) (by ((repeat (first | exact SetB.head | apply SetB.tail | (with_reducible apply SetB.app))); done)) ⟨Le.refl _, (by (repeat (first | exact trivial | (apply And.intro; (focus (first | (apply Or.inr; (try dsimp only); ((repeat (first | exact InB.head | apply InB.tail | (with_reducible apply InB.app))); done)) | (apply Or.inl; kernel_rfl))))))), ?_⟩))
      refine L_load tab rfl rfl rfl (hw _ _ hvl) (readB_one tab rfl rfl rfl hb) ?_
      repeat' (first | refine cs ?_ | refine ss ?_ | (((with_reducible apply Q_box); (focus (exact rfl)); (focus (exact rfl)); (focus (exact rfl))); intro bx) | (((with_reducible apply Q_alloc tab); (focus (exact rfl)); (focus (exact rfl)); (focus (exact rfl))); intro bx) | refine S_do (by kernel_rfl) (A_storeN tab rfl rfl rfl rfl rfl rfl rfl (by ((repeat (first | exact InB.head | apply InB.tail | (with_reducible apply InB.app))); done)) (by exact rfl) (by ((repeat (first | exact SetB.head | apply SetB.tail | (with_reducible apply SetB.app))); done)) ⟨Le.refl _, (by (repeat (first | exact trivial | (apply And.intro; (focus (first | (apply Or.inr; (try dsimp only); ((repeat (first | exact InB.head | apply InB.tail | (with_reducible apply InB.app))); done)) | (apply Or.inl; kernel_rfl))))))), ?_⟩))
      refine L_ret1 bod46 rfl rfl rfl rfl rfl (has_x hpi.1 (by omega)) ?_
      repeat' (first | refine cs ?_ | refine ss ?_ | (((with_reducible apply Q_box); (focus (exact rfl)); (focus (exact rfl)); (focus (exact rfl))); intro bx) | (((with_reducible apply Q_alloc tab); (focus (exact rfl)); (focus (exact rfl)); (focus (exact rfl))); intro bx) | refine S_do (by kernel_rfl) (A_storeN tab rfl rfl rfl rfl rfl rfl rfl (by ((repeat (first | exact InB.head | apply InB.tail | (with_reducible apply InB.app))); done)) (by exact rfl) (by ((repeat (first | exact SetB.head | apply SetB.tail | (with_reducible apply SetB.app))); done)) ⟨Le.refl _, (by (repeat (first | exact trivial | (apply And.intro; (focus (first | (apply Or.inr; (try dsimp only); ((repeat (first | exact InB.head | apply InB.tail | (with_reducible apply InB.app))); done)) | (apply Or.inl; kernel_rfl))))))), ?_⟩))
      refine S_start0 (v0 := V0) [11, 12, 15] [0, 1, 2, 3, 4, 5, 7, 8, 9, 10, 13, 14, 6, 11, 12, 15, 16] rfl mixed (by kernel_rfl) hw ?_
      repeat' (first | refine cs ?_ | refine ss ?_ | (((with_reducible apply Q_box); (focus (exact rfl)); (focus (exact rfl)); (focus (exact rfl))); intro bx) | (((with_reducible apply Q_alloc tab); (focus (exact rfl)); (focus (exact rfl)); (focus (exact rfl))); intro bx) | refine S_do (by kernel_rfl) (A_storeN tab rfl rfl rfl rfl rfl rfl rfl (by ((repeat (first | exact InB.head | apply InB.tail | (with_reducible apply InB.app))); done)) (by exact rfl) (by ((repeat (first | exact SetB.head | apply SetB.tail | (with_reducible apply SetB.app))); done)) ⟨Le.refl _, (by (repeat (first | exact trivial | (apply And.intro; (focus (first | (apply Or.inr; (try dsimp only); ((repeat (first | exact InB.head | apply InB.tail | (with_reducible apply InB.app))); done)) | (apply Or.inl; kernel_rfl))))))), ?_⟩))
      refine S_load tab rfl rfl rfl (by kernel_rfl) rfl h7 (readB_one tab rfl rfl rfl rfl) ?_
      repeat' (first | refine cs ?_ | refine ss ?_ | (((with_reducible apply Q_box); (focus (exact rfl)); (focus (exact rfl)); (focus (exact rfl))); intro bx) | (((with_reducible apply Q_alloc tab); (focus (exact rfl)); (focus (exact rfl)); (focus (exact rfl))); intro bx) | refine S_do (by kernel_rfl) (A_storeN tab rfl rfl rfl rfl rfl rfl rfl (by ((repeat (first | exact InB.head | apply InB.tail | (with_reducible apply InB.app))); done)) (by exact rfl) (by ((repeat (first | exact SetB.head | apply SetB.tail | (with_reducible apply SetB.app))); done)) ⟨Le.refl _, (by (repeat (first | exact trivial | (apply And.intro; (focus (first | (apply Or.inr; (try dsimp only); ((repeat (first | exact InB.head | apply InB.tail | (with_reducible apply InB.app))); done)) | (apply Or.inl; kernel_rfl))))))), ?_⟩))
      refine S_load tab rfl rfl rfl (by kernel_rfl) rfl h4 (readB_one tab rfl rfl rfl rfl) ?_
      repeat' (first | refine cs ?_ | refine ss ?_ | (((with_reducible apply Q_box); (focus (exact rfl)); (focus (exact rfl)); (focus (exact rfl))); intro bx) | (((with_reducible apply Q_alloc tab); (focus (exact rfl)); (focus (exact rfl)); (focus (exact rfl))); intro bx) | refine S_do (by kernel_rfl) (A_storeN tab rfl rfl rfl rfl rfl rfl rfl (by ((repeat (first | exact InB.head | apply InB.tail | (with_reducible apply InB.app))); done)) (by exact rfl) (by ((repeat (first | exact SetB.head | apply SetB.tail | (with_reducible apply SetB.app))); done)) ⟨Le.refl _, (by (repeat (first | exact trivial | (apply And.intro; (focus (first | (apply Or.inr; (try dsimp only); ((repeat (first | exact InB.head | apply InB.tail | (with_reducible apply InB.app))); done)) | (apply Or.inl; kernel_rfl))))))), ?_⟩))
      refine S_elem tab i rfl rfl rfl (by kernel_rfl) rfl rfl rfl rfl rfl hlt ?_
      refine S_load tab rfl rfl rfl (by kernel_rfl) rfl hvl (readB_rec tab (x := [natV A[i].1, natV A[i].2]) rfl rfl rfl hrec) ?_
      repeat' (first | refine cs ?_ | refine ss ?_ | (((with_reducible apply Q_box); (focus (exact rfl)); (focus (exact rfl)); (focus (exact rfl))); intro bx) | (((with_reducible apply Q_alloc tab); (focus (exact rfl)); (focus (exact rfl)); (focus (exact rfl))); intro bx) | refine S_do (by kernel_rfl) (A_storeN tab rfl rfl rfl rfl rfl rfl rfl (by ((repeat (first | exact InB.head | apply InB.tail | (with_reducible apply InB.app))); done)) (by exact rfl) (by ((repeat (first | exact SetB.head | apply SetB.tail | (with_reducible apply SetB.app))); done)) ⟨Le.refl _, (by (repeat (first | exact trivial | (apply And.intro; (focus (first | (apply Or.inr; (try dsimp only); ((repeat (first | exact InB.head | apply InB.tail | (with_reducible apply InB.app))); done)) | (apply Or.inl; kernel_rfl))))))), ?_⟩))
      refine S_slice_hm tab (h' := pre.length) (m := pre.length) rfl rfl rfl (by kernel_rfl) rfl rfl rfl rfl rfl hcl (Nat.le_refl _) ?_
      rw [row_same hrow (fun h0 e => h0 (by have := congrArg List.length e; rw [prs_len] at this; simp only [List.length_nil] at this; omega))]
      refine S_do (by kernel_rfl) (A_lit tab rfl rfl rfl rfl rfl rfl rfl rfl rfl rfl (fun b3 c3 hL => ⟨Le.refl _, ?_, ?_⟩))
      · (repeat (first | exact trivial | (apply And.intro; (focus (first | (apply Or.inr; (try dsimp only); ((repeat (first | exact InB.head | apply InB.tail | (with_reducible apply InB.app))); done)) | (apply Or.inl; kernel_rfl))))))
      repeat' (first | refine cs ?_ | refine ss ?_ | (((with_reducible apply Q_box); (focus (exact rfl)); (focus (exact rfl)); (focus (exact rfl))); intro bx) | (((with_reducible apply Q_alloc tab); (focus (exact rfl)); (focus (exact rfl)); (focus (exact rfl))); intro bx) | refine S_do (by kernel_rfl) (A_storeN tab rfl rfl rfl rfl rfl rfl rfl (by ((repeat (first | exact InB.head | apply InB.tail | (with_reducible apply InB.app))); done)) (by exact rfl) (by ((repeat (first | exact SetB.head | apply SetB.tail | (with_reducible apply SetB.app))); done)) ⟨Le.refl _, (by (repeat (first | exact trivial | (apply And.intro; (focus (first | (apply Or.inr; (try dsimp only); ((repeat (first | exact InB.head | apply InB.tail | (with_reducible apply InB.app))); done)) | (apply Or.inl; kernel_rfl))))))), ?_⟩))
      refine S_do (by kernel_rfl) (A_appendB tab (len := pre.length) (m := 1) (cs := prsC pre) (xs := prC A[i]) rfl rfl rfl rfl rfl rfl rfl rfl rfl rfl rfl
        (fun hb => (hrow.le hw).le (union_le _ _)) (prs_len _) (fun hb => RowAt.own hb cntL hL) rfl (by show pre.length - 0 < pre.length + 1; omega) (by show (2 * (pre.length + 1) + 768) * 16 ≤ 2 ^ 48; omega) (by omega) (fun b17 c17 cap17 hS17 => ⟨Le.refl _, ?_, ?_⟩))
      · (repeat (first | exact trivial | (apply And.intro; (focus (first | (apply Or.inr; (try dsimp only); ((repeat (first | exact InB.head | apply InB.tail | (with_reducible apply InB.app))); done)) | (apply Or.inl; kernel_rfl))))))
      repeat' (first | refine cs ?_ | refine ss ?_ | (((with_reducible apply Q_box); (focus (exact rfl)); (focus (exact rfl)); (focus (exact rfl))); intro bx) | (((with_reducible apply Q_alloc tab); (focus (exact rfl)); (focus (exact rfl)); (focus (exact rfl))); intro bx) | refine S_do (by kernel_rfl) (A_storeN tab rfl rfl rfl rfl rfl rfl rfl (by ((repeat (first | exact InB.head | apply InB.tail | (with_reducible apply InB.app))); done)) (by exact rfl) (by ((repeat (first | exact SetB.head | apply SetB.tail | (with_reducible apply SetB.app))); done)) ⟨Le.refl _, (by (repeat (first | exact trivial | (apply And.intro; (focus (first | (apply Or.inr; (try dsimp only); ((repeat (first | exact InB.head | apply InB.tail | (with_reducible apply InB.app))); done)) | (apply Or.inl; kernel_rfl))))))), ?_⟩))
      have hih : ∀ (N : Nat), (pre ++ [A[i]]).length = N → Bok [(b17, c17, 123)] w → CallsX Try.prog mn 44 (List.toArray (.slice (some ⟨b17, 0, none⟩) N cap17 :: natV (i + 1) :: capS bm bo by_ ba bv bg)) (fun e u' => ∃ x, e = .ret x ∧ x = .bool true ∧ Beside I (bview [(b17, c17, 123)]) (s1 + cntC o.n (netsOf o.ds) (pre ++ [A[i]]) k (A.drop (i + 1))) u') (w.union (bview [(b17, c17, 123)])) := by
        rintro N rfl hbb
        have hbV : Bok [(b17, c17, 123)] V0 := ⟨hbb.nodup, disj_le hbb.disj hw⟩
        have := ih (pre ++ [A[i]]) (Beside I (bview [(b17, c17, 123)])) s1 (w.union (bview [(b17, c17, 123)])) (V0.union (bview [(b17, c17, 123)])) (i + 1) (some ⟨b17, 0, none⟩) cap17
          (by simp; omega) (by rw [← hA]; omega) (fun x hx => by
            rcases List.mem_append.1 hx with h | h
            · exact hpr x h
            · rw [List.mem_singleton] at h; rw [h]; exact hpi) (by cases hS17; simp; omega)
          (CapS.le ⟨hok, ⟨p1, f1, h1⟩, ⟨p2, f2, h2⟩, ⟨p3, f3, h3⟩, ⟨p4, f4, _, ca, by rw [← hA]; exact h4, by rw [← hA]; exact h5⟩, ⟨p6, f6, h6⟩, ⟨p7, f7, h7⟩⟩ (union_le _ _))
          (by
            rw [show prsC (pre ++ [A[i]]) = prsC pre ++ prC A[i] from by simp [prsC]]
            exact RowAt.own hbV (fun _ => Nat.le_refl _) hS17)
          (fun s u hB => by
            obtain ⟨u1, g1, g2, g3⟩ := hB
            exact (union_le_mono (hV _ _ g1) g2).trans g3)
          (fun s u w hB hl => hB.le hl)
          (fun s u β p hs hB hbk hO => hB.yield hbk fun u1 g1 g2 => hy s u1 β p hs g1 g2 hO) (by rw [← hA]; omega)
          ⟨w, hI1, hbb.disj, Le.refl _⟩
        rw [← hA] at this
        exact this
      refine S_do0 (by kernel_rfl) (A_callX (R := fun x u' => x = .bool true ∧ Beside I (bview [(b17, c17, 123)]) (s1 + cntC o.n (netsOf o.ds) (pre ++ [A[i]]) k (A.drop (i + 1))) u') [(b17, c17, 123)] [(b3, c3, 123)] rfl bod44 rfl rfl rfl rfl rfl cntA (hih _ (by simp)) (fun x u hR => ?_))
      obtain ⟨rfl, u1, g1, g2, g3⟩ := hR
      have hu1 : u1.Le u := (union_le _ _).trans g3
      refine ⟨(hV _ _ g1).trans hu1, ?_, ?_⟩
      · (repeat (first | exact trivial | (apply And.intro; (focus (first | (apply Or.inr; (try dsimp only); ((repeat (first | exact InB.head | apply InB.tail | (with_reducible apply InB.app))); done)) | (apply Or.inl; kernel_rfl))))))
      repeat' (first | refine cs ?_ | refine ss ?_ | (((with_reducible apply Q_box); (focus (exact rfl)); (focus (exact rfl)); (focus (exact rfl))); intro bx) | (((with_reducible apply Q_alloc tab); (focus (exact rfl)); (focus (exact rfl)); (focus (exact rfl))); intro bx) | refine S_do (by kernel_rfl) (A_storeN tab rfl rfl rfl rfl rfl rfl rfl (by ((repeat (first | exact InB.head | apply InB.tail | (with_reducible apply InB.app))); done)) (by exact rfl) (by ((repeat (first | exact SetB.head | apply SetB.tail | (with_reducible apply SetB.app))); done)) ⟨Le.refl _, (by (repeat (first | exact trivial | (apply And.intro; (focus (first | (apply Or.inr; (try dsimp only); ((repeat (first | exact InB.head | apply InB.tail | (with_reducible apply InB.app))); done)) | (apply Or.inl; kernel_rfl))))))), ?_⟩))
      exact Loop_normal ⟨(i + 1, s1 + cntC o.n (netsOf o.ds) (pre ++ [A[i]]) k (A.drop (i + 1))), u, by simp only; omega, ⟨rfl, (by (repeat (first | exact trivial | refine ⟨rfl, ?_⟩))), cntL⟩, Le.refl _, hle _ _ _ g1 hu1, hlt, by simp only; omega⟩
    · (simp only [decide_eq_true_eq, decide_eq_false_iff_not, beq_iff_eq, bne_iff_ne, Bool.not_eq_true', beq_eq_false_iff_ne, bne_eq_false_iff_eq, ne_eq] at h)
      have hie : i = A.length := by omega
      subst hie
      rw [List.drop_length] at hs1
      repeat' (first | refine cs ?_ | refine ss ?_ | (((with_reducible apply Q_box); (focus (exact rfl)); (focus (exact rfl)); (focus (exact rfl))); intro bx) | (((with_reducible apply Q_alloc tab); (focus (exact rfl)); (focus (exact rfl)); (focus (exact rfl))); intro bx) | refine S_do (by kernel_rfl) (A_storeN tab rfl rfl rfl rfl rfl rfl rfl (by ((repeat (first | exact InB.head | apply InB.tail | (with_reducible apply InB.app))); done)) (by exact rfl) (by ((repeat (first | exact SetB.head | apply SetB.tail | (with_reducible apply SetB.app))); done)) ⟨Le.refl _, (by (repeat (first | exact trivial | (apply And.intro; (focus (first | (apply Or.inr; (try dsimp only); ((repeat (first | exact InB.head | apply InB.tail | (with_reducible apply InB.app))); done)) | (apply Or.inl; kernel_rfl))))))), ?_⟩))
      have h0 : cntC o.n (netsOf o.ds) pre (k + 1) [] = 0 := by simp [cntC, comb]
      rw [h0, Nat.add_zero] at hs1
      exact ⟨rfl, [_], rfl, _, rfl, rfl, hs1 ▸ hI1⟩
end
end Go.Proofs.Ytbbaionoibkohaa
end
section
namespace Go.Proofs.Ytbbaionoibkohaa
open Go Go.Pal Go.Pal.Db Go.Conc View
open Go.Proofs.Try
set_option maxHeartbeats 4000000
section
variable {mn : Who}
theorem settle_x {v : View} {o : Ow} {many : Nat} : CallsB Try.prog mn 36 #[o.val, natV many, .int .u32 0] (RetB fun r β' => ∃ b3 b4 b5, r = .func (.func 42) #[] #[.pointer (some ⟨b3, 0, none⟩), .pointer (some ⟨b4, 0, none⟩), .pointer (some ⟨b5, 0, none⟩)] ∧
    β' = [(b3, List.toArray [.slice o.ap o.n o.cp, .slice o.ad o.ds.length o.cd], 73), (b4, List.toArray [natV many], 3), (b5, List.toArray [.int .u32 0], 85)]) [] v := by
  refine callsB_fn tab func36 rfl (Nat.le_of_ble_eq_true rfl) (args := [.agg (List.toArray [.slice o.ap o.n o.cp, .slice o.ad o.ds.length o.cd]), natV many, .int .u32 0]) ?_
  repeat' (first | refine cs ?_ | refine ss ?_ | (((with_reducible apply Q_box); (focus (exact rfl)); (focus (exact rfl)); (focus (exact rfl))); intro bx) | (((with_reducible apply Q_alloc tab); (focus (exact rfl)); (focus (exact rfl)); (focus (exact rfl))); intro bx) | refine S_do (by kernel_rfl) (A_storeN tab rfl rfl rfl rfl rfl rfl rfl (by ((repeat (first | exact InB.head | apply InB.tail | (with_reducible apply InB.app))); done)) (by exact rfl) (by ((repeat (first | exact SetB.head | apply SetB.tail | (with_reducible apply SetB.app))); done)) ⟨Le.refl _, (by (repeat (first | exact trivial | (apply And.intro; (focus (first | (apply Or.inr; (try dsimp only); ((repeat (first | exact InB.head | apply InB.tail | (with_reducible apply InB.app))); done)) | (apply Or.inl; kernel_rfl))))))), ?_⟩))
  rename_i b3 b4
  obtain ⟨b5, rfl⟩ : ∃ b : Nat, b = bx := ⟨bx, rfl⟩
  refine Fn_ret tab [(b3, List.toArray [.slice o.ap o.n o.cp, .slice o.ad o.ds.length o.cd], 73), (b4, List.toArray [natV many], 3), (b5, List.toArray [.int .u32 0], 85)] (by exact .tmp rfl .nil)
    (Back.here (show Subm [(b3, List.toArray [.slice o.ap o.n o.cp, .slice o.ad o.ds.length o.cd], 73), (b4, List.toArray [natV many], 3), (b5, List.toArray [.int .u32 0], 85)] [(b5, List.toArray [.int .u32 0], 85), (b4, List.toArray [natV many], 3), (b3, List.toArray [.slice o.ap o.n o.cp, .slice o.ad o.ds.length o.cd], 73)] from cntL)) ?_
  exact ⟨b3, b4, b5, rfl, rfl⟩
theorem set1_x {o : Ow} {many lp b1 b2 b3 T : Nat} (hmany : many ≤ 3) {I : Nat → View → Prop} {s : Nat} {u V0 : View} (hok : o.ok V0)
    (h1 : ∃ p f, V0 b1 = some (p, .cells (List.toArray [.slice o.ap o.n o.cp, .slice o.ad o.ds.length o.cd]) 73 f)) (h2 : ∃ p f, V0 b2 = some (p, .cells (List.toArray [natV many]) 3 f)) (h3 : ∃ p f, V0 b3 = some (p, .cells (List.toArray [.int .u32 0]) 85 f))
    (hV : ∀ s u, I s u → V0.Le u) (hle : ∀ s u w, I s u → u.Le w → I s w) (hy : ∀ s u β p, s < T → I s u → Bok β u → OwnP β p many → YieldX Try.prog mn lp [p] (I (s + 1)) (u.union (bview β))) (hT : s + cntC o.n (netsOf o.ds) [] many (pairsOf o.n) ≤ T) (hI : I s u) :
    CallsX Try.prog mn 42 #[.func (.yield lp) #[] #[], .pointer (some ⟨b1, 0, none⟩), .pointer (some ⟨b2, 0, none⟩), .pointer (some ⟨b3, 0, none⟩)] (fun e u' => e = .ret (.tuple #[]) ∧ I (s + cntC o.n (netsOf o.ds) [] many (pairsOf o.n)) u') u := by
  have hu := hV _ _ hI
  obtain ⟨p1, f1, h1⟩ := h1
  obtain ⟨p2, f2, h2⟩ := h2
  obtain ⟨p3, f3, h3⟩ := h3
  have hn := hok.n
  refine callsX_fn tab func42 rfl (Nat.le_of_ble_eq_true rfl) (args := [_, _, _, _]) ?_
  repeat' (first | refine cs ?_ | refine ss ?_ | (((with_reducible apply Q_box); (focus (exact rfl)); (focus (exact rfl)); (focus (exact rfl))); intro bx) | (((with_reducible apply Q_alloc tab); (focus (exact rfl)); (focus (exact rfl)); (focus (exact rfl))); intro bx) | refine S_do (by kernel_rfl) (A_storeN tab rfl rfl rfl rfl rfl rfl rfl (by ((repeat (first | exact InB.head | apply InB.tail | (with_reducible apply InB.app))); done)) (by exact rfl) (by ((repeat (first | exact SetB.head | apply SetB.tail | (with_reducible apply SetB.app))); done)) ⟨Le.refl _, (by (repeat (first | exact trivial | (apply And.intro; (focus (first | (apply Or.inr; (try dsimp only); ((repeat (first | exact InB.head | apply InB.tail | (with_reducible apply InB.app))); done)) | (apply Or.inl; kernel_rfl))))))), ?_⟩))
  obtain ⟨b4, rfl⟩ : ∃ b : Nat, b = bx := ⟨bx, rfl⟩
  refine Q_load tab rfl rfl rfl (hu _ _ h1) (readB_rec tab (x := [.slice o.ap o.n o.cp, .slice o.ad o.ds.length o.cd]) rfl rfl rfl ⟨Nat.le_refl _, rfl⟩) ?_
  repeat' (first | refine cs ?_ | refine ss ?_ | (((with_reducible apply Q_box); (focus (exact rfl)); (focus (exact rfl)); (focus (exact rfl))); intro bx) | (((with_reducible apply Q_alloc tab); (focus (exact rfl)); (focus (exact rfl)); (focus (exact rfl))); intro bx) | refine S_do (by kernel_rfl) (A_storeN tab rfl rfl rfl rfl rfl rfl rfl (by ((repeat (first | exact InB.head | apply InB.tail | (with_reducible apply InB.app))); done)) (by exact rfl) (by ((repeat (first | exact SetB.head | apply SetB.tail | (with_reducible apply SetB.app))); done)) ⟨Le.refl _, (by (repeat (first | exact trivial | (apply And.intro; (focus (first | (apply Or.inr; (try dsimp only); ((repeat (first | exact InB.head | apply InB.tail | (with_reducible apply InB.app))); done)) | (apply Or.inl; kernel_rfl))))))), ?_⟩))
  refine Q_op fun ho => A_callR ([]) (_) ho bod43 rfl rfl rfl rfl rfl split0 (pairs_x ((hok.le hu).le (union_le _ _))) (fun x β' hR => ?_)
  clear ho
  obtain ⟨aa, ca, rfl, hS⟩ := hR
  repeat' (first | refine cs ?_ | refine ss ?_ | (((with_reducible apply Q_box); (focus (exact rfl)); (focus (exact rfl)); (focus (exact rfl))); intro bx) | (((with_reducible apply Q_alloc tab); (focus (exact rfl)); (focus (exact rfl)); (focus (exact rfl))); intro bx) | refine S_do (by kernel_rfl) (A_storeN tab rfl rfl rfl rfl rfl rfl rfl (by ((repeat (first | exact InB.head | apply InB.tail | (with_reducible apply InB.app))); done)) (by exact rfl) (by ((repeat (first | exact SetB.head | apply SetB.tail | (with_reducible apply SetB.app))); done)) ⟨Le.refl _, (by (repeat (first | exact trivial | (apply And.intro; (focus (first | (apply Or.inr; (try dsimp only); ((repeat (first | exact InB.head | apply InB.tail | (with_reducible apply InB.app))); done)) | (apply Or.inl; kernel_rfl))))))), ?_⟩))
  rename_i b5
  obtain ⟨b6, rfl⟩ : ∃ b : Nat, b = bx := ⟨bx, rfl⟩
  obtain ⟨bin, hbin⟩ : ∃ bin : Boxes, bin = [(b6, List.toArray [.func (.func 44) #[] (capS b2 b1 b4 b5 b3 b6).toArray], 118), (b5, List.toArray [.slice aa (pairsOf o.n).length ca], 116), (b4, List.toArray [.func (.yield lp) #[] #[]], 115)] ++ β' := ⟨_, rfl⟩
  refine Q_op fun ho => A_callX (R := fun x u' => x = .bool true ∧ Beside I (bview bin) (s + cntC o.n (netsOf o.ds) [] many (pairsOf o.n)) u') bin [] ho bod44 rfl rfl rfl rfl rfl
    (by rw [hbin]; exact show ∀ p, cnt p ((b6, List.toArray [.func (.func 44) #[] (capS b2 b1 b4 b5 b3 b6).toArray], 118) :: (b5, List.toArray [.slice aa (pairsOf o.n).length ca], 116) :: (β' ++ [(b4, List.toArray [.func (.yield lp) #[] #[]], 115)])) = cnt p ([] ++ ([(b6, List.toArray [.func (.func 44) #[] (capS b2 b1 b4 b5 b3 b6).toArray], 118), (b5, List.toArray [.slice aa (pairsOf o.n).length ca], 116), (b4, List.toArray [.func (.yield lp) #[] #[]], 115)] ++ β')) from cntA) (fun hbb => ?_) (fun x u' hR => ?_)
  · have hbV : Bok bin V0 := ⟨hbb.nodup, disj_le hbb.disj hu⟩
    refine set_x hmany many [] (Beside I (bview bin)) s (u.union (bview bin)) (V0.union (bview bin)) 0 none 0 (by simp) (Nat.zero_le _) (by simp) (Nat.le_refl _) ?_ (.inl rfl) ?_ (fun s u w hB hl => hB.le hl)
      (fun s u β p hs hB hbk hO => hB.yield hbk fun u1 g1 g2 => hy s u1 β p hs g1 g2 hO) (by rw [List.drop_zero]; exact hT) ⟨u, hI, hbb.disj, Le.refl _⟩
    · refine ⟨hok.le (union_le _ _), ⟨_, _, union_le _ _ _ _ h2⟩, ⟨_, _, union_le _ _ _ _ h1⟩, ⟨_, _, union_box hbV (by rw [hbin]; exact .tail (.tail .head))⟩, ⟨_, _, aa, ca, union_box hbV (by rw [hbin]; exact .tail .head), ?_⟩, ⟨_, _, union_le _ _ _ _ h3⟩, ⟨_, _, union_box hbV (by rw [hbin]; exact .head)⟩⟩
      exact RowAt.own hbV (by rw [hbin]; exact cntL) hS
    · rintro s u ⟨u1, g1, g2, g3⟩
      exact (union_le_mono (hV _ _ g1) g2).trans g3
  · clear ho
    obtain ⟨rfl, u1, g1, g2, g3⟩ := hR
    repeat' (first | refine cs ?_ | refine ss ?_ | (((with_reducible apply Q_box); (focus (exact rfl)); (focus (exact rfl)); (focus (exact rfl))); intro bx) | (((with_reducible apply Q_alloc tab); (focus (exact rfl)); (focus (exact rfl)); (focus (exact rfl))); intro bx) | refine S_do (by kernel_rfl) (A_storeN tab rfl rfl rfl rfl rfl rfl rfl (by ((repeat (first | exact InB.head | apply InB.tail | (with_reducible apply InB.app))); done)) (by exact rfl) (by ((repeat (first | exact SetB.head | apply SetB.tail | (with_reducible apply SetB.app))); done)) ⟨Le.refl _, (by (repeat (first | exact trivial | (apply And.intro; (focus (first | (apply Or.inr; (try dsimp only); ((repeat (first | exact InB.head | apply InB.tail | (with_reducible apply InB.app))); done)) | (apply Or.inl; kernel_rfl))))))), ?_⟩))
    exact ⟨rfl, [], rfl, rfl, hle _ _ _ g1 ((union_le _ _).trans g3)⟩
end
end Go.Proofs.Ytbbaionoibkohaa
end
