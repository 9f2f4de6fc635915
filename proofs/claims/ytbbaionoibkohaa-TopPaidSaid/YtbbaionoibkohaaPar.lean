/- Part 18 of the proof that stands in the last text. -/
import Derived.Test.YtbbaionoibkohaaPaq
set_option linter.all false
section
namespace Go.Pal
open Go Go.Conc View
section
variable {P : Program} {mn : Who} {rd : Option Nat} {ops : Array Oper} {J : Nat}
def AnyJ (P : Program) (mn : Who) (ops : Array Oper) (J : Nat) (K : Act → View → Prop) : Nat → Array Bool → Act → View → Prop
  | 0, listed, a, v => Region.ready .any ops listed = [J] ∧ K a v
  | fuel + 1, listed, a, v => Region.ready .any ops listed ≠ [] ∧ ∀ i ∈ Region.ready .any ops listed, i ≠ J ∧ OpM P mn ops i (AnyJ P mn ops J K fuel (listed.setIfInBounds i true)) a v
theorem anyJ_weaken {K : Act → View → Prop} (hK : ∀ a u v, View.Le u v → K a u → K a v) : ∀ (fuel : Nat) (listed : Array Bool) (a : Act) (u v : View), View.Le u v → AnyJ P mn ops J K fuel listed a u → AnyJ P mn ops J K fuel listed a v
  | 0, _, _, _, _, hl, h => ⟨h.1, hK _ _ _ hl h.2⟩
  | fuel + 1, listed, a, u, v, hl, h => ⟨h.1, fun i hi => ⟨(h.2 i hi).1, opM_weaken (fun a u v hl' hA => anyJ_weaken hK fuel _ a u v hl' hA) hl (h.2 i hi).2⟩⟩
theorem anyJ_first {K : Act → View → Prop} (hK : ∀ a u v, View.Le u v → K a u → K a v) {i : Nat} {oi : Oper} {x : Value} (hi : ops[i]? = some oi) (hsel : ∀ (j : Nat) (o : Oper) cs b, ops[j]? = some o → o.op ≠ .select cs b) (hJ : depB ops i ops.size J = true) (hiJ : i ≠ J) :
    ∀ (fuel : Nat) (listed : Array Bool) (a : Act) (v : View), Closed ops listed → listed.size = ops.size →
      (∀ j oj, ops[j]? = some oj → j ≠ i → listed.getD j true = false → (∀ e ∈ oj.after, Region.binds .any e = true → e.on ≠ i) → oi.apart ops oj = true) →
      i ∈ Region.ready .any ops listed → YieldsX P mn ops oi x a v →
      AnyJ P mn ops J K fuel (listed.setIfInBounds i true) (a.put oi.dst x) v → AnyJ P mn ops J K (fuel + 1) listed a v := by
  have notJ : ∀ {listed : Array Bool} {j : Nat}, Closed ops listed → listed.size = ops.size → i ∈ Region.ready .any ops listed → j ∈ Region.ready .any ops listed → j ≠ J := fun {listed j} hc hsz hr hj e => by
    subst e
    obtain ⟨_, oj, hoj, hall⟩ := mem_ready.1 hj
    have h1 := dep_listed hc hsz _ j oj hoj hall hJ
    have h0 := (mem_ready.1 hr).1
    rcases Nat.lt_or_ge i listed.size with h' | h'
    · simp [h'] at h0 h1; rw [h0] at h1; cases h1
    · simp [Array.getElem?_eq_none h'] at h1
  have hKK := fun fuel listed a u v hl hA => anyJ_weaken (P := P) (mn := mn) (ops := ops) (J := J) hK fuel listed a u v hl hA
  intro fuel
  induction fuel with
  | zero =>
    intro listed a v hc hsz _ hr hy H
    refine ⟨fun h => (by rw [h] at hr; cases hr), fun j hj => ⟨notJ hc hsz hr hj, ?_⟩⟩
    by_cases hji : j = i
    · subst hji; exact hy.opM hi (hKK 0 _) H
    · have := ready_mono hj hji
      rw [H.1] at this
      exact absurd (List.mem_singleton.1 this) (notJ hc hsz hr hj)
  | succ fuel ih =>
    intro listed a v hc hsz hfree hr hy H
    refine ⟨fun h => (by rw [h] at hr; cases hr), fun j hj => ⟨notJ hc hsz hr hj, ?_⟩⟩
    by_cases hji : j = i
    · subst hji; exact hy.opM hi (hKK _ _) H
    · have h1 := (H.2 j (ready_mono hj hji)).2
      obtain ⟨hjun, oj, hoj, hall⟩ := mem_ready.1 hj
      have hnot : ∀ e ∈ oj.after, Region.binds .any e = true → e.on ≠ i := fun e he hb heq => by
        have h1 := hall e he hb
        have h0 := (mem_ready.1 hr).1
        rw [heq] at h1
        rcases Nat.lt_or_ge i listed.size with h' | h'
        · simp [h'] at h0 h1; rw [h0] at h1; cases h1
        · simp [Array.getElem?_eq_none h'] at h1
      have h2 := opM_put hoj (hfree j oj hoj hji hjun hnot) (fun cs b => hsel i oi cs b hi) (fun cs b => hsel j oj cs b hoj) hy h1
      have hfree' : ∀ k ok, ops[k]? = some ok → k ≠ i → (listed.setIfInBounds j true).getD k true = false →
          (∀ e ∈ ok.after, Region.binds .any e = true → e.on ≠ i) → oi.apart ops ok = true := fun k ok hk hki hun hno => by
        refine hfree k ok hk hki ?_ hno
        by_cases hjk : j = k
        · subst hjk; exact hjun
        · rw [getD_set_ne true hjk] at hun; exact hun
      refine opM_mono (fun a' u _ h3 => ih (listed.setIfInBounds j true) a' u (closed_set hc hj hsz) (by simp [hsz]) hfree' (ready_mono hr (Ne.symm hji)) h3.1 ?_) h2
      rw [Array.setIfInBounds_comm _ _ hji]
      exact h3.2
section
variable {R : View → Goroutine → Prop} {b : Frame} {k : List Item} {cs : List Frame}
theorem opM_run {i : Nat} {rest : List Nat} {a : Act} {v : View} (hk : b.kind ≠ .early) (hd : ∀ o, ops[i]? = some o → isDefer o.op = false) (h : OpM P mn ops i (fun a' u => Run P mn R u (G (b.on a' (.inRegion ops rest :: k)) cs)) a v) : Run P mn R v (G (b.on a (.inRegion ops (i :: rest) :: k)) cs) := by
  unfold OpM at h
  split at h
  · rename_i ho
    refine Run.ctl rfl (g' := G (b.on a (.inRegion ops rest :: k)) cs) (fun w => ?_) h
    simp [G, stepG, stepG.exec, Frame.on, ho, Frame.finish]
  · rename_i o ho
    split at h
    · rename_i hw
      have hst := fun w => stepG_oper_on (P := P) (mn := mn) (b := b) (k := k) (cs := cs) (w := w) (rest := rest) ho hw (.inr (hd o ho))
      have hk' : ((b.on a (.inRegion ops (i :: rest) :: k)).kind == CallKind.early) = false := by simpa [Frame.on] using hk
      have hfin : ∀ x, (b.on a (.inRegion ops (i :: rest) :: k)).finish x = b.on (a.put o.dst x) (.inRegion ops rest :: k) := fun x => finish_on b a ops i rest k o x ho
      refine run_sem (m := execOp a.eval o) rfl h (fun nx v' hK => ?_) (fun x v' hE => hE.elim)
      cases nx with
      | value x =>
        refine ⟨G (b.on (a.put o.dst x) (.inRegion ops rest :: k)) cs, fun w w' es hrun => ⟨seen P b.fn es ++ #[], ?_, fun e he => mem_seen (by simpa using he)⟩, hK.2⟩
        rw [hst w, ← hfin x]
        unfold stepG.apply
        simp only [if_true, hrun, hk', Bool.false_eq_true, if_false]
        rfl
      | skip =>
        refine ⟨G (b.on (a.put o.dst undef) (.inRegion ops rest :: k)) cs, fun w w' es hrun => ⟨seen P b.fn es ++ #[], ?_, fun e he => mem_seen (by simpa using he)⟩, hK.2⟩
        rw [hst w, ← hfin undef]
        unfold stepG.apply
        simp only [if_true, hrun, hk', Bool.false_eq_true, if_false]
        rfl
      | enter f args =>
        refine ⟨G (Frame.enter P f args .normal) (b.on a (.inRegion ops (i :: rest) :: k) :: cs), fun w w' es hrun => ⟨seen P b.fn es ++ #[], ?_, fun e he => mem_seen (by simpa using he)⟩, ?_⟩
        · rw [hst w]
          unfold stepG.apply
          simp only [if_true, hrun, hk', Bool.false_eq_true, if_false]
          rfl
        · refine hK _ _ cs rfl fun e v'' hR => ?_
          cases e with
          | ret x => show Run _ _ _ _ (G (Frame.finish _ _) _); rw [hfin x]; exact hR.2
          | pan ch => exact hR.2.elim
      | _ => exact hK.elim
    · rename_i hw
      refine Run.ctl rfl (g' := G (b.on (a.put o.dst undef) (.inRegion ops rest :: k)) cs) (fun w => ?_) h
      rw [← finish_on b a ops i rest k o undef ho]
      simp [G, stepG, stepG.exec, Frame.on, ho, hw]
theorem anyJ_run {K : Act → View → Prop} (hk : b.kind ≠ .early) (hd : ∀ (i : Nat) o, ops[i]? = some o → isDefer o.op = false) (hK : ∀ a u, K a u → Run P mn R u (G (b.on a (.inRegion ops [J] :: k)) cs)) : ∀ (fuel t : Nat) (listed : Array Bool) (a : Act) (v : View), AnyJ P mn ops J K fuel listed a v →
    Run P mn R v (G (b.on a (.inRegion ops (Region.linearise.go .any ops (fuel + 1) t listed []) :: k)) cs) := by
  intro fuel
  induction fuel with
  | zero =>
    intro t listed a v h
    have e : Region.linearise.go .any ops (0 + 1) t listed [] = [J] := by
      simp only [Region.linearise.go]
      change (match (Region.ready .any ops listed)[t % (Region.ready .any ops listed).length]? with
        | some i => Region.linearise.go .any ops 0 (t / (Region.ready .any ops listed).length) (listed.setIfInBounds i true) [i]
        | none => [].reverse) = [J]
      rw [h.1]
      simp [Nat.mod_one, Region.linearise.go]
    rw [e]
    exact hK _ _ h.2
  | succ fuel ih =>
    intro t listed a v h
    obtain ⟨h₀, h₁⟩ := h
    rw [show Region.linearise.go .any ops (fuel + 1 + 1) t listed [] = (match (Region.ready .any ops listed)[t % (Region.ready .any ops listed).length]? with
      | some i => Region.linearise.go .any ops (fuel + 1) (t / (Region.ready .any ops listed).length) (listed.setIfInBounds i true) [i]
      | none => [].reverse) from by simp only [Region.linearise.go]; rfl]
    cases hi : (Region.ready .any ops listed)[t % (Region.ready .any ops listed).length]? with
    | none =>
      exfalso
      cases hr : Region.ready .any ops listed with
      | nil => exact h₀ hr
      | cons x xs =>
        rw [hr] at hi
        have hlt : t % (x :: xs).length < (x :: xs).length := Nat.mod_lt _ (by simp)
        rw [List.getElem?_eq_getElem hlt] at hi
        cases hi
    | some i =>
      simp only []
      rw [linearise_go_acc, List.reverse_singleton, List.singleton_append]
      exact opM_run hk (hd i) (opM_mono (fun a u _ hA => ih _ _ a u hA) (h₁ i (List.mem_of_getElem? hi)).2)
end
end
end Go.Pal
end
section
namespace Go.Pal
open Go Go.Conc View
section
variable {P : Program} {mn : Who} {ops : Array Oper} {J : Nat}
def lexMB (ops : Array Oper) (J : Nat) : Nat → Nat → Array Bool → Bool
  | 0, _, _ => true
  | n + 1, k, listed => (Region.ready .any ops listed).contains k && Region.free .any ops listed k && depB ops k ops.size J && !Nat.beq k J && lexMB ops J n (k + 1) (listed.setIfInBounds k true)
def setN : Nat → Nat → Array Bool → Array Bool
  | 0, _, listed => listed
  | n + 1, k, listed => setN n (k + 1) (listed.setIfInBounds k true)
theorem anyJ_lexM {K : Act → View → Prop} (hK : ∀ a u v, View.Le u v → K a u → K a v) (hs : Region.noSelect ops = true) (m : Nat) : ∀ (l : List Oper) (k : Nat) (listed : Array Bool) (a : Act) (v : View), Closed ops listed → listed.size = ops.size → (∀ j, j < l.length → l[j]? = ops[k + j]?) →
    lexMB ops J l.length k listed = true → LexX P mn ops (fun a u => AnyJ P mn ops J K m (setN l.length k listed) a u) l a v → AnyJ P mn ops J K (l.length + m) listed a v
  | [], _, _, _, _, _, _, _, _, h => by rw [List.length_nil, Nat.zero_add]; exact h
  | o :: l, k, listed, a, v, hc, hsz, hl, hB, h => by
    have h0 : ops[k]? = some o := by simpa using (hl 0 (by simp)).symm
    simp only [List.length_cons, lexMB, Bool.and_eq_true] at hB
    obtain ⟨⟨⟨⟨hr, hf⟩, hd⟩, hkJ⟩, hB'⟩ := hB
    have hr' : k ∈ Region.ready .any ops listed := by simpa using hr
    obtain ⟨x, hy, hA⟩ := h
    rw [List.length_cons, show l.length + 1 + m = (l.length + m) + 1 by omega]
    exact anyJ_first hK h0 (Region.noSelect_spec hs) hd (fun e => by subst e; simp at hkJ) (l.length + m) listed a v hc hsz (Region.free_spec h0 hf) hr' hy
      (anyJ_lexM hK hs m l (k + 1) _ _ _ (closed_set hc hr' hsz) (by simp [hsz]) (fun j hj => by have := hl (j + 1) (by simp; omega); simpa [Nat.add_assoc, Nat.add_comm 1 j] using this) hB' hA)
def XOpM (P : Program) (mn : Who) (n : Nat) (ops : Array Oper) (i : Nat) (K : St → View → Prop) (σ : St) (v : View) : Prop :=
  ∀ a, Fits n σ a → Bok σ.β v → OpM P mn ops i (fun a' w => KP n K a' w) a (v.union (bview σ.β))
def drawAJB (ops : Array Oper) (m : Nat) : Bool := Region.noSelect ops && lexMB ops (m + 1) m 0 (Array.replicate ops.size false) && (Region.ready .any ops (setN m 0 (Array.replicate ops.size false)) == [m]) && (Region.ready .any ops ((setN m 0 (Array.replicate ops.size false)).setIfInBounds m true) == [m + 1]) && Nat.beq (m + 2) ops.size && ops.all (fun o => !isDefer o.op)
theorem KP.le {n : Nat} {K : St → View → Prop} {a : Act} {u v : View} (h : KP n K a u) (hl : u.Le v) : KP n K a v := by
  obtain ⟨σ, u', h1, h2, h3, h4⟩ := h
  exact ⟨σ, u', h1, h2, h3, h4.trans hl⟩
theorem C_drawAJ {rd : Option Nat} {n : Nat} {Q : Exit → St → View → Prop} {ds : List Deferred} {ρ : Regs} {β : Boxes} {v : View} {id : Nat} (m : Nat) (hm : P.follows .mixedOrders = true) (hB : drawAJB ops m = true)
    (h : XL P mn n ops (fun _ σ u => XOpM P mn n ops m (fun σ' u' => XOp P mn rd n ops (m + 1) Q (fun σ'' u'' => XO P mn rd n ops [] Q σ'' u'') σ' u') σ u) (ops.toList.take m) ⟨ds, ρ, β⟩ v) : XC P mn rd n (.region id ops true) Q ⟨ds, ρ, β⟩ v := fun a hf hb => by
  obtain ⟨l, hl0⟩ : ∃ l, l = ops.toList.take m := ⟨_, rfl⟩
  simp only [drawAJB, Bool.and_eq_true] at hB
  obtain ⟨⟨⟨⟨⟨hb1, hb2⟩, hb3⟩, hb4⟩, hb5⟩, hb6⟩ := hB
  have hsz : m + 2 = ops.size := Nat.eq_of_beq_eq_true hb5
  have hlJ : l.length = m := by rw [hl0, List.length_take, Array.length_toList]; omega
  have hl : ops.toList.take l.length = l := by rw [hlJ, ← hl0]
  rw [← hl0] at h
  have hd : ∀ (i : Nat) o, ops[i]? = some o → isDefer o.op = false := fun i o ho => by
    have := Array.all_eq_true_iff_forall_mem.1 hb6 o (Array.mem_of_getElem? ho)
    simpa using this
  have hx := h a ⟨hf.size, hf.defers, hf.get⟩ hb
  have hx' : LexX P mn ops (fun a u => AnyJ P mn ops (m + 1) (fun a' u' => KP n (fun σ' u' => XOp P mn rd n ops (m + 1) Q (fun σ'' u'' => XO P mn rd n ops [] Q σ'' u'') σ' u') a' u') 1 (setN l.length 0 (Array.replicate ops.size false)) a u) l a (v.union (bview β)) := by
    have key : ∀ (l' : List Oper) (a : Act) (v : View), LexX P mn ops (fun a u => Post n (fun _ σ u => XOpM P mn n ops m (fun σ' u' => XOp P mn rd n ops (m + 1) Q (fun σ'' u'' => XO P mn rd n ops [] Q σ'' u'') σ' u') σ u) .normal a u) l' a v →
        LexX P mn ops (fun a u => AnyJ P mn ops (m + 1) (fun a' u' => KP n (fun σ' u' => XOp P mn rd n ops (m + 1) Q (fun σ'' u'' => XO P mn rd n ops [] Q σ'' u'') σ' u') a' u') 1 (setN l.length 0 (Array.replicate ops.size false)) a u) l' a v := by
      intro l'
      induction l' with
      | nil =>
        rintro a v ⟨σ, u, h1, h2, h3, h4⟩
        have hr1 := eq_of_beq hb3
        have hr2 := eq_of_beq hb4
        rw [hlJ]
        refine ⟨by rw [hr1]; simp, fun i hi => ?_⟩
        rw [hr1, List.mem_singleton] at hi
        subst hi
        refine ⟨by omega, ?_⟩
        refine opM_weaken (fun a u v hl' hA => anyJ_weaken (K := fun a' u' => KP n (fun σ' u' => XOp P mn rd n ops (i + 1) Q (fun σ'' u'' => XO P mn rd n ops [] Q σ'' u'') σ' u') a' u') (fun a u v hl hk => KP.le hk hl) 0 _ a u v hl' hA) h4 ?_
        exact opM_mono (fun a u _ hk => ⟨hr2, hk⟩) (h1 a h2 h3)
      | cons o l ih => rintro a v ⟨x, hy, hA⟩; exact ⟨x, hy, ih _ _ hA⟩
    exact key l a _ hx
  have hJ := anyJ_lexM (P := P) (ops := ops) (J := m + 1) (K := fun a u => KP n (fun σ' u' => XOp P mn rd n ops (m + 1) Q (fun σ'' u'' => XO P mn rd n ops [] Q σ'' u'') σ' u') a u) (fun a u v hl hp => KP.le hp hl) hb1 1 l 0 (Array.replicate ops.size false) a (v.union (bview β))
    (fun j o ho hj => by
      simp only [Array.getD_eq_getD_getElem?, Array.getElem?_replicate] at hj
      rw [if_pos (Array.getElem?_eq_some_iff.1 ho).1] at hj
      cases hj) (by simp) (fun j hj => by
      rw [← Array.getElem?_toList, Nat.zero_add]
      conv => { lhs; rw [← hl] }
      rw [List.getElem?_take, if_pos hj]) (by rw [hlJ]; exact hb2) hx'
  intro Stop b k cs hk hr hq
  refine Run.mk rfl fun w hw => ?_
  refine ⟨G (b.on a (.inRegion ops (Region.schedule (P.follows .mixedOrders) ops (w.tape w.drawn (.order b.fn id))) :: k)) cs, { w with drawn := w.drawn + 1 }, #[], v.union (bview β), ?_, ?_, ?_⟩
  · simp [G, stepG, stepG.exec, Frame.on, choose, Sem.run, Question.forced, Question.cut]
  · exact ⟨hw, rfl, rfl, rfl, Nat.le_refl _, fun _ _ _ => rfl, fun _ h => .inl h, fun _ h => .inl h, by simp⟩
  · simp only [Region.schedule, hm, Bool.true_or, if_true]
    show Run _ _ _ _ (G (b.on a (.inRegion ops (Region.linearise.go .any ops ops.size _ (Array.replicate ops.size false) []) :: k)) cs)
    have := anyJ_run (R := Stop) (b := b) (k := k) (cs := cs) hk hd (fun a u hp => by
      obtain ⟨σ, u', h1, h2, h3, h4⟩ := hp
      exact Run.weaken (XO_op (rest := []) h1 a h2 h3 Stop b k cs hk hr hq) h4) (l.length + 1) (w.tape w.drawn (.order b.fn id)) _ a _ hJ
    rw [hlJ, show m + 1 + 1 = ops.size by omega] at this
    exact this
end
end Go.Pal
end
section
namespace Go.Pal
open Go Go.Conc View
theorem le_fresh {v : View} {b : Nat} {p : Bool} {o : Obj} (h : v b = none) : v.Le (v.set b p o) := fun j x hx => by
  unfold View.set
  split
  · rename_i e; rw [e, h] at hx; cases hx
  · exact hx
section
variable {P : Program} {mn : Who} (T : Tab P) {n : Nat} {ds : List Deferred} {ρ : Regs} {β : Boxes} {v : View} {K : St → View → Prop}
  {ops : Array Oper} {i : Nat} {d : Nat} {ty : TypeId} {pos : String} {af : Array Edge} {gu : Option (Nat × Bool)}
theorem xopM_val {op : Op} (ho : ops[i]? = some ⟨some d, op, ty, pos, af, gu⟩) (hw : wantG ops gu ρ = some true) (hn : Nat.blt d n = true)
    (h : ∀ ev : Operand → Value, (∀ x y, ρ.val x = some y → ev x = y) → Bok β v → SemX P (execOp ev ⟨some d, op, ty, pos, af, gu⟩) (fun nx w => match nx with
        | .value x => (v.union (bview β)).Le w ∧ ∃ β' u, (Bok β' u ∧ (u.union (bview β')).Le w) ∧ K ⟨ds, (d, x) :: ρ, β'⟩ u
        | _ => False) (fun _ _ => False) (v.union (bview β))) : XOpM P mn n ops i K ⟨ds, ρ, β⟩ v := fun a hf hb => by
  unfold OpM
  rw [ho]
  simp only []
  rw [fits_want hf (wantG_B hw)]
  simp only [if_true]
  refine semX_mono _ (fun nx w hK => ?_) (fun x w hE => hE) (h a.eval (fits_eval hf) hb)
  cases nx with
  | value x =>
    obtain ⟨h0, β', u, ⟨h1, h2⟩, h3⟩ := hK
    have hn' : okDst n (some d) = true := hn
    have fp : Fits n ⟨ds, putR (some d) x ρ, β'⟩ (a.put (some d) x) := ⟨(fits_put hf hn').size, (fits_put hf hn').defers, (fits_put (x := x) hf hn').get⟩
    exact ⟨h0, _, u, h3, fp, h1, h2⟩
  | _ => exact hK.elim
include T in
theorem M_append0 {t t' e e' : TypeId} {k len cap cap2 b off : Nat} {y y2 : Operand} {a2 : Option Addr} (ho : ops[i]? = some ⟨some d, .call { callee := .builtin .append, args := #[y, y2], argTypes := #[t, t'] }, ty, pos, af, gu⟩) (hw : wantG ops gu ρ = some true) (hn : Nat.blt d n = true)
    (hy : ρ.val y = some (.slice (some ⟨b, off, none⟩) len cap)) (hy2 : ρ.val y2 = some (.slice a2 0 cap2))
    (ht : T.und t = some (.slice e)) (ht' : T.und t' = some (.slice e')) (hs : T.siz e = some k) (hc : len ≤ cap)
    (h : K ⟨ds, (d, .slice (some ⟨b, off, none⟩) len cap) :: ρ, β⟩ v) : XOpM P mn n ops i K ⟨ds, ρ, β⟩ v := by
  refine xopM_val ho hw hn fun ev hev hbk => ?_
  simp only [execOp, resolve, show (#[y, y2] : Array Operand).map ev = #[ev y, ev y2] from by simp, hev _ _ hy, hev _ _ hy2, sx_bind, sx_pure, invoke, builtin]
  unfold Builtin.append_
  simp only [show (#[t, t'] : Array TypeId)[0]? = some t from rfl, show (#[t, t'] : Array TypeId)[1]? = some t' from rfl, show ∀ x y : Value, (#[x, y] : Array Value)[0]? = some x from fun _ _ => rfl, show ∀ x y : Value, (#[x, y] : Array Value)[1]? = some y from fun _ _ => rfl, sx_bind, tx_und T ht, tx_und T ht', tx_siz T hs, sx_pure]
  simp only [Bool.false_eq_true, if_false, Builtin.lenOf, sx_bind, sx_pure]
  rw [if_pos (show len + 0 ≤ cap from hc), sx_bind]
  simp only [Bool.not_false, if_true]
  refine sx_firstCells (n := 0) (k := k) (cs := []) (.inl rfl) (by simp) ?_
  rw [sx_bind]
  simp only [storeCells, sx_pure]
  exact ⟨Le.refl _, β, v, ⟨hbk, Le.refl _⟩, h⟩
include T in
theorem M_appendB {t t' e e' : TypeId} {k by_ m len cap cap2 : Nat} {y y2 : Operand} {z : Value} {a a2 : Option Addr} {cs xs : List Value} (ho : ops[i]? = some ⟨some d, .call { callee := .builtin .append, args := #[y, y2], argTypes := #[t, t'] }, ty, pos, af, gu⟩) (hw : wantG ops gu ρ = some true) (hn : Nat.blt d n = true)
    (hy : ρ.val y = some (.slice a len cap)) (hy2 : ρ.val y2 = some (.slice a2 m cap2))
    (ht : T.und t = some (.slice e)) (ht' : T.und t' = some (.slice e')) (hs : T.siz e = some k) (hby : T.byt e = some by_) (hz : T.zer e = some z) (hzs : z.cells.size = k)
    (hr1 : Bok β v → RowAt (v.union (bview β)) a cs) (hl1 : cs.length = len * k) (hr2 : Bok β v → RowAt (v.union (bview β)) a2 xs) (hxl : xs.length = m * k) (hc : cap < len + m)
    (hb : (2 * (len + m) + 768) * by_ ≤ 2 ^ 48) (hp : 0 < by_)
    (h : ∀ b c cap', OwnS e k [(b, c, e)] (some ⟨b, 0, none⟩) (len + m) cap' (cs ++ xs) → K ⟨ds, (d, .slice (some ⟨b, 0, none⟩) (len + m) cap') :: ρ, (b, c, e) :: β⟩ v) : XOpM P mn n ops i K ⟨ds, ρ, β⟩ v := by
  refine xopM_val ho hw hn fun ev hev hbk => ?_
  simp only [execOp, resolve, show (#[y, y2] : Array Operand).map ev = #[ev y, ev y2] from by simp, hev _ _ hy, hev _ _ hy2, sx_bind, sx_pure, invoke, builtin]
  refine sx_append_new T ht ht' hs hby hz hzs (hr1 hbk) hl1 (hr2 hbk) hxl hc hb hp fun r cap' c hr hc1 hc2 hc3 => ?_
  obtain ⟨h5, h6⟩ := bok_cons (c := c) (t := e) hbk hr
  exact ⟨le_fresh hr, (r, c, e) :: β, v, ⟨h5, h6⟩, h r c cap' (.box (by rw [List.length_append, hl1, hxl, Nat.add_mul]) hc1 hc2 hc3)⟩
end
section
variable {P : Program} {mn : Who} (T : Tab P) {n : Nat} {Q : Exit → St → View → Prop} {ds : List Deferred} {ρ : Regs} {β : Boxes} {v : View}
  {ops : Array Oper} {l : List Oper} {d : Nat} {ty : TypeId} {pos : String} {af : Array Edge} {gu : Option (Nat × Bool)}
include T in
theorem L_slice_hm {t e : TypeId} {y z1 z2 : Operand} {a : Option Addr} {len cap h' m sz : Nat} {k1 k2 : IntKind} (hw : wantG ops gu ρ = some true) (hn : Nat.blt d n = true)
    (hy : ρ.val y = some (.slice a len cap)) (ht : T.und t = some (.slice e)) (hs : T.siz e = some sz) (hhi : ρ.val z1 = some (.int k1 h')) (hmx : ρ.val z2 = some (.int k2 m)) (h3 : m ≤ cap) (h2 : h' ≤ m)
    (h : XL P mn n ops Q l ⟨ds, (d, .slice (if m = 0 then a else a.map (·.add (0 * sz))) (h' - 0) (m - 0)) :: ρ, β⟩ v) : XL P mn n ops Q (⟨some d, .slice t y none (some z1) (some z2), ty, pos, af, gu⟩ :: l) ⟨ds, ρ, β⟩ v :=
  XL_quiet (o := ⟨some d, .slice t y none (some z1) (some z2), ty, pos, af, gu⟩) (x := .slice (if m = 0 then a else a.map (·.add (0 * sz))) (h' - 0) (m - 0)) (wantG_B hw) hn (fun ev hev _ w _ => by
    unfold execOp
    simp only [Option.map_none, Option.map_some, Instr.sliceAt, Instr.slice, Instr.sliceBounds, hev _ _ hy, hev _ _ hhi, hev _ _ hmx, sx_bind, sx_pure, tx_und T ht]
    refine sx_bound h3 ?_
    refine sx_bound h2 ?_
    simp only [tx_siz T hs]
    exact ⟨Le.refl _, trivial⟩) h
include T in
theorem L_slice_l {t e : TypeId} {y z0 : Operand} {a : Option Addr} {len cap l' sz : Nat} {k0 : IntKind} (hw : wantG ops gu ρ = some true) (hn : Nat.blt d n = true)
    (hy : ρ.val y = some (.slice a len cap)) (ht : T.und t = some (.slice e)) (hs : T.siz e = some sz) (hlo : ρ.val z0 = some (.int k0 l')) (h1 : l' ≤ len)
    (h : XL P mn n ops Q l ⟨ds, (d, .slice (if cap = l' then a else a.map (·.add (l' * sz))) (len - l') (cap - l')) :: ρ, β⟩ v) : XL P mn n ops Q (⟨some d, .slice t y (some z0) none none, ty, pos, af, gu⟩ :: l) ⟨ds, ρ, β⟩ v :=
  XL_quiet (o := ⟨some d, .slice t y (some z0) none none, ty, pos, af, gu⟩) (x := .slice (if cap = l' then a else a.map (·.add (l' * sz))) (len - l') (cap - l')) (wantG_B hw) hn (fun ev hev _ w _ => by
    unfold execOp
    simp only [Option.map_none, Option.map_some, Instr.sliceAt, Instr.slice, Instr.sliceBounds, hev _ _ hy, hev _ _ hlo, sx_bind, sx_pure, tx_und T ht]
    refine sx_bound h1 ?_
    simp only [tx_siz T hs]
    exact ⟨Le.refl _, trivial⟩) h
end
section
variable {P : Program} {mn : Who} {rd : Option Nat} {n : Nat} {Q : Exit → St → View → Prop} {ds : List Deferred} {ρ : Regs} {β : Boxes} {v : View} {K : St → View → Prop}
  {ops : Array Oper} {i : Nat} {d : Nat} {ty : TypeId} {pos : String} {af : Array Edge} {gu : Option (Nat × Bool)}
theorem A_callP {f : Operand} {args : Array Operand} {ats : Array TypeId} {k : FuncId} {first captured : Array Value} {xs ys : List Value} {R : End → Boxes → Prop} (bin rest : Boxes) (ho : ops[i]? = some ⟨some d, .call { callee := .value f, args := args, argTypes := ats }, ty, pos, af, gu⟩) (hk : Bodied P k) (hw : wantG ops gu ρ = some true) (hn : Nat.blt d n = true)
    (hf : ρ.val f = some (.func (.func k) first captured)) (hxs : allGet ρ.val args.toList = some xs) (hys : first.toList ++ (xs ++ captured.toList) = ys)
    (hsplit : ∀ p, cnt p β = cnt p (bin ++ rest)) (hc : CallsB P mn k ys.toArray R bin (v.union (bview rest)))
    (hr : ∀ x β', R (.ret x) β' → K ⟨ds, (d, x) :: ρ, β' ++ rest⟩ v) (hp : ∀ ch β', R (.pan ch) β' → Q (.panic ch) ⟨ds, ρ, β' ++ rest⟩ v) : XOp P mn rd n ops i Q K ⟨ds, ρ, β⟩ v :=
  A_call bin rest ho hw hn hf hxs hk hsplit (by
    have : first ++ xs.toArray ++ captured = ys.toArray := by rw [← hys]; apply Array.ext'; simp
    rw [this]; exact hc) hr hp
end
end Go.Pal
end
section
namespace Go.Pal
open Go Go.Conc View
section
variable {P : Program} {mn : Who} {rd : Option Nat} {n : Nat} {Q : Exit → St → View → Prop} {ds : List Deferred} {ρ : Regs} {β : Boxes} {v : View}
  {ops : Array Oper} {i : Nat} {S : List Rec} {done done' : List Nat} {ms : List Nat} {v0 : View} {todo todo' : List Nat}
def manyB (ops : Array Oper) (ms done js : List Nat) : Bool := !(Region.ready .any ops (mkL ops done)).isEmpty && (Region.ready .any ops (mkL ops done)).all (fun j => js.contains j) && js.all (fun j => ms.contains j)
def AllL (f : Nat → Prop) : List Nat → Prop
  | [] => True
  | j :: r => f j ∧ AllL f r
theorem AllL.at {f : Nat → Prop} : ∀ {js : List Nat}, AllL f js → ∀ {j : Nat}, j ∈ js → f j
  | x :: r, h, j, hj => by
    rcases List.mem_cons.1 hj with rfl | hj
    · exact h.1
    · exact h.2.at hj
theorem S_many (js : List Nat) (hB : manyB ops ms done js = true) (h : AllL (fun j => XOp P mn (some 4294967295) n ops j (fun _ _ _ => False) (fun σ' u => v.Le u ∧ KeepS ops j S σ'.β ∧ XS P mn n ops ms v0 Q todo S (j :: done) σ' u) ⟨ds, ρ, β⟩ v) js) : XS P mn n ops ms v0 Q (i :: todo) S done ⟨ds, ρ, β⟩ v := fun a hf hb hv hc => by
  simp only [manyB, Bool.and_eq_true] at hB
  obtain ⟨⟨hb1, hb2⟩, hb3⟩ := hB
  show AnyS P mn ops ms v0 (fun a u => Post n Q .normal a u) (todo.length + 1) (SV S) (mkL ops done) a (v.union (bview β))
  refine ⟨fun e => (by rw [e] at hb1; cases hb1), fun j hj => ?_⟩
  have hr := hj
  have hjs : j ∈ js := by simpa using List.all_eq_true.1 hb2 j hj
  have h3 : ms.contains j = true := List.all_eq_true.1 hb3 j hjs
  have h := h.at hjs
  obtain ⟨o, ho, hw, hd, hs⟩ := h a hf hb
  unfold OpS
  simp only [ho, hw, if_true]
  have key : ∀ {a' w}, KP n (fun σ' u => v.Le u ∧ KeepS ops j S σ'.β ∧ XS P mn n ops ms v0 Q todo S (j :: done) σ' u) a' w → Keeps ops ms v0 (SV S) j (v.union (bview β)) w ∧ AnyS P mn ops ms v0 (fun a u => Post n Q .normal a u) todo.length (SV S) ((mkL ops done).setIfInBounds j true) a' w := by
    rintro a' w ⟨σ', u, ⟨hl, hk, hx⟩, hf', hb', hw'⟩
    refine ⟨?_, ?_⟩
    · unfold Keeps
      rw [if_pos h3]
      refine ⟨((hv.trans hl).trans (union_le _ _)).trans hw', fun p hp hdp => ?_⟩
      obtain ⟨b, c, t, he, hin⟩ := keepS_spec hk p hp hdp
      rw [he]
      intro j' x e
      simp only [bview] at e
      split at e
      · rename_i hj'; subst hj'; cases e; exact hw' _ _ (union_box hb' hin)
      · cases e
    · exact anyS_weaken (K := fun a u => Post n Q .normal a u) (fun a u v hl hp => post_le hl hp) _ _ _ _ _ _ hw' (hx _ hf' hb' (hv.trans hl) (closed_set hc hr mkL_size))
  refine semX_mono _ (fun nx w hK => ?_) (fun x w hE => ?_) hs
  · cases nx with
    | value x => exact key hK
    | skip => exact key hK
    | defer d => exact absurd hK.1 (by simp)
    | enter f args => exact CallsX.mono hK fun e w' hR => ⟨w', Le.refl _, by
        cases e with
        | ret x => exact key hR
        | pan ch => obtain ⟨_, _, hq, _⟩ := hR; exact hq⟩
    | round l f tmps assign body => exact absurd rfl hK.1
    | _ => exact hK.elim
  · obtain ⟨_, _, hq, _⟩ := hE; exact hq
end
end Go.Pal
end
section
namespace Go.Pal
open Go Go.Conc View
section
variable {P : Program} {mn : Who} {rd : Option Nat} {n : Nat} {Q : Exit → St → View → Prop} {ds : List Deferred} {ρ : Regs} {β : Boxes} {v : View}
  {ops : Array Oper} {i : Nat} {S : List Rec} {done done' : List Nat} {ms : List Nat} {v0 : View} {todo todo' : List Nat}
theorem xop_more {ρτ ρσ : Regs} {βτ βσ βr : Boxes} {d : Nat} {M : Value → Boxes → Prop} {K : St → View → Prop} (hr : ∀ t x, ρτ.get t = some x → ρσ.get t = some x) (hβ : ∀ p, cnt p βσ = cnt p (βr ++ βτ)) (hdst : ∀ o, ops[i]? = some o → o.dst = some d) (hdn : Nat.blt d n = true)
    (h : ∀ u, v.Le u → XOp P mn rd n ops i (fun _ _ _ => False) (fun σ' u' => u' = u ∧ ∃ x βi, M x βi ∧ σ' = ⟨ds, (d, x) :: ρτ, βi ++ βτ⟩) ⟨ds, ρτ, βτ⟩ u)
    (hK : ∀ x βi, M x βi → K ⟨ds, (d, x) :: ρσ, βi ++ βσ⟩ v) : XOp P mn rd n ops i (fun _ _ _ => False) K ⟨ds, ρσ, βσ⟩ v := fun a hf hb => by
  obtain ⟨hb1, he⟩ := bok_perm (perm_of_cnt (l := βσ) (m := βτ ++ βr) fun p => by rw [hβ p, cnt_append, cnt_append]; omega) hb
  obtain ⟨hb2, hb3⟩ := bok_append.1 hb1
  obtain ⟨o, ho, hw, hd, hs⟩ := h _ (union_le v (bview βr)) a ⟨hf.size, hf.defers, fun t x e => hf.get t x (hr t x e)⟩ hb3
  have hod := hdst o ho
  have hdn' : okDst n (some d) = true := hdn
  refine ⟨o, ho, hw, hd, ?_⟩
  have key : ∀ {x0 w}, KP n (fun σ' u' => u' = v.union (bview βr) ∧ ∃ x βi, M x βi ∧ σ' = ⟨ds, (d, x) :: ρτ, βi ++ βτ⟩) (a.put o.dst x0) w → KP n K (a.put o.dst x0) w := by
    rintro x0 w ⟨σ', u', ⟨rfl, x, βi, hM, rfl⟩, hf', hb', hw'⟩
    have hg : ∀ (y : Value) (l : Regs), Regs.get ((d, y) :: l) d = some y := fun y l => by simp [Regs.get]
    have hx : x0 = x := by
      have h1 := hf'.get d x (hg _ _)
      have h2 := (fits_put (x := x0) hf hdn').get d x0 (hg _ _)
      rw [hod] at h1
      exact Option.some.inj (h2.symm.trans h1)
    subst hx
    have hb4 : Bok ((βi ++ βτ) ++ βr) v := bok_append.2 ⟨hb2, hb'⟩
    obtain ⟨hb5, he5⟩ := bok_perm (perm_of_cnt (l := (βi ++ βτ) ++ βr) (m := βi ++ βσ) fun p => by rw [cnt_append, cnt_append, cnt_append, hβ p, cnt_append]; omega) hb4
    refine ⟨⟨ds, (d, x0) :: ρσ, βi ++ βσ⟩, v, hK _ _ hM, ?_, hb5, ?_⟩
    · have := fits_put (x := x0) hf hdn'
      rw [hod]
      exact ⟨this.size, this.defers, this.get⟩
    · show (v.union (bview (βi ++ βσ))).Le w
      rw [he5, union_comm_boxes hb4]
      exact hw'
  show SemX P _ _ _ (v.union (bview βσ))
  rw [← he, union_comm_boxes hb1]
  refine semX_mono _ (fun nx w hK => ?_) (fun x w hE => hE.elim fun _ h => h.elim fun _ h => h.1.elim) hs
  cases nx with
  | value x => exact key hK
  | skip => exact key hK
  | defer d' =>
    obtain ⟨_, σ', u', ⟨rfl, x, βi, hM, rfl⟩, hf', _⟩ := hK
    exfalso
    have h1 := hf'.defers
    have h2 := hf.defers
    simp only [Act.put] at h1
    rw [hod] at h1
    simp only at h1 h2
    rw [h2] at h1
    exact absurd (congrArg List.length h1) (by simp)
  | enter f args => exact CallsX.mono hK fun e w' hR => ⟨w', Le.refl _, by
      cases e with
      | ret x => exact key hR
      | pan ch => obtain ⟨_, _, h, _⟩ := hR; exact h.elim⟩
  | round l f tmps assign body => exact ⟨hK.1, RoundX.mono hK.2 fun e w' hR => ⟨w', Le.refl _, by
      cases e with
      | ret x => exact key hR
      | pan ch => obtain ⟨_, _, h, _⟩ := hR; exact h.elim⟩⟩
  | _ => exact hK.elim
theorem XS_by {ρ' : Regs} {β' : Boxes} (h : XS P mn n ops ms v0 Q todo S done ⟨ds, ρ', β'⟩ v) (hd : mkL ops done = mkL ops done') (ht : todo.length = todo'.length) (hg : ∀ t x, ρ'.get t = some x → ρ.get t = some x) (hs : Subm β' β) : XS P mn n ops ms v0 Q todo' S done' ⟨ds, ρ, β⟩ v := fun a hf hb hv hc => by
  obtain ⟨h1, h2⟩ := bok_subm hs hb
  have hx := h a ⟨hf.size, hf.defers, fun t x e => hf.get t x (hg t x e)⟩ h1 hv (by rw [hd]; exact hc)
  rw [hd, ht] at hx
  exact anyS_weaken (K := fun a u => Post n Q .normal a u) (fun a u v hl hp => post_le hl hp) _ _ _ _ _ _ h2 hx
theorem mkL_at {l : List Nat} : ∀ (j : Nat), (mkL ops l)[j]? = if j < ops.size then some (decide (j ∈ l)) else none := by
  induction l with
  | nil => intro j; simp only [mkL, Array.getElem?_replicate]; split <;> simp
  | cons i r ih =>
    intro j
    simp only [mkL, Array.getElem?_setIfInBounds, mkL_size, ih]
    by_cases e : i = j
    · subst e
      by_cases h : i < ops.size <;> simp [h]
    · rw [if_neg e]
      by_cases h : j < ops.size
      · simp [h, Ne.symm e]
      · simp [h]
theorem mkL_mem {l m : List Nat} (h : ∀ j, j ∈ l ↔ j ∈ m) : mkL ops l = mkL ops m := by
  apply Array.ext_getElem?
  intro j
  rw [mkL_at, mkL_at]
  simp only [h j]
abbrev NetC := Nat → Option (Value × Boxes)
def netS (W : List Nat) (c : NetC) : List Nat := W.filter fun i => (c i).isSome
def netR (dst : Nat → Nat) (c : NetC) (ρ0 : Regs) : List Nat → Regs
  | [] => ρ0
  | i :: W => match c i with | some q => (dst i, q.1) :: netR dst c ρ0 W | none => netR dst c ρ0 W
def netβ (c : NetC) (β0 : Boxes) : List Nat → Boxes
  | [] => β0
  | i :: W => match c i with | some q => q.2 ++ netβ c β0 W | none => netβ c β0 W
def netU (c : NetC) (j : Nat) (q : Value × Boxes) : NetC := fun i => if i = j then some q else c i
def netB (ops : Array Oper) (ms W : List Nat) (pre : Nat → List Nat) (done0 : List Nat) : Nat → List Nat → Bool
  | 0, D => D == W
  | k + 1, D => !(Region.ready .any ops (mkL ops (D ++ done0))).isEmpty && (Region.ready .any ops (mkL ops (D ++ done0))).all fun j => W.contains j && !D.contains j && ms.contains j && (pre j).all (fun i => D.contains i) && netB ops ms W pre done0 k (W.filter fun i => Nat.beq i j || D.contains i)
variable {dst : Nat → Nat} {c : NetC} {W : List Nat} {ρ0 : Regs} {β0 : Boxes} {j : Nat} {q : Value × Boxes}
theorem netU_other {i : Nat} (h : i ≠ j) : netU c j q i = c i := if_neg h
theorem netU_same : netU c j q j = some q := if_pos rfl
theorem netR_not : ∀ {W : List Nat}, j ∉ W → netR dst (netU c j q) ρ0 W = netR dst c ρ0 W
  | [], _ => rfl
  | i :: W, h => by
    simp only [List.mem_cons, not_or] at h
    simp only [netR, netU_other (Ne.symm h.1), netR_not h.2]
theorem netβ_not : ∀ {W : List Nat}, j ∉ W → netβ (netU c j q) β0 W = netβ c β0 W
  | [], _ => rfl
  | i :: W, h => by
    simp only [List.mem_cons, not_or] at h
    simp only [netβ, netU_other (Ne.symm h.1), netβ_not h.2]
theorem netβ_put : ∀ {W : List Nat}, W.Nodup → j ∈ W → c j = none → ∀ p, cnt p (netβ (netU c j q) β0 W) = cnt p (q.2 ++ netβ c β0 W)
  | i :: W, hn, hj, hc, p => by
    rw [List.nodup_cons] at hn
    by_cases e : i = j
    · subst e
      simp only [netβ, netU_same, hc, netβ_not hn.1]
    · have hj' : j ∈ W := by rcases List.mem_cons.1 hj with h | h; exact absurd h.symm e; exact h
      have ih := netβ_put hn.2 hj' hc p
      simp only [netβ, netU_other e]
      cases c i with
      | none => exact ih
      | some r => simp only [cnt_append] at ih ⊢; omega
theorem netR_put : ∀ {W : List Nat}, W.Nodup → j ∈ W → c j = none → (∀ i ∈ W, dst i = dst j → i = j) → ∀ t x, (netR dst (netU c j q) ρ0 W).get t = some x → Regs.get ((dst j, q.1) :: netR dst c ρ0 W) t = some x
  | i :: W, hn, hj, hc, hd, t, x, h => by
    rw [List.nodup_cons] at hn
    by_cases e : i = j
    · subst e
      simp only [netR, netU_same, hc, netR_not hn.1] at h ⊢
      exact h
    · have hj' : j ∈ W := by rcases List.mem_cons.1 hj with h | h; exact absurd h.symm e; exact h
      simp only [netR, netU_other e] at h ⊢
      have ih := netR_put hn.2 hj' hc (fun i hi => hd i (List.mem_cons_of_mem _ hi)) t x
      cases hci : c i with
      | none => rw [hci] at h; exact ih h
      | some r =>
        rw [hci] at h
        simp only [Regs.get] at h ih ⊢
        cases hb : Nat.beq (dst i) t with
        | false =>
          rw [hb] at h
          simp only [cond_false] at h ⊢
          exact ih h
        | true =>
          rw [hb] at h
          have h1 := Nat.eq_of_beq_eq_true hb
          have h2 : Nat.beq (dst j) t = false := by
            cases h3 : Nat.beq (dst j) t with
            | false => rfl
            | true => exact absurd (hd i (List.mem_cons_self ..) (h1.trans (Nat.eq_of_beq_eq_true h3).symm)) e
          rw [h2]
          exact h
theorem netR_get : ∀ {W : List Nat}, W.Nodup → (∀ i ∈ W, ∀ k ∈ W, dst i = dst k → i = k) → ∀ (V : List Nat), (∀ i ∈ V, i ∈ W ∧ (c i).isSome = true) → V.Nodup → (∀ i ∈ W, ρ0.get (dst i) = none) → ∀ t x, (netR dst c ρ0 V).get t = some x → (netR dst c ρ0 W).get t = some x := by
  intro W hn hd V hV hVn h0 t x h
  have look : ∀ (V : List Nat), V.Nodup → (∀ i ∈ V, ∀ k ∈ V, dst i = dst k → i = k) → ∀ t, (netR dst c ρ0 V).get t = (match V.find? (fun i => Nat.beq (dst i) t && (c i).isSome) with | some i => (c i).map (·.1) | none => ρ0.get t) := by
    intro V
    induction V with
    | nil => intros; rfl
    | cons i V ih =>
      intro hn hd t
      rw [List.nodup_cons] at hn
      have ih := ih hn.2 (fun i hi k hk => hd i (List.mem_cons_of_mem _ hi) k (List.mem_cons_of_mem _ hk)) t
      simp only [netR, List.find?_cons]
      cases hci : c i with
      | none => simp only [Option.isSome_none, Bool.and_false]; exact ih
      | some r =>
        simp only [Regs.get, Option.isSome_some, Bool.and_true]
        cases hb : Nat.beq (dst i) t with
        | true => simp [hci]
        | false => simp only [cond_false]; exact ih
  rw [look V hVn (fun i hi k hk => hd i (hV i hi).1 k (hV k hk).1)] at h
  rw [look W hn hd]
  cases hf : V.find? (fun i => Nat.beq (dst i) t && (c i).isSome) with
  | some i =>
    rw [hf] at h
    have h1 := List.find?_some hf
    have h2 := List.mem_of_find?_eq_some hf
    simp only [Bool.and_eq_true] at h1
    cases hw : W.find? (fun i => Nat.beq (dst i) t && (c i).isSome) with
    | none =>
      have := List.find?_eq_none.1 hw i (hV i h2).1
      rw [h1.1, h1.2] at this
      exact absurd rfl this
    | some k =>
      have h3 := List.find?_some hw
      simp only [Bool.and_eq_true] at h3
      have : k = i := hd k (List.mem_of_find?_eq_some hw) i (hV i h2).1 ((Nat.eq_of_beq_eq_true h3.1).trans (Nat.eq_of_beq_eq_true h1.1).symm)
      subst this
      exact h
  | none =>
    rw [hf] at h
    cases hw : W.find? (fun i => Nat.beq (dst i) t && (c i).isSome) with
    | none => exact h
    | some k =>
      exfalso
      have h3 := List.find?_some hw
      simp only [Bool.and_eq_true] at h3
      have hk := List.mem_of_find?_eq_some hw
      have e := Nat.eq_of_beq_eq_true h3.1
      subst e
      rw [h0 k hk] at h
      cases h
theorem netR_congr {c c' : NetC} : ∀ {W : List Nat}, (∀ i ∈ W, c i = c' i) → netR dst c ρ0 W = netR dst c' ρ0 W
  | [], _ => rfl
  | i :: W, h => by simp only [netR, h i (List.mem_cons_self ..), netR_congr fun k hk => h k (List.mem_cons_of_mem _ hk)]
theorem netβ_congr {c c' : NetC} : ∀ {W : List Nat}, (∀ i ∈ W, c i = c' i) → netβ c β0 W = netβ c' β0 W
  | [], _ => rfl
  | i :: W, h => by simp only [netβ, h i (List.mem_cons_self ..), netβ_congr fun k hk => h k (List.mem_cons_of_mem _ hk)]
theorem netβ_part (f : Nat → Bool) : ∀ (W : List Nat) (p : Nat × Array Value × TypeId), cnt p (netβ c β0 W) = cnt p (netβ c [] (W.filter fun i => !f i) ++ netβ c β0 (W.filter f))
  | [], p => rfl
  | i :: W, p => by
    have ih := netβ_part f W p
    cases hf : f i <;> cases hc : c i <;> simp only [netβ, List.filter_cons, hf, hc, Bool.not_true, Bool.not_false, Bool.false_eq_true, if_true, if_false] <;> simp only [cnt_append] at ih ⊢ <;> omega
theorem in_net {b : Nat} {cc : Array Value} {t : TypeId} (h : InB b cc t β0) : ∀ W : List Nat, InB b cc t (netβ c β0 W)
  | [] => h
  | i :: W => by
    simp only [netβ]
    cases c i with
    | none => exact in_net h W
    | some q => exact InB.app (in_net h W)
def KeepA : List Rec → Boxes → Prop
  | [], _ => True
  | (_, b, c, t) :: S, β => InB b c t β ∧ KeepA S β
theorem keep_net {βi : Boxes} {j : Nat} : ∀ {S : List Rec}, KeepA S β0 → KeepS ops j S (βi ++ netβ c β0 W)
  | [], _ => trivial
  | (_, _, _, _) :: _, h => ⟨.inr (InB.app (in_net h.1 W)), keep_net h.2⟩
theorem allL_of {f : Nat → Prop} : ∀ {js : List Nat}, (∀ j ∈ js, f j) → AllL f js
  | [], _ => trivial
  | j :: js, h => ⟨h j (List.mem_cons_self ..), allL_of fun k hk => h k (List.mem_cons_of_mem _ hk)⟩
theorem mem_netS {i : Nat} : i ∈ netS W c ↔ i ∈ W ∧ (c i).isSome = true := by unfold netS; exact List.mem_filter
theorem S_net {Sp : Nat → List (Value × Boxes) → Value → Boxes → Prop} {pre : Nat → List Nat} (W : List Nat) (dst : Nat → Nat) (hW : W.Nodup) (hd : ∀ i ∈ W, ∀ k ∈ W, dst i = dst k → i = k) (h0 : ∀ i ∈ W, ρ0.get (dst i) = none) (hpre : ∀ j ∈ W, pre j = W.filter fun i => (pre j).contains i)
    (hop : ∀ i ∈ W, (∀ o, ops[i]? = some o → o.dst = some (dst i)) ∧ Nat.blt (dst i) n = true) (hS : KeepA S β0) (hB : netB ops ms W pre done W.length [] = true)
    (hstep : ∀ j ∈ W, ∀ c : Nat → Value × Boxes, (∀ i ∈ pre j, Sp i ((pre i).map c) (c i).1 (c i).2) → ∀ u, v.Le u → XOp P mn (some 4294967295) n ops j (fun _ _ _ => False) (fun σ' u' => u' = u ∧ ∃ x βi, Sp j ((pre j).map c) x βi ∧ σ' = ⟨ds, (dst j, x) :: netR dst (fun i => some (c i)) ρ0 (pre j), βi ++ netβ (fun i => some (c i)) β0 (pre j)⟩) ⟨ds, netR dst (fun i => some (c i)) ρ0 (pre j), netβ (fun i => some (c i)) β0 (pre j)⟩ u)
    (hfin : ∀ c : Nat → Value × Boxes, (∀ i ∈ W, Sp i ((pre i).map c) (c i).1 (c i).2) → XS P mn n ops ms v0 Q todo S (W ++ done) ⟨ds, netR dst (fun i => some (c i)) ρ0 W, netβ (fun i => some (c i)) β0 W⟩ v) :
    XS P mn n ops ms v0 Q (W ++ todo) S done ⟨ds, ρ0, β0⟩ v := by
  let tot : NetC → Nat → Value × Boxes := fun c i => (c i).getD default
  have go : ∀ (k : Nat) (c : NetC), (∀ i ∈ W, ∀ q, c i = some q → (∀ k ∈ pre i, (c k).isSome = true) ∧ Sp i ((pre i).map (tot c)) q.1 q.2) → netB ops ms W pre done k (netS W c) = true → XS P mn n ops ms v0 Q (List.replicate k 0 ++ todo) S (netS W c ++ done) ⟨ds, netR dst c ρ0 W, netβ c β0 W⟩ v := by
    intro k
    induction k with
    | zero =>
      intro c hc hb
      have e : netS W c = W := by simpa [netB] using hb
      have hs : ∀ i ∈ W, c i = some (tot c i) := fun i hi => by
        have := (mem_netS.1 (e.symm ▸ hi : i ∈ netS W c)).2
        cases hci : c i with
        | none => rw [hci] at this; cases this
        | some q => simp [tot, hci]
      have := hfin (tot c) fun i hi => (hc i hi _ (hs i hi)).2
      rw [e, netR_congr hs, netβ_congr hs]
      exact this
    | succ k ih =>
      intro c hc hb
      simp only [netB, Bool.and_eq_true] at hb
      obtain ⟨hb1, hb2⟩ := hb
      have hall : ∀ j ∈ Region.ready .any ops (mkL ops (netS W c ++ done)), j ∈ W ∧ c j = none ∧ ms.contains j = true ∧ (∀ i ∈ pre j, i ∈ netS W c) ∧ netB ops ms W pre done k (W.filter fun i => Nat.beq i j || (netS W c).contains i) = true := fun j hj => by
        have h := List.all_eq_true.1 hb2 j hj
        simp only [Bool.and_eq_true] at h
        obtain ⟨⟨⟨⟨h1, h2⟩, h3⟩, h4⟩, h5⟩ := h
        have hjW : j ∈ W := by simpa using h1
        have hjn : j ∉ netS W c := by simpa using h2
        refine ⟨hjW, ?_, h3, fun i hi => by simpa using List.all_eq_true.1 h4 i hi, h5⟩
        cases hcj : c j with
        | none => rfl
        | some q => exact absurd (mem_netS.2 ⟨hjW, by rw [hcj]; rfl⟩) hjn
      refine S_many (Region.ready .any ops (mkL ops (netS W c ++ done))) ?_ (allL_of fun j hj => ?_)
      · simp only [manyB, Bool.and_eq_true]
        exact ⟨⟨hb1, List.all_eq_true.2 fun j hj => by simpa using hj⟩, List.all_eq_true.2 fun j hj => (hall j hj).2.2.1⟩
      · obtain ⟨hjW, hcj, _, hp, hn⟩ := hall j hj
        have hsub : ∀ i ∈ pre j, i ∈ W := fun i hi => (mem_netS.1 (hp i hi)).1
        have hsome : ∀ i ∈ pre j, c i = some (tot c i) := fun i hi => by
          have h2 := (mem_netS.1 (hp i hi)).2
          cases hci : c i with
          | none => rw [hci] at h2; cases h2
          | some q => simp [tot, hci]
        have hpn : (pre j).Nodup := by rw [hpre j hjW]; exact hW.filter _
        have hstep' := hstep j hjW (tot c) fun i hi => (hc i (hsub i hi) _ (hsome i hi)).2
        rw [← netR_congr hsome, ← netβ_congr hsome] at hstep'
        have htot : ∀ (q : Value × Boxes) (l : List Nat), j ∉ l → l.map (tot (netU c j q)) = l.map (tot c) := fun q l hl => List.map_congr_left fun i hi => by
          have : i ≠ j := fun e => hl (e ▸ hi)
          simp only [tot, netU_other this]
        refine xop_more (d := dst j) (M := Sp j ((pre j).map (tot c))) (ρτ := netR dst c ρ0 (pre j)) (βτ := netβ c β0 (pre j)) (βr := netβ c [] (W.filter fun i => !(pre j).contains i))
          (netR_get hW hd (pre j) (fun i hi => mem_netS.1 (hp i hi)) hpn h0) (fun p => by
            have h := netβ_part (c := c) (β0 := β0) (fun i => (pre j).contains i) W p
            rw [← hpre j hjW] at h
            exact h) (hop j hjW).1 (hop j hjW).2 hstep' fun x βi hM => ⟨Le.refl _, keep_net hS, ?_⟩
        have e : netS W (netU c j (x, βi)) = W.filter fun i => Nat.beq i j || (netS W c).contains i := by
          unfold netS
          refine List.filter_congr fun i hi => ?_
          by_cases hij : i = j
          · subst hij; rw [netU_same, Nat.beq_refl]; rfl
          · rw [netU_other hij, show Nat.beq i j = false from by cases hb : Nat.beq i j with | false => rfl | true => exact absurd (Nat.eq_of_beq_eq_true hb) hij]
            rw [Bool.false_or]
            cases hci : c i with
            | none => simp [hci]
            | some q => simp [hci, hi]
        refine XS_by (ih (netU c j (x, βi)) (fun i hi q hq => ?_) (by rw [e]; exact hn)) (mkL_mem fun i => ?_) rfl (netR_put hW hjW hcj fun i hi => hd i hi j hjW) (fun p => Nat.le_of_eq (netβ_put hW hjW hcj p))
        · by_cases hij : i = j
          · subst hij
            rw [netU_same] at hq
            cases hq
            have hni : i ∉ pre i := fun h => by have := hsome i h; rw [hcj] at this; cases this
            refine ⟨fun k hk => ?_, by rw [htot _ _ hni]; exact hM⟩
            rw [netU_other (fun e => by subst e; exact hni hk), hsome k hk]; rfl
          · rw [netU_other hij] at hq
            obtain ⟨h1, h2⟩ := hc i hi q hq
            have hni : j ∉ pre i := fun h => by have := h1 j h; rw [hcj] at this; cases this
            refine ⟨fun k hk => ?_, by rw [htot _ _ hni]; exact h2⟩
            rw [netU_other (fun e => by subst e; exact hni hk)]
            exact h1 k hk
        · rw [e, List.mem_append, List.mem_cons, List.mem_append, List.mem_filter]
          constructor
          · rintro (⟨h1, h2⟩ | h)
            · rw [Bool.or_eq_true] at h2
              rcases h2 with h2 | h2
              · exact .inl (Nat.eq_of_beq_eq_true h2)
              · exact .inr (.inl (by simpa using h2))
            · exact .inr (.inr h)
          · rintro (rfl | h | h)
            · exact .inl ⟨hjW, by rw [Nat.beq_refl]; rfl⟩
            · exact .inl ⟨(mem_netS.1 h).1, by rw [Bool.or_eq_true]; exact .inr (by simpa using h)⟩
            · exact .inr h
  have hz : ∀ V : List Nat, netR dst (fun _ => none) ρ0 V = ρ0 ∧ netβ (fun _ => none) β0 V = β0 ∧ netS V (fun _ => none) = [] := fun V => by
    induction V with
    | nil => exact ⟨rfl, rfl, rfl⟩
    | cons i V ih => exact ⟨ih.1, ih.2.1, ih.2.2⟩
  obtain ⟨z1, z2, z3⟩ := hz W
  have h1 := go W.length (fun _ => none) (fun _ _ _ h => by cases h) (by rw [z3]; exact hB)
  rw [z1, z2, z3] at h1
  exact XS_by h1 rfl (by simp) (fun _ _ h => h) (fun _ => Nat.le_refl _)
end
end Go.Pal
end
