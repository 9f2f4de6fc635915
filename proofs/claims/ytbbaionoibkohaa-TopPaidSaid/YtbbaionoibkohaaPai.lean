/- Part 9 of the proof that stands in the last text. -/
import Derived.Test.YtbbaionoibkohaaPah
set_option linter.all false
section
namespace Go.Pal
open Go Go.Conc View
section
variable {P : Program} {mn : Who} (T : Tab P) {rd : Option Nat} {n : Nat} {Q : Exit → St → View → Prop} {ds : List Deferred} {ρ : Regs} {β : Boxes} {v v0 : View} {ops : Array Oper} {i : Nat} {todo : List Nat} {S : List Rec} {done : List Nat} {ms : List Nat}
theorem S_start0 {id : Nat} (ms todo : List Nat) (hk : todo.length = ops.size) (hm : P.follows .mixedOrders = true) (hd : ops.all (fun o => !isDefer o.op) = true) (hv0 : v0.Le v) (h : XS P mn n ops ms v0 Q todo [] [] ⟨ds, ρ, β⟩ v) : XC P mn rd n (.region id ops true) Q ⟨ds, ρ, β⟩ v := fun a hf hb =>
  wpX_mono (x_region_any2 (Q := fun e a u => e = .normal ∧ Post n Q .normal a u) (ms := ms) (v0 := v0) hm hd (by
    have hkk : (fun (a : Act) (u : View) => (Exit.normal = Exit.normal ∧ Post n Q .normal a u)) = (fun a u => Post n Q .normal a u) := by funext a u; simp
    rw [hkk]
    have h' := h a hf hb hv0 (fun j o ho hj => by
      simp only [mkL, Array.getD_eq_getD_getElem?, Array.getElem?_replicate] at hj
      rw [if_pos (Array.getElem?_eq_some_iff.1 ho).1] at hj
      cases hj)
    rw [hk] at h'
    exact h')) fun e a u ⟨he, hp⟩ => ⟨u, Le.refl _, he ▸ hp⟩
theorem S_do0 (hB : onlyB ops ms done i = true) (h : XOp P mn (some 4294967295) n ops i (fun _ _ _ => False) (fun σ' u => v0.Le u ∧ KeepS ops i S σ'.β ∧ XS P mn n ops ms v0 Q todo S (i :: done) σ' u) ⟨ds, ρ, β⟩ v) : XS P mn n ops ms v0 Q (i :: todo) S done ⟨ds, ρ, β⟩ v := fun a hf hb hv hc => by
  simp only [onlyB, Bool.and_eq_true] at hB
  obtain ⟨⟨h1, h2⟩, h3⟩ := hB
  have hr : i ∈ Region.ready .any ops (mkL ops done) := by simpa using h1
  show AnyS P mn ops ms v0 (fun a u => Post n Q .normal a u) (todo.length + 1) (SV S) (mkL ops done) a (v.union (bview β))
  refine ⟨fun e => (by rw [e] at hr; cases hr), fun j hj => ?_⟩
  have hji : j = i := Nat.eq_of_beq_eq_true (List.all_eq_true.1 h2 j hj)
  subst hji
  obtain ⟨o, ho, hw, hd, hs⟩ := h a hf hb
  unfold OpS
  simp only [ho, hw, if_true]
  have key : ∀ {a' w}, KP n (fun σ' u => v0.Le u ∧ KeepS ops j S σ'.β ∧ XS P mn n ops ms v0 Q todo S (j :: done) σ' u) a' w → Keeps ops ms v0 (SV S) j (v.union (bview β)) w ∧ AnyS P mn ops ms v0 (fun a u => Post n Q .normal a u) todo.length (SV S) ((mkL ops done).setIfInBounds j true) a' w := by
    rintro a' w ⟨σ', u, ⟨hl, hk, hx⟩, hf', hb', hw'⟩
    refine ⟨?_, ?_⟩
    · unfold Keeps
      rw [if_pos h3]
      refine ⟨(hl.trans (union_le _ _)).trans hw', fun p hp hdp => ?_⟩
      obtain ⟨b, c, t, he, hin⟩ := keepS_spec hk p hp hdp
      rw [he]
      intro j' x e
      simp only [bview] at e
      split at e
      · rename_i hj'; subst hj'; cases e; exact hw' _ _ (union_box hb' hin)
      · cases e
    · exact anyS_weaken (K := fun a u => Post n Q .normal a u) (fun a u v hl hp => post_le hl hp) _ _ _ _ _ _ hw' (hx _ hf' hb' hl (closed_set hc hr mkL_size))
  refine semX_mono _ (fun nx w hK => ?_) (fun x w hE => ?_) hs
  · cases nx with
    | value x => exact key hK
    | skip => exact key hK
    | defer d => exact absurd hK.1 (by simp)
    | enter f args => exact CallsX.mono hK fun e w' hR => ⟨w', Le.refl _, by
        cases e with
        | ret x => exact key hR
        | pan ch => obtain ⟨_, _, hq, _⟩ := hR; exact hq⟩
    | round l f tmps assign body => exact absurd rfl hK.1
    | _ => exact hK.elim
  · obtain ⟨_, _, hq, _⟩ := hE; exact hq
end
end Go.Pal
end
section
namespace Go.Pal
open Go Go.Conc View
section
variable {P : Program} {mn : Who} {Stop : View → Goroutine → Prop} {v : View} {b c : Frame} {k : List Item} {cs : List Frame} {a : Act} {ops : Array Oper} {i : Nat} {rest : List Nat} {d : Nat} {ats : Array TypeId} {ty : TypeId} {pos : String} {af : Array Edge} {gu : Option (Nat × Bool)}
theorem recOp_run {ev : Operand → Value} (w : World) : (execOp ev ⟨some d, .call { callee := .builtin .recover, args := #[], argTypes := ats }, ty, pos, af, gu⟩).runT P w #[] = (.ok .recover w, #[]) := by
  unfold execOp
  simp [resolve, invoke, builtin, Sem.runT, Sem.bind]
theorem recOp_step {fr : Frame} {w : World} (hk : (fr.kind == CallKind.early) = false) (hr : fr.roundOf = none) {ev : Operand → Value} :
    stepG.apply P true fr cs none (execOp ev ⟨some d, .call { callee := .builtin .recover, args := #[], argTypes := ats }, ty, pos, af, gu⟩) w =
      match tryRecover fr cs with
      | some (x, callers) => .go { frame := fr.finish x, callers, status := .running, dying := none } w
      | none => .go { frame := fr.finish .nilIface, callers := cs, status := .running, dying := none } w := by
  unfold stepG.apply
  simp only [if_true, recOp_run, hk, Bool.false_eq_true, if_false, hr, seen_none]
  cases h : tryRecover fr cs with
  | none => simp [GStep.after]
  | some p => obtain ⟨x, cl⟩ := p; simp [GStep.after]
theorem run_recN (hk : b.kind = .deferred) (hr : b.roundOf = none) (ho : ops[i]? = some ⟨some d, .call { callee := .builtin .recover, args := #[], argTypes := ats }, ty, pos, af, gu⟩) (hw : Region.wanted ⟨some d, .call { callee := .builtin .recover, args := #[], argTypes := ats }, ty, pos, af, gu⟩ (yielded ops a.tmps) = true)
    (hm : c.mode = .returning) (h : Run P mn Stop v (G (b.on (a.put (some d) .nilIface) (.inRegion ops rest :: k)) (c :: cs))) : Run P mn Stop v (G (b.on a (.inRegion ops (i :: rest) :: k)) (c :: cs)) := by
  refine Run.ctl rfl (fun w => ?_) h
  rw [stepG_oper_on ho hw (.inl hr), recOp_step (by simp [Frame.on, hk]) (by simp [Frame.on, hr])]
  have : tryRecover (b.on a (.inRegion ops (i :: rest) :: k)) (c :: cs) = none := by
    unfold tryRecover
    simp [Frame.on, hk, hm]
  rw [this, finish_on b a ops i rest k _ .nilIface ho]
  rfl
theorem run_recP {x : Value} (hk : b.kind = .deferred) (hr : b.roundOf = none) (ho : ops[i]? = some ⟨some d, .call { callee := .builtin .recover, args := #[], argTypes := ats }, ty, pos, af, gu⟩) (hw : Region.wanted ⟨some d, .call { callee := .builtin .recover, args := #[], argTypes := ats }, ty, pos, af, gu⟩ (yielded ops a.tmps) = true)
    (hm : c.mode = .panicking [⟨x, false, false⟩]) (h : Run P mn Stop v (G (b.on (a.put (some d) x) (.inRegion ops rest :: k)) ({ c with mode := .panicking [⟨x, true, false⟩] } :: cs))) : Run P mn Stop v (G (b.on a (.inRegion ops (i :: rest) :: k)) (c :: cs)) := by
  refine Run.ctl rfl (fun w => ?_) h
  rw [stepG_oper_on ho hw (.inl hr), recOp_step (by simp [Frame.on, hk]) (by simp [Frame.on, hr])]
  have : tryRecover (b.on a (.inRegion ops (i :: rest) :: k)) (c :: cs) = some (x, { c with mode := .panicking [⟨x, true, false⟩] } :: cs) := by
    unfold tryRecover
    simp [Frame.on, hk, hm]
  rw [this, ← finish_on b a ops i rest k _ x ho]
  rfl
theorem run_leaveD {fr : Frame} {fn : Func} (hm : fr.mode = .returning) (hd : fr.defers = []) (hk : fr.kind = .deferred) (hf : P.funcs[fr.fn]? = some fn) (hres : fn.results = #[]) (hc : c.mode = .returning) (h : Run P mn Stop v (G c cs)) : Run P mn Stop v (G fr (c :: cs)) := by
  refine Run.ctl rfl (fun w => ?_) h
  simp [G, stepG, unwind, hm, hd, hf, results, hres, doReturn, hk, hc, GStep.after, seen_none, Sem.runT, Sem.bind]
theorem run_leaveP {fr : Frame} {fn : Func} {x : Value} (hm : fr.mode = .returning) (hd : fr.defers = []) (hk : fr.kind = .deferred) (hf : P.funcs[fr.fn]? = some fn) (hres : fn.results = #[]) (hc : c.mode = .panicking [⟨x, true, false⟩]) (h : Run P mn Stop v (G { c with mode := .returning } cs)) : Run P mn Stop v (G fr (c :: cs)) := by
  refine Run.ctl rfl (fun w => ?_) h
  simp [G, stepG, unwind, hm, hd, hf, results, hres, doReturn, hk, hc, GStep.after, seen_none, Sem.runT, Sem.bind]
theorem run_end {fn : Func} (hr : b.roundOf = none) (hds : a.defers = []) (hk : b.kind = .deferred) (hf : P.funcs[b.fn]? = some fn) (hres : fn.results = #[]) (hc : c.mode = .returning ∨ ∃ x, c.mode = .panicking [⟨x, true, false⟩]) (h : Run P mn Stop v (G { c with mode := .returning } cs)) : Run P mn Stop v (G (b.on a []) (c :: cs)) := by
  refine Run.ctl rfl (g' := G { b.on a [] with mode := .returning } (c :: cs)) (fun w => by simp [G, stepG, stepG.exec, Frame.on, hr]) ?_
  rcases hc with hc | ⟨x, hc⟩
  · refine run_leaveD rfl hds hk hf hres hc ?_
    have : ({ c with mode := .returning } : Frame) = c := by cases c; simp only at hc; subst hc; rfl
    rw [this] at h; exact h
  · exact run_leaveP rfl hds hk hf hres hc h
end
end Go.Pal
end
section
namespace Go.Pal
open Go Go.Conc View
section
variable {P : Program} {mn : Who} {Stop : View → Goroutine → Prop} {v : View} {b : Frame} {cs : List Frame} {a : Act} {n : Nat}
theorem run_tail {R : St → View → Prop} {ops : Array Oper} {l : List Nat} {c : Code} {σ : St} {u : View} (hk : b.kind ≠ .early) (hr : b.roundOf = none) (h : XO P mn none n ops l (SeqQ P mn none n c (fun e σ u => e = .normal ∧ R σ u)) σ u) (hf : Fits n σ a) (hb : Bok σ.β u) (hl : (u.union (bview σ.β)).Le v)
    (hq : ∀ σ' u' a', R σ' u' → Fits n σ' a' → Bok σ'.β u' → Run P mn Stop (u'.union (bview σ'.β)) (G (b.on a' []) cs)) : Run P mn Stop v (G (b.on a (.inRegion ops l :: [.code c])) cs) := by
  refine ((h a hf hb) Stop b [.code c] cs hk hr (fun e a' v' hP => ?_)).weaken hl
  obtain ⟨σ', u', hQ, hf', hb', hl'⟩ := hP
  cases e with
  | normal =>
    simp only [SeqQ] at hQ
    refine ((show XC P mn none n c (fun e σ u => e = .normal ∧ R σ u) σ' u' from hQ) a' hf' hb' Stop b [] cs hk hr (fun e a2 v2 hP2 => ?_)).weaken hl'
    obtain ⟨σ2, u2, ⟨rfl, hR⟩, hf2, hb2, hl2⟩ := hP2
    exact (hq _ _ _ hR hf2 hb2).weaken hl2
  | _ => simp only [SeqQ] at hQ; exact absurd hQ.1 (by simp)
end
section
variable {P : Program} {mn : Who} (T : Tab P) {rd : Option Nat} {n : Nat} {Q : Exit → St → View → Prop} {ds : List Deferred} {ρ : Regs} {β : Boxes} {v : View} {K : St → View → Prop}
  {ops : Array Oper} {i : Nat} {d : Nat} {ty : TypeId} {pos : String} {af : Array Edge} {gu : Option (Nat × Bool)}
theorem XR_at {l : List Oper} {todo : List Nat} {σ : St} (hd : ops.toList.drop i = l) (ht : List.range' i l.length = todo) (h : XR P mn rd n ops i l Q σ v) : XO P mn rd n ops todo Q σ v := ht ▸ h hd
end
end Go.Pal
end
section
namespace Go.Pal
open Go Go.Conc View
section
variable {P : Program} {mn : Who} (T : Tab P) {rd : Option Nat} {n : Nat} {Q : Exit → St → View → Prop} {ds : List Deferred} {ρ : Regs} {β : Boxes} {v : View} {K : St → View → Prop}
  {ops : Array Oper} {i : Nat} {d : Nat} {ty : TypeId} {pos : String} {af : Array Edge} {gu : Option (Nat × Bool)}
section
variable {S : List Rec} {done : List Nat} {ms : List Nat} {v0 : View} {todo : List Nat}
theorem S_slice_hm {t e : TypeId} {y z1 z2 : Operand} {a : Option Addr} {len cap h' m sz : Nat} {k1 k2 : IntKind} (ho : ops[i]? = some ⟨some d, .slice t y none (some z1) (some z2), ty, pos, af, gu⟩) (hw : wantG ops gu ρ = some true) (hn : Nat.blt d n = true) (hB : stepB ops ms done i = true)
    (hy : ρ.val y = some (.slice a len cap)) (ht : T.und t = some (.slice e)) (hs : T.siz e = some sz) (hhi : ρ.val z1 = some (.int k1 h')) (hmx : ρ.val z2 = some (.int k2 m)) (h3 : m ≤ cap) (h2 : h' ≤ m)
    (h : XS P mn n ops ms v0 Q todo S (i :: done) ⟨ds, (d, .slice (if m = 0 then a else a.map (·.add (0 * sz))) (h' - 0) (m - 0)) :: ρ, β⟩ v) : XS P mn n ops ms v0 Q (i :: todo) S done ⟨ds, ρ, β⟩ v :=
  xs_quiet (vq := fun _ => none) (x := .slice (if m = 0 then a else a.map (·.add (0 * sz))) (h' - 0) (m - 0)) ho hn hB (fun a hf => .inl ⟨fits_want hf (wantG_B hw), fun u _ => by
    unfold QAt execOp
    simp only [Option.map_none, Option.map_some, Instr.sliceAt, Instr.slice, Instr.sliceBounds, fits_eval hf _ _ hy, fits_eval hf _ _ hhi, fits_eval hf _ _ hmx, sx_bind, sx_pure, tx_und T ht]
    refine sx_bound h3 ?_
    refine sx_bound h2 ?_
    simp only [tx_siz T hs]
    exact ⟨Le.refl _, trivial⟩⟩) (fun _ _ b x e => by cases e) (sv_mem fun b x e => by cases e) h
end
theorem row_cell {a : Option Addr} {xs : List Value} {j : Nat} {x : Value} (h : RowAt v a xs) (hx : xs[j]? = some x) : ∃ b off p c e f, a = some ⟨b, off, none⟩ ∧ v b = some (p, .cells c e f) ∧ c[off + j]? = some x := by
  rcases h with rfl | ⟨b, off, p, c, e, f, h1, h2, _, h4⟩
  · simp at hx
  · exact ⟨b, off, p, c, e, f, h1, h2, h4 _ _ hx⟩
end
end Go.Pal
end
section
namespace Go.Pal
open Go Go.Conc View
section
variable {P : Program} {mn : Who} (T : Tab P) {rd : Option Nat} {n : Nat} {Q : Exit → St → View → Prop} {ds : List Deferred} {ρ : Regs} {β : Boxes} {v : View} {K : St → View → Prop}
  {ops : Array Oper} {i : Nat} {d : Nat} {ty : TypeId} {pos : String} {af : Array Edge} {gu : Option (Nat × Bool)}
theorem A_appendB {t t' e e' : TypeId} {k by_ m len cap cap2 : Nat} {y y2 : Operand} {z : Value} {a a2 : Option Addr} {cs xs : List Value} (ho : ops[i]? = some ⟨some d, .call { callee := .builtin .append, args := #[y, y2], argTypes := #[t, t'] }, ty, pos, af, gu⟩) (hw : wantG ops gu ρ = some true) (hn : Nat.blt d n = true)
    (hy : ρ.val y = some (.slice a len cap)) (hy2 : ρ.val y2 = some (.slice a2 m cap2))
    (ht : T.und t = some (.slice e)) (ht' : T.und t' = some (.slice e')) (hs : T.siz e = some k) (hby : T.byt e = some by_) (hz : T.zer e = some z) (hzs : z.cells.size = k)
    (hr1 : Bok β v → RowAt (v.union (bview β)) a cs) (hl1 : cs.length = len * k) (hr2 : Bok β v → RowAt (v.union (bview β)) a2 xs) (hxl : xs.length = m * k) (hc : cap < len + m)
    (hb : (2 * (len + m) + 768) * by_ ≤ 2 ^ 48) (hp : 0 < by_)
    (h : ∀ b c cap', OwnS e k [(b, c, e)] (some ⟨b, 0, none⟩) (len + m) cap' (cs ++ xs) → K ⟨ds, (d, .slice (some ⟨b, 0, none⟩) (len + m) cap') :: ρ, (b, c, e) :: β⟩ v) : XOp P mn rd n ops i Q K ⟨ds, ρ, β⟩ v := by
  refine xop_sem ho (wantG_B hw) (.inr rfl) hn fun ev hev hbk => ?_
  simp only [execOp, resolve, show (#[y, y2] : Array Operand).map ev = #[ev y, ev y2] from by simp, hev _ _ hy, hev _ _ hy2, sx_bind, sx_pure, invoke, builtin]
  refine sx_append_new T ht ht' hs hby hz hzs (hr1 hbk) hl1 (hr2 hbk) hxl hc hb hp fun r cap' c hr hc1 hc2 hc3 => ?_
  obtain ⟨h5, h6⟩ := bok_cons (c := c) (t := e) hbk hr
  exact ⟨(r, c, e) :: β, v, ⟨h5, h6⟩, h r c cap' (.box (by rw [List.length_append, hl1, hxl, Nat.add_mul]) hc1 hc2 hc3)⟩
end
end Go.Pal
end
section
namespace Go.Pal
open Go Go.Conc View
theorem split_head {bin rest : Boxes} : ∀ p, cnt p (bin ++ rest) = cnt p (bin ++ rest) := fun _ => rfl
theorem split_headA {bin rest : Boxes} : ∀ p, cnt p (List.append bin rest) = cnt p (bin ++ rest) := fun _ => rfl
theorem split_all {bin : Boxes} : ∀ p, cnt p bin = cnt p (bin ++ []) := fun p => by rw [List.append_nil]
theorem split_cons {x : Nat × Array Value × TypeId} {β bin rest : Boxes} (h : ∀ p, cnt p β = cnt p (bin ++ rest)) : ∀ p, cnt p (x :: β) = cnt p (bin ++ x :: rest) := fun p => by
  have := h p
  simp only [cnt_append, cnt_cons] at this ⊢
  omega
section
variable {P : Program} {mn : Who} {rd : Option Nat} {n : Nat} {ops : Array Oper} {i : Nat} {l : List Oper} {c : Code} {Q : Exit → St → View → Prop} {ds : List Deferred} {ρ : Regs} {β : Boxes} {v : View}
theorem Q_front {bin rest : Boxes} (hp : ∀ p, cnt p β = cnt p (bin ++ rest)) (h : XR P mn rd n ops i l Q ⟨ds, ρ, bin ++ rest⟩ v) : XR P mn rd n ops i l Q ⟨ds, ρ, β⟩ v := fun hd a hf hb => by
  obtain ⟨hb1, he⟩ := bok_perm (perm_of_cnt hp) hb
  rw [← he]
  exact h hd a ⟨hf.size, hf.defers, hf.get⟩ hb1
end
end Go.Pal
end
