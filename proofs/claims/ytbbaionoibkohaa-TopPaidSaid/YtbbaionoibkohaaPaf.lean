/- Part 6 of the proof that stands in the last text. -/
import Derived.KernelRfl
import Derived.Test.YtbbaionoibkohaaPae
set_option linter.all false
section
namespace Go.Pal
open Go Go.Conc View
def nthV : List Value → Nat → Option Value
  | [], _ => none
  | x :: _, 0 => some x
  | _ :: r, k + 1 => nthV r k
def cutV : List Value → Nat → Nat → Option (List Value)
  | _, 0, 0 => some []
  | [], _, _ => none
  | x :: r, 0, k + 1 => match cutV r 0 k with | some l => some (x :: l) | none => none
  | _ :: r, off + 1, k => cutV r off k
theorem nthV_eq : ∀ (l : List Value) (i : Nat), nthV l i = l[i]?
  | [], _ => by simp [nthV]
  | _ :: _, 0 => rfl
  | _ :: r, i + 1 => by simp [nthV, nthV_eq r i]
theorem cutV_eq : ∀ (l : List Value) (off k : Nat) (m : List Value), cutV l off k = some m → off + k ≤ l.length ∧ m = (l.drop off).take k
  | l, 0, 0, m, h => by unfold cutV at h; simp at h; simp [← h]
  | [], 0, k + 1, m, h => by simp [cutV] at h
  | [], off + 1, k, m, h => by simp [cutV] at h
  | x :: r, 0, k + 1, m, h => by
    simp only [cutV] at h
    split at h
    · rename_i l hl
      obtain ⟨h1, h2⟩ := cutV_eq r 0 k l hl
      cases h
      simp only [List.length_cons, List.drop_zero, List.take_succ_cons, h2]
      exact ⟨by omega, trivial⟩
    · cases h
  | x :: r, off + 1, k, m, h => by
    have h' : cutV r off k = some m := by
      cases k <;> simpa [cutV] using h
    obtain ⟨h1, h2⟩ := cutV_eq r off k m h'
    simp only [List.length_cons, List.drop_succ_cons]
    exact ⟨by omega, h2⟩
theorem InB.app {b : Nat} {c : Array Value} {t : TypeId} {l r : Boxes} (h : InB b c t r) : InB b c t (l ++ r) := by
  induction l with
  | nil => exact h
  | cons p l ih => exact .tail ih
theorem SetB.app {b : Nat} {c : Array Value} {l r r' : Boxes} (h : SetB b c r r') : SetB b c (l ++ r) (l ++ r') := by
  induction l with
  | nil => exact h
  | cons p l ih => exact .tail ih
section
variable {P : Program} {mn : Who} (T : Tab P) {rd : Option Nat} {n : Nat} {Q : Exit → St → View → Prop} {ds : List Deferred} {ρ : Regs} {β : Boxes} {v : View}
  {ops : Array Oper} {i : Nat} {rest : List Nat} {l : List Oper} {d : Nat} {op : Op} {ty : TypeId} {pos : String} {af : Array Edge} {gu : Option (Nat × Bool)} {K : St → View → Prop}
def readN (t : TypeId) (c : Array Value) (off : Nat) : Option Value :=
  match T.und t, T.siz t with
  | some d, some k => if aggOf d then (match cutV c.toList off k with | some l => some (.agg l.toArray) | none => none) else nthV c.toList off
  | _, _ => none
theorem readN_B {t : TypeId} {c : Array Value} {off : Nat} {x : Value} (h : readN T t c off = some x) : readB T t c off = some x := by
  unfold readN at h
  unfold readB
  split at h
  · rename_i d k h1 h2
    try simp only [h1, h2]
    split at h
    · rename_i ha
      rw [if_pos ha]
      split at h
      · rename_i m hm
        cases h
        obtain ⟨h3, h4⟩ := cutV_eq _ _ _ _ hm
        rw [if_pos (by simpa using h3), h4]
        congr 2
        apply Array.ext'
        simp [Array.toList_extract, List.extract]
      · cases h
    · rename_i ha
      rw [if_neg ha]
      rw [nthV_eq] at h
      simpa using h
  · cases h
theorem R_loadN {t t' : TypeId} {y : Operand} {b off : Nat} {c : Array Value} {x : Value} (ho : ops[i]? = some ⟨some d, .load t y, ty, pos, af, gu⟩) (hw : wantG ops gu ρ = some true) (hn : Nat.blt d n = true)
    (hy : ρ.val y = some (.pointer (some ⟨b, off, none⟩))) (hb : InB b c t' β) (hx : readN T t c off = some x)
    (h : XO P mn rd n ops rest Q ⟨ds, (d, x) :: ρ, β⟩ v) : XO P mn rd n ops (i :: rest) Q ⟨ds, ρ, β⟩ v := R_loadB T ho hw hn hy hb (readN_B T hx) h
theorem L_loadN {t t' : TypeId} {y : Operand} {b off : Nat} {c : Array Value} {x : Value} (hw : wantG ops gu ρ = some true) (hn : Nat.blt d n = true)
    (hy : ρ.val y = some (.pointer (some ⟨b, off, none⟩))) (hb : InB b c t' β) (hx : readN T t c off = some x)
    (h : XL P mn n ops Q l ⟨ds, (d, x) :: ρ, β⟩ v) : XL P mn n ops Q (⟨some d, .load t y, ty, pos, af, gu⟩ :: l) ⟨ds, ρ, β⟩ v := L_loadB T hw hn hy hb (readN_B T hx) h
theorem resL_cell {a : Tmp} {t t' : TypeId} {r : List ResultVar} {b off : Nat} {c : Array Value} {x : Value} {xs : List Value} (h1 : ρ.get a = some (.pointer (some ⟨b, off, none⟩))) (h2 : InB b c t' β) (h3 : readN T t c off = some x) (h4 : ResL T ρ β r xs) : ResL T ρ β (.cell a t :: r) (x :: xs) := .cell h1 h2 (readN_B T h3) h4
def mkL (ops : Array Oper) : List Nat → Array Bool
  | [] => Array.replicate ops.size false
  | i :: r => (mkL ops r).setIfInBounds i true
theorem mkL_size {done : List Nat} : (mkL ops done).size = ops.size := by
  induction done with
  | nil => simp [mkL]
  | cons i r ih => simp [mkL, ih]
abbrev Rec := Nat × Nat × Array Value × TypeId
def SV (S : List Rec) : List (Nat × View) := S.map fun p => (p.1, bview [(p.2.1, p.2.2.1, p.2.2.2)])
def XS (P : Program) (mn : Who) (n : Nat) (ops : Array Oper) (ms : List Nat) (v0 : View) (Q : Exit → St → View → Prop) (todo : List Nat) (S : List Rec) (done : List Nat) (σ : St) (v : View) : Prop :=
  ∀ a, Fits n σ a → Bok σ.β v → v0.Le v → Closed ops (mkL ops done) → AnyS P mn ops ms v0 (fun a u => Post n Q .normal a u) todo.length (SV S) (mkL ops done) a (v.union (bview σ.β))
theorem post_le {e : Exit} {a : Act} {u w : View} (hl : u.Le w) (h : Post n Q e a u) : Post n Q e a w := by
  obtain ⟨σ, u', h1, h2, h3, h4⟩ := h; exact ⟨σ, u', h1, h2, h3, h4.trans hl⟩
theorem S_start {id : Nat} (ms todo : List Nat) (hk : todo.length = ops.size) (hm : P.follows .mixedOrders = true) (hd : ops.all (fun o => !isDefer o.op) = true) (h : XS P mn n ops ms v Q todo [] [] ⟨ds, ρ, β⟩ v) : XC P mn rd n (.region id ops true) Q ⟨ds, ρ, β⟩ v := fun a hf hb =>
  wpX_mono (x_region_any2 (Q := fun e a u => e = .normal ∧ Post n Q .normal a u) (ms := ms) (v0 := v) hm hd (by
    have hkk : (fun (a : Act) (u : View) => (Exit.normal = Exit.normal ∧ Post n Q .normal a u)) = (fun a u => Post n Q .normal a u) := by funext a u; simp
    rw [hkk]
    have h' := h a hf hb (Le.refl _) (fun j o ho hj => by
      simp only [mkL, Array.getD_eq_getD_getElem?, Array.getElem?_replicate] at hj
      rw [if_pos (Array.getElem?_eq_some_iff.1 ho).1] at hj
      cases hj)
    rw [hk] at h'
    exact h')) fun e a u ⟨he, hp⟩ => ⟨u, Le.refl _, he ▸ hp⟩
theorem S_end {S : List Rec} {done : List Nat} {ms : List Nat} {v0 : View} (hr : (Region.ready .any ops (mkL ops done)).isEmpty = true) (h : Q .normal ⟨ds, ρ, β⟩ v) : XS P mn n ops ms v0 Q [] S done ⟨ds, ρ, β⟩ v := fun a hf hb _ _ =>
  ⟨by simpa using hr, post_here h hf hb⟩
def stepB (ops : Array Oper) (ms done : List Nat) (i : Nat) : Bool := (Region.ready .any ops (mkL ops done)).contains i && Region.free .any ops (mkL ops done) i && !ms.contains i && Region.noSelect ops
theorem xs_quiet {S S' : List Rec} {done : List Nat} {ms : List Nat} {v0 vq : View} {todo : List Nat} {o : Oper} {x : Value} {σ : St} (ho : ops[i]? = some o) (hn : okDst n o.dst = true) (hB : stepB ops ms done i = true)
    (hy : ∀ a, Fits n σ a → YieldsX P mn ops o x a vq) (hq : Bok σ.β v → v0.Le v → vq.Le (v.union (bview σ.β))) (hS : ∀ p ∈ (i, vq) :: SV S, p ∈ SV S' ∨ p.2.Le v0)
    (h : XS P mn n ops ms v0 Q todo S' (i :: done) ⟨σ.ds, putR o.dst x σ.ρ, σ.β⟩ v) : XS P mn n ops ms v0 Q (i :: todo) S done σ v := fun a hf hb hv hc => by
  simp only [stepB, Bool.and_eq_true] at hB
  obtain ⟨⟨⟨h1, h2⟩, h3⟩, h4⟩ := hB
  have hr : i ∈ Region.ready .any ops (mkL ops done) := by simpa using h1
  exact anyS_first (K := fun a u => Post n Q .normal a u) (fun a u v hl hp => post_le hl hp) ho (Region.noSelect_spec h4) (by simpa using h3) todo.length (SV S) (mkL ops done) a _ hc mkL_size (Region.free_spec ho h2) hr (hy a hf) (hq hb hv)
    (anyS_less hS _ _ _ _ (h _ (fits_put hf hn) hb hv (closed_set hc hr mkL_size)))
theorem sv_mem {S : List Rec} {v0 : View} {vq : View} (hl : vq.Le v0) : ∀ p ∈ (i, vq) :: SV S, p ∈ SV S ∨ p.2.Le v0 := fun p hp => by
  rcases List.mem_cons.1 hp with rfl | h
  · exact .inr hl
  · exact .inl h
section
variable {S : List Rec} {done : List Nat} {ms : List Nat} {v0 : View} {todo : List Nat}
theorem S_pure {x : Value} (ho : ops[i]? = some ⟨some d, op, ty, pos, af, gu⟩) (hw : wantG ops gu ρ = some true) (hn : Nat.blt d n = true) (hB : stepB ops ms done i = true) (hx : evalOp T ρ.val op = some x)
    (h : XS P mn n ops ms v0 Q todo S (i :: done) ⟨ds, (d, x) :: ρ, β⟩ v) : XS P mn n ops ms v0 Q (i :: todo) S done ⟨ds, ρ, β⟩ v :=
  xs_quiet (vq := fun _ => none) ho hn hB (fun a hf => .inl ⟨fits_want hf (wantG_B hw), fun u _ => evalOp_sound T (fits_eval hf) hx ⟨Le.refl _, rfl⟩⟩) (fun _ _ b x e => by cases e) (sv_mem fun b x e => by cases e) h
theorem S_skip (ho : ops[i]? = some ⟨some d, op, ty, pos, af, gu⟩) (hw : wantG ops gu ρ = some false) (hn : Nat.blt d n = true) (hB : stepB ops ms done i = true)
    (h : XS P mn n ops ms v0 Q todo S (i :: done) ⟨ds, (d, undef) :: ρ, β⟩ v) : XS P mn n ops ms v0 Q (i :: todo) S done ⟨ds, ρ, β⟩ v :=
  xs_quiet (vq := fun _ => none) ho hn hB (fun a hf => .inr ⟨fits_want hf (wantG_B hw), rfl⟩) (fun _ _ b x e => by cases e) (sv_mem fun b x e => by cases e) h
theorem S_elem {t e : TypeId} {y z : Operand} {b off len cap sz : Nat} {jz : Int} {k : IntKind} (j : Nat) (ho : ops[i]? = some ⟨some d, .indexAddr t y z, ty, pos, af, gu⟩) (hw : wantG ops gu ρ = some true) (hn : Nat.blt d n = true) (hB : stepB ops ms done i = true)
    (hy : ρ.val y = some (.slice (some ⟨b, off, none⟩) len cap)) (hz : ρ.val z = some (.int k jz)) (hj : jz = j) (ht : T.und t = some (.slice e)) (hs : T.siz e = some sz) (h1 : j < len)
    (h : XS P mn n ops ms v0 Q todo S (i :: done) ⟨ds, (d, .pointer (some ⟨b, off + j * sz, none⟩)) :: ρ, β⟩ v) : XS P mn n ops ms v0 Q (i :: todo) S done ⟨ds, ρ, β⟩ v := by
  subst hj
  exact xs_quiet (vq := fun _ => none) (x := .pointer (some ⟨b, off + j * sz, none⟩)) ho hn hB (fun a hf => .inl ⟨fits_want hf (wantG_B hw), fun u _ => by
    unfold QAt execOp
    simp only [fits_eval hf _ _ hy, fits_eval hf _ _ hz, sx_bind, sx_pure]
    refine sx_indexAt T ht hs (by omega) (by omega) ⟨Le.refl _, ?_⟩
    rw [add_none]; simp⟩) (fun _ _ b x e => by cases e) (sv_mem fun b x e => by cases e) h
theorem S_load {t e : TypeId} {y : Operand} {b off : Nat} {p : Bool} {c : Array Value} {f : Nat × Nat} {x : Value} (ho : ops[i]? = some ⟨some d, .load t y, ty, pos, af, gu⟩) (hw : wantG ops gu ρ = some true) (hn : Nat.blt d n = true) (hB : stepB ops ms done i = true)
    (hy : ρ.val y = some (.pointer (some ⟨b, off, none⟩))) (hb : v0 b = some (p, .cells c e f)) (hx : readB T t c off = some x)
    (h : XS P mn n ops ms v0 Q todo S (i :: done) ⟨ds, (d, x) :: ρ, β⟩ v) : XS P mn n ops ms v0 Q (i :: todo) S done ⟨ds, ρ, β⟩ v :=
  xs_quiet (vq := v0) (x := x) ho hn hB (fun a hf => .inl ⟨fits_want hf (wantG_B hw), fun u hu => by
    unfold QAt execOp
    simp only [Instr.loadAt, Instr.sureAddr, fits_eval hf _ _ hy, sx_bind, sx_pure]
    exact sx_loadVar T (hu _ _ hb) hx ⟨Le.refl _, rfl⟩⟩) (fun _ hv => hv.trans (union_le _ _)) (sv_mem (Le.refl _)) h
theorem S_loadB {t t' : TypeId} {y : Operand} {b off : Nat} {c : Array Value} {x : Value} (ho : ops[i]? = some ⟨some d, .load t y, ty, pos, af, gu⟩) (hw : wantG ops gu ρ = some true) (hn : Nat.blt d n = true) (hB : stepB ops ms done i = true)
    (hy : ρ.val y = some (.pointer (some ⟨b, off, none⟩))) (hb : InB b c t' β) (hx : readB T t c off = some x)
    (h : XS P mn n ops ms v0 Q todo ((i, b, c, t') :: S) (i :: done) ⟨ds, (d, x) :: ρ, β⟩ v) : XS P mn n ops ms v0 Q (i :: todo) S done ⟨ds, ρ, β⟩ v :=
  xs_quiet (vq := bview [(b, c, t')]) (S' := (i, b, c, t') :: S) (x := x) ho hn hB (fun a hf => .inl ⟨fits_want hf (wantG_B hw), fun u hu => by
    unfold QAt execOp
    simp only [Instr.loadAt, Instr.sureAddr, fits_eval hf _ _ hy, sx_bind, sx_pure]
    exact sx_loadVar T (hu b (true, .cells c t' (0, 0)) (by simp [bview])) hx ⟨Le.refl _, rfl⟩⟩) (fun hbk _ j x e => by
      simp only [bview] at e
      split at e
      · rename_i hj; subst hj; cases e; exact union_box hbk hb
      · cases e) (fun p hp => .inl hp) h
theorem S_loadN {t t' : TypeId} {y : Operand} {b off : Nat} {c : Array Value} {x : Value} (ho : ops[i]? = some ⟨some d, .load t y, ty, pos, af, gu⟩) (hw : wantG ops gu ρ = some true) (hn : Nat.blt d n = true) (hB : stepB ops ms done i = true)
    (hy : ρ.val y = some (.pointer (some ⟨b, off, none⟩))) (hb : InB b c t' β) (hx : readN T t c off = some x)
    (h : XS P mn n ops ms v0 Q todo ((i, b, c, t') :: S) (i :: done) ⟨ds, (d, x) :: ρ, β⟩ v) : XS P mn n ops ms v0 Q (i :: todo) S done ⟨ds, ρ, β⟩ v := S_loadB T ho hw hn hB hy hb (readN_B T hx) h
def KeepS (ops : Array Oper) (i : Nat) : List Rec → Boxes → Prop
  | [], _ => True
  | (k, b, c, t) :: S, β => (depB ops k ops.size i = true ∨ InB b c t β) ∧ KeepS ops i S β
theorem keepS_spec {i : Nat} {β : Boxes} : ∀ {S : List Rec}, KeepS ops i S β → ∀ p ∈ SV S, depB ops p.1 ops.size i = false → ∃ b c t, p.2 = bview [(b, c, t)] ∧ InB b c t β
  | [], _, p, hp, _ => by simp [SV] at hp
  | (k, b, c, t) :: S, h, p, hp, hd => by
    simp only [SV, List.map_cons, List.mem_cons] at hp
    rcases hp with rfl | hp
    · rcases h.1 with h1 | h1
      · simp only at hd; rw [h1] at hd; cases hd
      · exact ⟨b, c, t, rfl, h1⟩
    · exact keepS_spec h.2 p hp hd
def onlyB (ops : Array Oper) (ms done : List Nat) (i : Nat) : Bool := (Region.ready .any ops (mkL ops done)).contains i && (Region.ready .any ops (mkL ops done)).all (fun j => Nat.beq j i) && ms.contains i
theorem S_do (hB : onlyB ops ms done i = true) (h : XOp P mn (some 4294967295) n ops i (fun _ _ _ => False) (fun σ' u => v.Le u ∧ KeepS ops i S σ'.β ∧ XS P mn n ops ms v0 Q todo S (i :: done) σ' u) ⟨ds, ρ, β⟩ v) : XS P mn n ops ms v0 Q (i :: todo) S done ⟨ds, ρ, β⟩ v := fun a hf hb hv hc => by
  simp only [onlyB, Bool.and_eq_true] at hB
  obtain ⟨⟨h1, h2⟩, h3⟩ := hB
  have hr : i ∈ Region.ready .any ops (mkL ops done) := by simpa using h1
  show AnyS P mn ops ms v0 (fun a u => Post n Q .normal a u) (todo.length + 1) (SV S) (mkL ops done) a (v.union (bview β))
  refine ⟨fun e => (by rw [e] at hr; cases hr), fun j hj => ?_⟩
  have hji : j = i := Nat.eq_of_beq_eq_true (List.all_eq_true.1 h2 j hj)
  subst hji
  obtain ⟨o, ho, hw, hd, hs⟩ := h a hf hb
  unfold OpS
  simp only [ho, hw, if_true]
  have key : ∀ {a' w}, KP n (fun σ' u => v.Le u ∧ KeepS ops j S σ'.β ∧ XS P mn n ops ms v0 Q todo S (j :: done) σ' u) a' w → Keeps ops ms v0 (SV S) j (v.union (bview β)) w ∧ AnyS P mn ops ms v0 (fun a u => Post n Q .normal a u) todo.length (SV S) ((mkL ops done).setIfInBounds j true) a' w := by
    rintro a' w ⟨σ', u, ⟨hl, hk, hx⟩, hf', hb', hw'⟩
    refine ⟨?_, ?_⟩
    · unfold Keeps
      rw [if_pos h3]
      refine ⟨((hv.trans hl).trans (union_le _ _)).trans hw', fun p hp hdp => ?_⟩
      obtain ⟨b, c, t, he, hin⟩ := keepS_spec hk p hp hdp
      rw [he]
      intro j' x e
      simp only [bview] at e
      split at e
      · rename_i hj'; subst hj'; cases e; exact hw' _ _ (union_box hb' hin)
      · cases e
    · exact anyS_weaken (K := fun a u => Post n Q .normal a u) (fun a u v hl hp => post_le hl hp) _ _ _ _ _ _ hw' (hx _ hf' hb' (hv.trans hl) (closed_set hc hr mkL_size))
  refine semX_mono _ (fun nx w hK => ?_) (fun x w hE => ?_) hs
  · cases nx with
    | value x => exact key hK
    | skip => exact key hK
    | defer d => exact absurd hK.1 (by simp)
    | enter f args => exact CallsX.mono hK fun e w' hR => ⟨w', Le.refl _, by
        cases e with
        | ret x => exact key hR
        | pan ch => obtain ⟨_, _, hq, _⟩ := hR; exact hq⟩
    | round l f tmps assign body => exact absurd rfl hK.1
    | _ => exact hK.elim
  · obtain ⟨_, _, hq, _⟩ := hE; exact hq
end
theorem A_store {t t' : TypeId} {y z : Operand} {b off k : Nat} {c : Array Value} {x : Value} {β' : Boxes} (ho : ops[i]? = some ⟨none, .store t y z, ty, pos, af, gu⟩) (hw : wantG ops gu ρ = some true)
    (hy : ρ.val y = some (.pointer (some ⟨b, off, none⟩))) (hz : ρ.val z = some x) (ht : T.siz t = some k) (hk : x.cells.size = k) (hone : x.cells.toList.all oneCell = true) (hb : InB b c t' β) (hoff : Nat.ble (off + k) c.size = true) (hset : SetB b (writeB c off x.cells.toList) β β')
    (h : K ⟨ds, ρ, β'⟩ v) : XOp P mn rd n ops i Q K ⟨ds, ρ, β⟩ v := Op_storeB T ho (wantG_B hw) rfl rfl hy hz ht hk hone hb hoff hset h
theorem A_call {f : Operand} {args : Array Operand} {ats : Array TypeId} {k : FuncId} {first captured : Array Value} {xs : List Value} {R : End → Boxes → Prop} (bin rest : Boxes) (ho : ops[i]? = some ⟨some d, .call { callee := .value f, args := args, argTypes := ats }, ty, pos, af, gu⟩) (hw : wantG ops gu ρ = some true) (hn : Nat.blt d n = true)
    (hf : ρ.val f = some (.func (.func k) first captured)) (hxs : allGet ρ.val args.toList = some xs) (hk : Bodied P k)
    (hsplit : ∀ p, cnt p β = cnt p (bin ++ rest)) (hc : CallsB P mn k (first ++ xs.toArray ++ captured) R bin (v.union (bview rest)))
    (hr : ∀ x β', R (.ret x) β' → K ⟨ds, (d, x) :: ρ, β' ++ rest⟩ v) (hp : ∀ ch β', R (.pan ch) β' → Q (.panic ch) ⟨ds, ρ, β' ++ rest⟩ v) : XOp P mn rd n ops i Q K ⟨ds, ρ, β⟩ v :=
  Op_callB bin rest ho (wantG_B hw) hn rfl hf hxs hk hsplit hc hr hp
theorem A_append {t t' e e' : TypeId} {k by_ m len cap cap2 : Nat} {y y2 : Operand} {z : Value} {a a2 : Option Addr} {cs xs : List Value} (seg drop rest : Boxes) (ho : ops[i]? = some ⟨some d, .call { callee := .builtin .append, args := #[y, y2], argTypes := #[t, t'] }, ty, pos, af, gu⟩) (hw : wantG ops gu ρ = some true) (hn : Nat.blt d n = true)
    (hy : ρ.val y = some (.slice a len cap)) (hy2 : ρ.val y2 = some (.slice a2 m cap2))
    (ht : T.und t = some (.slice e)) (ht' : T.und t' = some (.slice e')) (hs : T.siz e = some k) (hby : T.byt e = some by_) (hz : T.zer e = some z) (hzs : z.cells.size = k)
    (hsplit : ∀ p, cnt p β = cnt p (seg ++ (drop ++ rest))) (hS : OwnS e k seg a len cap cs) (hx : Bok (drop ++ rest) v → RowAt (v.union (bview (drop ++ rest))) a2 xs) (hxl : xs.length = m * k) (hone : xs.all oneCell = true)
    (hb : (2 * (len + m) + 768) * by_ ≤ 2 ^ 48) (hp : 0 < by_)
    (h : ∀ seg' a' cap', OwnS e k seg' a' (len + m) cap' (cs ++ xs) → K ⟨ds, (d, .slice a' (len + m) cap') :: ρ, seg' ++ rest⟩ v) : XOp P mn rd n ops i Q K ⟨ds, ρ, β⟩ v :=
  Op_append T rest drop ho (wantG_B hw) hn rfl hy hy2 ht ht' hs hby hz hzs hsplit hS hx hxl hone hb hp h
end
end Go.Pal
end
section
namespace Go.Pal
open Go Go.Conc View
def quietOp : Op → Bool
  | .store .. | .alloc .. | .box .. | .buildSlice .. | .makeSlice .. | .slice .. | .makeMap .. => false
  | .call c => match c.callee with
    | .builtin .len | .builtin .cap | .builtin .min | .builtin .max => true
    | _ => false
  | _ => true
theorem C_lex {P : Program} {mn : Who} {rd : Option Nat} {n : Nat} {Q : Exit → St → View → Prop} {ds : List Deferred} {ρ : Regs} {β : Boxes} {v : View} {ops : Array Oper} {id : Nat} {l : List Oper} (hm : P.follows .mixedOrders = true) (hl : ops.toList = l) (hq : l.all (fun o => quietOp o.op) = true) (hB : (Region.lexB .any ops && ops.all (fun o => !isDefer o.op)) = true) (h : XL P mn n ops Q l ⟨ds, ρ, β⟩ v) :
    XC P mn rd n (.region id ops true) Q ⟨ds, ρ, β⟩ v := XC_lex hm hl hB h
theorem C_draw {P : Program} {mn : Who} {rd : Option Nat} {n : Nat} {Q : Exit → St → View → Prop} {ds : List Deferred} {ρ : Regs} {β : Boxes} {v : View} {ops : Array Oper} {id : Nat} (ms todo : List Nat) (hm : P.follows .mixedOrders = true) (hk : todo.length = ops.size) (hd : ops.all (fun o => !isDefer o.op) = true) (h : XS P mn n ops ms v Q todo [] [] ⟨ds, ρ, β⟩ v) : XC P mn rd n (.region id ops true) Q ⟨ds, ρ, β⟩ v :=
  S_start ms todo hk hm hd h
def partsOf (k : Nat) : Nat → List (Nat × Value) → Bool
  | _, [] => true
  | i, (j, x) :: r => Nat.beq j i && Nat.beq x.cells.size k && partsOf k (i + 1) r
theorem fill_all {k : Nat} : ∀ (ps : List (Nat × Value)) (i : Nat) (cs : Array Value), partsOf k i ps = true → i * k + ps.length * k = cs.size →
    ∃ out, Instr.fill (fun i => some (i * k, k)) cs ps = some out ∧ out.size = cs.size ∧ ∀ j, out[j]? = if j < i * k then cs[j]? else (ps.flatMap fun p => p.2.cells.toList)[j - i * k]?
  | [], i, cs, _, h => by
    refine ⟨cs, rfl, rfl, fun j => ?_⟩
    split
    · rfl
    · simp at h ⊢; omega
  | (j, x) :: r, i, cs, hp, h => by
    simp only [partsOf, Bool.and_eq_true] at hp
    obtain ⟨⟨h1, h2⟩, h3⟩ := hp
    have h1 := Nat.eq_of_beq_eq_true h1
    have h2 := Nat.eq_of_beq_eq_true h2
    subst h1
    simp only [List.length_cons, Nat.add_mul, Nat.one_mul] at h
    obtain ⟨out, ho1, ho2, ho3⟩ := fill_all r (j + 1) (writeB cs (j * k) x.cells.toList) h3 (by rw [writeB_size, Nat.add_mul, Nat.one_mul]; omega)
    refine ⟨out, ?_, by rw [ho2, writeB_size], fun q => ?_⟩
    · simp only [Instr.fill, h2]
      rw [if_neg (by simp; omega), foldl_set']
      exact ho1
    · rw [ho3 q, writeB_get (by simp [h2]; omega)]
      simp only [List.flatMap_cons, Array.length_toList, h2, Nat.add_mul, Nat.one_mul]
      by_cases hq : q < j * k
      · rw [if_pos (by omega), if_neg (by omega), if_pos hq]
      · rw [if_neg hq]
        by_cases hq2 : q < j * k + k
        · rw [if_pos hq2, if_pos (by omega), List.getElem?_append_left (by simp [h2]; omega)]
        · rw [if_neg hq2, List.getElem?_append_right (by simp [h2]; omega)]
          simp only [Array.length_toList, h2]
          congr 1
          omega
section
variable {P : Program} {mn : Who} (T : Tab P) {rd : Option Nat} {n : Nat} {Q : Exit → St → View → Prop} {ds : List Deferred} {ρ : Regs} {β : Boxes} {v : View}
  {ops : Array Oper} {i : Nat} {rest : List Nat} {l : List Oper} {d : Nat} {op : Op} {ty : TypeId} {pos : String} {af : Array Edge} {gu : Option (Nat × Bool)} {K : St → View → Prop}
theorem A_lit {t e : TypeId} {len k : Nat} {z : Value} {parts : Array (Nat × Operand)} {ps : List (Nat × Value)} (ho : ops[i]? = some ⟨some d, .buildSlice t len parts, ty, pos, af, gu⟩) (hw : wantG ops gu ρ = some true) (hn : Nat.blt d n = true)
    (ht : T.und t = some (.slice e)) (hs : T.siz e = some k) (hz : T.zer e = some z) (hps : allParts ρ.val parts.toList = some ps) (hp : partsOf k 0 ps = true) (hlen : Nat.beq ps.length len = true) (hsm : Nat.ble (len * k) 16777216 = true)
    (h : ∀ b c, OwnS e k [(b, c, e)] (some ⟨b, 0, none⟩) len len (ps.flatMap fun p => p.2.cells.toList) → K ⟨ds, (d, .slice (some ⟨b, 0, none⟩) len len) :: ρ, (b, c, e) :: β⟩ v) : XOp P mn rd n ops i Q K ⟨ds, ρ, β⟩ v := by
  refine xop_sem ho (wantG_B hw) (.inr rfl) hn fun ev hev hbk => ?_
  have hlen := Nat.eq_of_beq_eq_true hlen
  have hsm := Nat.le_of_ble_eq_true hsm
  unfold execOp
  have e1 : (parts.map fun (i, x) => (i, ev x)).toList = ps := by rw [← allParts_map hev hps]; simp
  simp only [Instr.buildSlice, sx_bind, tx_und T ht, tx_siz T hs, sx_pure, e1]
  rw [if_neg (by omega)]
  obtain ⟨KK, hKK⟩ : ∃ KK : Value → View → Prop, KK = fun a v' => ∃ β' u, (Bok β' u ∧ (u.union (bview β')).Le v') ∧ K ⟨ds, putR (some d) a ρ, β'⟩ u := ⟨_, rfl⟩
  have fin : ∀ (EE : Value → View → Prop) (zz : Array Value) (why : String), SemX P (match Instr.fill (fun i => some (i * k, k)) ((Array.range (len * k)).map (zz[· % zz.size]!)) ps with
      | some cells => do pure (.slice (some (← newRow e cells)) len len)
      | _ => stuck why) KK EE (v.union (bview β)) := by
    intro EE zz why
    obtain ⟨out, ho1, ho2, ho3⟩ := fill_all (k := k) ps 0 ((Array.range (len * k)).map (zz[· % zz.size]!)) hp (by simp [hlen])
    rw [ho1]
    simp only [newRow, sx_bind, sx_pure, sx_newObj]
    intro b hb
    obtain ⟨h1, h2⟩ := bok_cons (c := out) (t := e) hbk hb
    have hflat : (ps.flatMap fun p => p.2.cells.toList).length = len * k := by
      have : ∀ (ps : List (Nat × Value)) (i : Nat), partsOf k i ps = true → (ps.flatMap fun p => p.2.cells.toList).length = ps.length * k := by
        intro ps
        induction ps with
        | nil => intros; simp
        | cons p r ih =>
          intro i hp
          obtain ⟨j, x⟩ := p
          simp only [partsOf, Bool.and_eq_true] at hp
          have := Nat.eq_of_beq_eq_true hp.1.2
          simp only [List.flatMap_cons, List.length_append, ih _ hp.2, List.length_cons, Array.length_toList, this]
          rw [Nat.add_mul]; omega
      rw [this ps 0 hp, hlen]
    rw [hKK]
    refine ⟨(b, out, e) :: β, v, ⟨h1, h2⟩, h b out (.box hflat (Nat.le_refl _) (by simpa using ho2) fun j x hj => ?_)⟩
    rw [ho3 j]
    simpa using hj
  rw [← hKK]
  split
  · rw [sx_bind, sx_pure]; exact fin _ _ _
  · rw [sx_bind, tx_zer T hz, sx_bind, sx_pure]; exact fin _ _ _
theorem A_make {t e : TypeId} {k by_ m : Nat} {kk kk' : IntKind} {z x : Value} {y y' : Operand} (ho : ops[i]? = some ⟨some d, .makeSlice t y y', ty, pos, af, gu⟩) (hw : wantG ops gu ρ = some true) (hn : Nat.blt d n = true)
    (hy : ρ.val y = some (.int kk m)) (hy' : ρ.val y' = some (.int kk' m)) (ht : T.und t = some (.slice e)) (hs : T.siz e = some k) (hz : T.zer e = some z) (hzs : Nat.beq z.cells.size k = true) (hby : T.byt e = some by_) (hm : by_ * m ≤ 2 ^ 48) (hm' : m < 2 ^ 63)
    (h : ∀ b c, c.size = m * k → (∀ j, j < m * k → c[j]? = some (z.cells[j % z.cells.size]!)) → K ⟨ds, (d, .slice (some ⟨b, 0, none⟩) m m) :: ρ, (b, c, e) :: β⟩ v) : XOp P mn rd n ops i Q K ⟨ds, ρ, β⟩ v := by
  refine xop_sem ho (wantG_B hw) (.inr rfl) hn fun ev hev hbk => ?_
  have hzs := Nat.eq_of_beq_eq_true hzs
  unfold execOp
  have hwr : IntKind.i64.wrap (m : Int) = m := wrap64 (by omega) (by omega)
  simp only [Instr.makeSlice, hev _ _ hy, hev _ _ hy', asInt, asIntOf, sx_bind, tx_und T ht, sx_pure, hwr]
  refine tx_info T hby fun inf hi => ?_
  have hnot : ¬ ((decide ((m : Int) < 0) || decide ((inf.bytes : Int) * (m : Int) > 2 ^ 48)) = true) := by
    rw [hi]
    simp only [Bool.or_eq_true, decide_eq_true_eq, not_or]
    refine ⟨by omega, ?_⟩
    have : ((by_ * m : Nat) : Int) ≤ ((2 ^ 48 : Nat) : Int) := Int.ofNat_le.2 hm
    simp only [Int.natCast_mul] at this
    omega
  rw [if_neg (by simp only [Bool.or_eq_true, not_or]; exact ⟨⟨by simpa using hnot, by simp⟩, by simp⟩)]
  rw [sx_bind]
  have rest : ∀ {K' : Unit → View → Prop}, K' () (v.union (bview β)) → ∀ b, SemX P (askRoom b) K' (fun x w => ∃ β' u, (Bok β' u ∧ (u.union (bview β')).Le w) ∧ Q (.panic [{ v := x, recovered := false }]) ⟨ds, ρ, β'⟩ u) (v.union (bview β)) := by
    intro K' hK b
    unfold askRoom
    split
    · exact ⟨trivial, hK⟩
    · exact hK
  refine rest ?_ _
  rw [sx_bind, tx_siz T hs]
  obtain ⟨KK, hKK⟩ : ∃ KK : Value → View → Prop, KK = fun a v' => ∃ β' u, (Bok β' u ∧ (u.union (bview β')).Le v') ∧ K ⟨ds, putR (some d) a ρ, β'⟩ u := ⟨_, rfl⟩
  have fin : ∀ (EE : Value → View → Prop) (zz : Array Value), (m * k ≠ 0 → zz = z.cells) → SemX P (do pure (.slice (some (← newRow e ((Array.range ((m : Int).toNat * k)).map (zz[· % zz.size]!)))) (m : Int).toNat (m : Int).toNat)) KK EE (v.union (bview β)) := by
    intro EE zz hzz
    simp only [newRow, sx_bind, sx_pure, sx_newObj]
    intro b hb
    obtain ⟨h1, h2⟩ := bok_cons (c := (Array.range ((m : Int).toNat * k)).map (zz[· % zz.size]!)) (t := e) hbk hb
    rw [hKK]
    refine ⟨_, v, ⟨h1, h2⟩, h b _ (by simp) fun j hj => ?_⟩
    rw [hzz (by omega)]
    simp [hj]
  rw [← hKK]
  split
  · rename_i h0
    rw [sx_bind, sx_pure]; exact fin _ _ fun h => absurd (by simpa using h0) h
  · rw [sx_bind, tx_zer T hz, sx_bind, sx_pure]; exact fin _ _ fun _ => rfl
theorem sx_bound {KK : Nat → View → Prop} {E : Value → View → Prop} {w : View} {k : IntKind} {x y : Nat} {c : BoundsCode} (hle : x ≤ y) (hK : KK x w) : SemX P (Instr.sliceBound (.int k x) y c) KK E w := by
  unfold Instr.sliceBound
  simp only [asIntOf, sx_bind, sx_pure]
  rw [if_pos ⟨by omega, by omega⟩]
  rw [sx_pure, Int.toNat_natCast]
  exact hK
theorem A_sliceArr {t e : TypeId} {y : Operand} {a : Addr} {len sz : Nat}  (ho : ops[i]? = some ⟨some d, .slice t y none none none, ty, pos, af, gu⟩) (hw : wantG ops gu ρ = some true) (hn : Nat.blt d n = true)
    (hy : ρ.val y = some (.pointer (some a))) (ht : T.und t = some (.array len e)) (hs : T.siz e = some sz)
    (h : K ⟨ds, (d, .slice (some (if len = 0 then a else a.add (0 * sz))) (len - 0) (len - 0)) :: ρ, β⟩ v) : XOp P mn rd n ops i Q K ⟨ds, ρ, β⟩ v := by
  refine xop_sem ho (wantG_B hw) (.inr rfl) hn fun ev hev hbk => ?_
  unfold execOp
  simp only [Option.map_none, Option.map_some, Instr.sliceAt, Instr.sureAddr, Instr.sliceBounds, hev _ _ hy, sx_bind, sx_pure, tx_und T ht]
  simp only [tx_siz T hs]
  exact ⟨β, v, ⟨hbk, Le.refl _⟩, h⟩
theorem A_sliceArr_h {t e : TypeId} {y z1 : Operand} {a : Addr} {len h' sz : Nat} {k1 : IntKind} (ho : ops[i]? = some ⟨some d, .slice t y none (some z1) none, ty, pos, af, gu⟩) (hw : wantG ops gu ρ = some true) (hn : Nat.blt d n = true)
    (hy : ρ.val y = some (.pointer (some a))) (ht : T.und t = some (.array len e)) (hs : T.siz e = some sz) (hhi : ρ.val z1 = some (.int k1 h')) (h2 : h' ≤ len)
    (h : K ⟨ds, (d, .slice (some (if len = 0 then a else a.add (0 * sz))) (h' - 0) (len - 0)) :: ρ, β⟩ v) : XOp P mn rd n ops i Q K ⟨ds, ρ, β⟩ v := by
  refine xop_sem ho (wantG_B hw) (.inr rfl) hn fun ev hev hbk => ?_
  unfold execOp
  simp only [Option.map_none, Option.map_some, Instr.sliceAt, Instr.sureAddr, Instr.sliceBounds, hev _ _ hy, hev _ _ hhi, sx_bind, sx_pure, tx_und T ht]
  refine sx_bound h2 ?_
  simp only [tx_siz T hs]
  exact ⟨β, v, ⟨hbk, Le.refl _⟩, h⟩
end
end Go.Pal
end
section
namespace Go.Pal
open Go Go.Conc View
def XR (P : Program) (mn : Who) (rd : Option Nat) (n : Nat) (ops : Array Oper) (i : Nat) (l : List Oper) (Q : Exit → St → View → Prop) (σ : St) (v : View) : Prop :=
  ops.toList.drop i = l → XO P mn rd n ops (List.range' i l.length) Q σ v
section
variable {P : Program} {mn : Who} (T : Tab P) {rd : Option Nat} {n : Nat} {Q : Exit → St → View → Prop} {ds : List Deferred} {ρ : Regs} {β : Boxes} {v : View} {σ : St}
  {ops : Array Oper} {i : Nat} {l : List Oper} {d : Nat} {o : Oper} {op : Op} {ty : TypeId} {pos : String} {af : Array Edge} {gu : Option (Nat × Bool)}
theorem xr_head (h : ops.toList.drop i = o :: l) : ops[i]? = some o ∧ ops.toList.drop (i + 1) = l := by
  constructor
  · have := congrArg List.head? h
    simpa [List.head?_drop] using this
  · have : ops.toList.drop (i + 1) = (ops.toList.drop i).drop 1 := by rw [List.drop_drop]
    rw [this, h]; rfl
theorem Q_region {id : Nat} {l : List Oper} (h : XR P mn rd n (List.toArray l) 0 l Q σ v) : XC P mn rd n (.region id (List.toArray l) false) Q σ v :=
  XC_region (l := List.range' 0 l.length) (by simp [List.range_eq_range']) (h rfl)
theorem Q_nil (h : Q .normal σ v) : XR P mn rd n ops i [] Q σ v := fun _ => XO_nil h
theorem Q_op (h : ops[i]? = some o → XOp P mn rd n ops i Q (fun σ u => XR P mn rd n ops (i + 1) l Q σ u) σ v) : XR P mn rd n ops i (o :: l) Q σ v := fun hd => by
  obtain ⟨h1, h2⟩ := xr_head hd
  refine XO_op (rest := List.range' (i + 1) l.length) fun a hf hb => ?_
  obtain ⟨o', ho, hw, hde, hs⟩ := h h1 a hf hb
  have key : ∀ {a' w}, KP n (fun σ u => XR P mn rd n ops (i + 1) l Q σ u) a' w → KP n (fun σ u => XO P mn rd n ops (List.range' (i + 1) l.length) Q σ u) a' w := fun ⟨σ', u, hK, hr⟩ => ⟨σ', u, hK h2, hr⟩
  refine ⟨o', ho, hw, hde, semX_mono _ (fun nx w hK => ?_) (fun x w hE => hE) hs⟩
  cases nx with
  | value x => exact key hK
  | skip => exact key hK
  | defer d => exact ⟨hK.1, key hK.2⟩
  | enter f args => exact CallsX.mono hK fun e w' hR => ⟨w', Le.refl _, by cases e <;> first | exact key hR | exact hR⟩
  | round l f tmps assign body =>
    refine ⟨hK.1, ?_⟩
    intro Stop c cs hc hk
    exact hK.2 Stop c cs hc fun e w' hR => hk e w' (by cases e <;> first | exact key hR | exact hR)
  | _ => exact hK.elim
theorem Q_pure {x : Value} (hw : wantG ops gu ρ = some true) (hn : Nat.blt d n = true) (hx : evalOp T ρ.val op = some x) (h : XR P mn rd n ops (i + 1) l Q ⟨ds, (d, x) :: ρ, β⟩ v) : XR P mn rd n ops i (⟨some d, op, ty, pos, af, gu⟩ :: l) Q ⟨ds, ρ, β⟩ v := fun hd =>
  R_pure T (xr_head hd).1 hw hn hx (h (xr_head hd).2)
theorem Q_skip (hw : wantG ops gu ρ = some false) (hn : Nat.blt d n = true) (h : XR P mn rd n ops (i + 1) l Q ⟨ds, (d, undef) :: ρ, β⟩ v) : XR P mn rd n ops i (⟨some d, op, ty, pos, af, gu⟩ :: l) Q ⟨ds, ρ, β⟩ v := fun hd =>
  R_skip (xr_head hd).1 hw hn (h (xr_head hd).2)
theorem Q_guard {op' : Op} {ty' : TypeId} {pos' : String} {af' : Array Edge} {gu' : Option (Nat × Bool)} {j : Nat} {want b : Bool} {dst : Option Tmp} (hj : ops[j]? = some ⟨some d, op', ty', pos', af', gu'⟩) (hb : ρ.get d = some (.bool b))
    (h1 : b = true → XR P mn rd n ops i (⟨dst, op, ty, pos, af, some (j, want)⟩ :: l) Q ⟨ds, (d, .bool true) :: ρ, β⟩ v) (h2 : b = false → XR P mn rd n ops i (⟨dst, op, ty, pos, af, some (j, want)⟩ :: l) Q ⟨ds, (d, .bool false) :: ρ, β⟩ v) : XR P mn rd n ops i (⟨dst, op, ty, pos, af, some (j, want)⟩ :: l) Q ⟨ds, ρ, β⟩ v := fun hd =>
  R_guard (xr_head hd).1 hj hb (fun h => h1 h hd) (fun h => h2 h hd)
theorem Q_box {t : TypeId} {y : Operand} {x : Value} (hw : wantG ops gu ρ = some true) (hn : Nat.blt d n = true) (hx : ρ.val y = some x) (h : ∀ b, XR P mn rd n ops (i + 1) l Q ⟨ds, (d, .pointer (some ⟨b, 0, none⟩)) :: ρ, (b, x.cells, t) :: β⟩ v) : XR P mn rd n ops i (⟨some d, .box t y, ty, pos, af, gu⟩ :: l) Q ⟨ds, ρ, β⟩ v := fun hd =>
  R_box (xr_head hd).1 hw hn hx (fun b => h b (xr_head hd).2)
theorem Q_alloc {t : TypeId} {z : Value} (hw : wantG ops gu ρ = some true) (hn : Nat.blt d n = true) (hz : T.zer t = some z) (h : ∀ b, XR P mn rd n ops (i + 1) l Q ⟨ds, (d, .pointer (some ⟨b, 0, none⟩)) :: ρ, (b, z.cells, t) :: β⟩ v) : XR P mn rd n ops i (⟨some d, .alloc t, ty, pos, af, gu⟩ :: l) Q ⟨ds, ρ, β⟩ v := fun hd =>
  R_alloc T (xr_head hd).1 hw hn hz (fun b => h b (xr_head hd).2)
theorem Q_loadN {t t' : TypeId} {y : Operand} {b off : Nat} {c : Array Value} {x : Value} (hw : wantG ops gu ρ = some true) (hn : Nat.blt d n = true) (hy : ρ.val y = some (.pointer (some ⟨b, off, none⟩))) (hb : InB b c t' β) (hx : readN T t c off = some x)
    (h : XR P mn rd n ops (i + 1) l Q ⟨ds, (d, x) :: ρ, β⟩ v) : XR P mn rd n ops i (⟨some d, .load t y, ty, pos, af, gu⟩ :: l) Q ⟨ds, ρ, β⟩ v := fun hd =>
  R_loadN T (xr_head hd).1 hw hn hy hb hx (h (xr_head hd).2)
theorem Q_loadB {t t' : TypeId} {y : Operand} {b off : Nat} {c : Array Value} {x : Value} (hw : wantG ops gu ρ = some true) (hn : Nat.blt d n = true) (hy : ρ.val y = some (.pointer (some ⟨b, off, none⟩))) (hb : InB b c t' β) (hx : readB T t c off = some x)
    (h : XR P mn rd n ops (i + 1) l Q ⟨ds, (d, x) :: ρ, β⟩ v) : XR P mn rd n ops i (⟨some d, .load t y, ty, pos, af, gu⟩ :: l) Q ⟨ds, ρ, β⟩ v := fun hd =>
  R_loadB T (xr_head hd).1 hw hn hy hb hx (h (xr_head hd).2)
theorem Q_load {t e : TypeId} {y : Operand} {b off : Nat} {p : Bool} {c : Array Value} {f : Nat × Nat} {x : Value} (hw : wantG ops gu ρ = some true) (hn : Nat.blt d n = true) (hy : ρ.val y = some (.pointer (some ⟨b, off, none⟩))) (hb : v b = some (p, .cells c e f)) (hx : readB T t c off = some x)
    (h : XR P mn rd n ops (i + 1) l Q ⟨ds, (d, x) :: ρ, β⟩ v) : XR P mn rd n ops i (⟨some d, .load t y, ty, pos, af, gu⟩ :: l) Q ⟨ds, ρ, β⟩ v := fun hd =>
  R_load T (xr_head hd).1 hw hn hy hb hx (h (xr_head hd).2)
theorem Q_elem {t e : TypeId} {y z : Operand} {b off len cap sz : Nat} {jz : Int} {k : IntKind} (j : Nat) (hw : wantG ops gu ρ = some true) (hn : Nat.blt d n = true)
    (hy : ρ.val y = some (.slice (some ⟨b, off, none⟩) len cap)) (hz : ρ.val z = some (.int k jz)) (hj : jz = j) (ht : T.und t = some (.slice e)) (hs : T.siz e = some sz) (h1 : j < len)
    (h : XR P mn rd n ops (i + 1) l Q ⟨ds, (d, .pointer (some ⟨b, off + j * sz, none⟩)) :: ρ, β⟩ v) : XR P mn rd n ops i (⟨some d, .indexAddr t y z, ty, pos, af, gu⟩ :: l) Q ⟨ds, ρ, β⟩ v := fun hd =>
  R_elem T j (xr_head hd).1 hw hn hy hz hj ht hs h1 (h (xr_head hd).2)
include T in
theorem Q_add {t t' : TypeId} {y z : Operand} {a b : Int} (hw : wantG ops gu ρ = some true) (hn : Nat.blt d n = true) (hy : ρ.val y = some (.int .i64 a)) (hz : ρ.val z = some (.int .i64 b)) (h1 : -9223372036854775808 ≤ a + b) (h2 : a + b ≤ 9223372036854775807)
    (h : XR P mn rd n ops (i + 1) l Q ⟨ds, (d, .int .i64 (a + b)) :: ρ, β⟩ v) : XR P mn rd n ops i (⟨some d, .binOp .add t y z t', ty, pos, af, gu⟩ :: l) Q ⟨ds, ρ, β⟩ v := fun hd =>
  R_add T (xr_head hd).1 hw hn hy hz h1 h2 (h (xr_head hd).2)
include T in
theorem Q_sub {t t' : TypeId} {y z : Operand} {a b : Int} (hw : wantG ops gu ρ = some true) (hn : Nat.blt d n = true) (hy : ρ.val y = some (.int .i64 a)) (hz : ρ.val z = some (.int .i64 b)) (h1 : -9223372036854775808 ≤ a - b) (h2 : a - b ≤ 9223372036854775807)
    (h : XR P mn rd n ops (i + 1) l Q ⟨ds, (d, .int .i64 (a - b)) :: ρ, β⟩ v) : XR P mn rd n ops i (⟨some d, .binOp .sub t y z t', ty, pos, af, gu⟩ :: l) Q ⟨ds, ρ, β⟩ v := fun hd =>
  R_sub T (xr_head hd).1 hw hn hy hz h1 h2 (h (xr_head hd).2)
include T in
theorem Q_bin {bo : BinOp} {t t' : TypeId} {y z : Operand} {a b : Value} (x : Value) (hw : wantG ops gu ρ = some true) (hn : Nat.blt d n = true) (hy : ρ.val y = some a) (hz : ρ.val z = some b) (hx : binVal T bo t a b = some x)
    (h : XR P mn rd n ops (i + 1) l Q ⟨ds, (d, x) :: ρ, β⟩ v) : XR P mn rd n ops i (⟨some d, .binOp bo t y z t', ty, pos, af, gu⟩ :: l) Q ⟨ds, ρ, β⟩ v :=
  Q_pure T hw hn (by simp only [evalOp, hy, hz, hx]) h
theorem Q_storeA {t t' : TypeId} {y z : Operand} {b off k : Nat} {c : Array Value} {x : Value} {β' : Boxes} (hw : wantG ops gu ρ = some true)
    (hy : ρ.val y = some (.pointer (some ⟨b, off, none⟩))) (hz : ρ.val z = some x) (ht : T.siz t = some k) (hk : x.cells.size = k) (hone : x.cells.toList.all oneCell = true) (hb : InB b c t' β) (hoff : Nat.ble (off + k) c.size = true) (hset : SetB b (writeB c off x.cells.toList) β β')
    (h : XR P mn rd n ops (i + 1) l Q ⟨ds, ρ, β'⟩ v) : XR P mn rd n ops i (⟨none, .store t y z, ty, pos, af, gu⟩ :: l) Q ⟨ds, ρ, β⟩ v := Q_op fun ho => A_store T ho hw hy hz ht hk hone hb hoff hset h
theorem Q_store {t t' : TypeId} {y z : Operand} {b off k : Nat} {c : Array Value} {x : Value} {β' : Boxes} (hw : wantG ops gu ρ = some true)
    (hy : ρ.val y = some (.pointer (some ⟨b, off, none⟩))) (hz : ρ.val z = some x) (ht : T.siz t = some k) (hk : x.cells.size = k) (hone : x.cells.toList.all oneCell = true) (hb : InB b c t' β) (hoff : Nat.ble (off + k) c.size = true) (hset : SetB b (putV c.toList off x.cells.toList).toArray β β')
    (h : XR P mn rd n ops (i + 1) l Q ⟨ds, ρ, β'⟩ v) : XR P mn rd n ops i (⟨none, .store t y z, ty, pos, af, gu⟩ :: l) Q ⟨ds, ρ, β⟩ v := Q_storeA T hw hy hz ht hk hone hb hoff (by rw [← writeB_put] at hset; exact hset) h
theorem A_storeN {K : St → View → Prop} {t t' : TypeId} {y z : Operand} {b off k : Nat} {c : Array Value} {x : Value} {β' : Boxes} (ho : ops[i]? = some ⟨none, .store t y z, ty, pos, af, gu⟩) (hw : wantG ops gu ρ = some true)
    (hy : ρ.val y = some (.pointer (some ⟨b, off, none⟩))) (hz : ρ.val z = some x) (ht : T.siz t = some k) (hk : x.cells.size = k) (hone : x.cells.toList.all oneCell = true) (hb : InB b c t' β) (hoff : Nat.ble (off + k) c.size = true) (hset : SetB b (putV c.toList off x.cells.toList).toArray β β')
    (h : K ⟨ds, ρ, β'⟩ v) : XOp P mn rd n ops i Q K ⟨ds, ρ, β⟩ v := A_store T ho hw hy hz ht hk hone hb hoff (by rw [← writeB_put] at hset; exact hset) h
theorem C_lex' {id : Nat} {l : List Oper} (hm : P.follows .mixedOrders = true) (hq : l.all (fun o => quietOp o.op) = true) (hB : (Region.lexB .any (List.toArray l) && (List.toArray l).all (fun o => !isDefer o.op)) = true) (h : XL P mn n (List.toArray l) Q l ⟨ds, ρ, β⟩ v) :
    XC P mn rd n (.region id (List.toArray l) true) Q ⟨ds, ρ, β⟩ v := C_lex hm rfl hq hB h
def RetB (R : Value → Boxes → Prop) : End → Boxes → Prop
  | .ret x, β => R x β
  | .pan _, _ => False
theorem A_callR {K : St → View → Prop} {f : Operand} {args : Array Operand} {ats : Array TypeId} {k : FuncId} {first captured : Array Value} {xs ys : List Value} {R : Value → Boxes → Prop} (bin rest : Boxes) (ho : ops[i]? = some ⟨some d, .call { callee := .value f, args := args, argTypes := ats }, ty, pos, af, gu⟩) (hk : Bodied P k) (hw : wantG ops gu ρ = some true) (hn : Nat.blt d n = true)
    (hf : ρ.val f = some (.func (.func k) first captured)) (hxs : allGet ρ.val args.toList = some xs) (hys : first.toList ++ (xs ++ captured.toList) = ys)
    (hsplit : ∀ p, cnt p β = cnt p (bin ++ rest)) (hc : CallsB P mn k ys.toArray (RetB R) bin (v.union (bview rest)))
    (hr : ∀ x β', R x β' → K ⟨ds, (d, x) :: ρ, β' ++ rest⟩ v) : XOp P mn rd n ops i Q K ⟨ds, ρ, β⟩ v :=
  A_call (R := RetB R) bin rest ho hw hn hf hxs hk hsplit (by
    have : first ++ xs.toArray ++ captured = ys.toArray := by rw [← hys]; apply Array.ext'; simp
    rw [this]; exact hc) (fun x β' h => hr x β' h) (fun ch β' h => h.elim)
end
end Go.Pal
end
section
namespace Go.Pal
open Go Go.Conc View
theorem flat_get {k : Nat} : ∀ (xs : List (List Value)) (j i : Nat), (∀ x ∈ xs, x.length = k) → i < k → xs.flatten[j * k + i]? = (xs[j]?).bind (·[i]?)
  | [], j, i, _, _ => by simp
  | x :: xs, 0, i, h, hi => by
    have hx := h x (List.mem_cons_self ..)
    simp only [Nat.zero_mul, Nat.zero_add, List.flatten_cons, List.getElem?_cons_zero, Option.bind_some]
    rw [List.getElem?_append_left (by omega)]
  | x :: xs, j + 1, i, h, hi => by
    have hx := h x (List.mem_cons_self ..)
    have ih := flat_get xs j i (fun y hy => h y (List.mem_cons_of_mem _ hy)) hi
    simp only [List.flatten_cons, List.getElem?_cons_succ]
    rw [List.getElem?_append_right (by rw [hx, Nat.add_mul]; omega), ← ih]
    congr 1
    rw [hx, Nat.add_mul]; omega
theorem flat_len {k : Nat} : ∀ (xs : List (List Value)), (∀ x ∈ xs, x.length = k) → xs.flatten.length = xs.length * k
  | [], _ => by simp
  | x :: xs, h => by
    simp only [List.flatten_cons, List.length_append, List.length_cons, h x (List.mem_cons_self ..), flat_len xs (fun y hy => h y (List.mem_cons_of_mem _ hy)), Nat.add_mul]
    omega
theorem RowAt.recs {v : View} {a : Option Addr} {k : Nat} {xs : List (List Value)} (h : RowAt v a xs.flatten) (hk : ∀ x ∈ xs, x.length = k) (hk0 : 0 < k) {i : Nat} (hi : i < xs.length) :
    ∃ b off p c e f, a = some ⟨b, off, none⟩ ∧ v b = some (p, .cells c e f) ∧ ∀ j (hj : j < xs.length), off + j * k + k ≤ c.size ∧ c.extract (off + j * k) (off + j * k + k) = xs[j].toArray := by
  have hlen := flat_len xs hk
  rcases h with h | ⟨b, off, p, c, e, f, h1, h2, h3, h4⟩
  · rw [h] at hlen
    simp only [List.length_nil] at hlen
    have : 0 < xs.length * k := Nat.mul_pos (by omega) hk0
    omega
  · refine ⟨b, off, p, c, e, f, h1, h2, fun j hj => ?_⟩
    have hle : j * k + k ≤ xs.length * k := by
      have : (j + 1) * k ≤ xs.length * k := Nat.mul_le_mul_right _ hj
      rw [Nat.add_mul] at this; omega
    refine ⟨by omega, ?_⟩
    have hx := hk xs[j] (List.getElem_mem _)
    apply Array.ext_getElem?
    intro q
    simp only [Array.getElem?_extract, List.getElem?_toArray]
    by_cases hq : q < k
    · rw [if_pos (by omega)]
      have hg := flat_get xs j q hk hq
      rw [List.getElem?_eq_getElem hj, Option.bind_some] at hg
      rw [List.getElem?_eq_getElem (show q < xs[j].length by omega)] at hg ⊢
      rw [Nat.add_assoc]
      exact h4 _ _ hg
    · rw [if_neg (by omega), List.getElem?_eq_none (by omega)]
theorem RowAt.get {v : View} {a : Option Addr} {α : Type} {f : α → Value} {xs : List α} (h : RowAt v a (xs.map f)) {i : Nat} (hi : i < xs.length) :
    ∃ b off p c e fr, a = some ⟨b, off, none⟩ ∧ v b = some (p, .cells c e fr) ∧ ∀ j (hj : j < xs.length), c[off + j]? = some (f xs[j]) := by
  rcases h with h | ⟨b, off, p, c, e, fr, h1, h2, h3, h4⟩
  · have : xs = [] := by simpa using h
    subst this; simp at hi
  · exact ⟨b, off, p, c, e, fr, h1, h2, fun j hj => h4 j _ (by simp [hj])⟩
section
variable {P : Program} {mn : Who} (T : Tab P) {rd : Option Nat} {n : Nat} {Q : Exit → St → View → Prop} {ds : List Deferred} {ρ : Regs} {β : Boxes} {v : View} {σ : St}
  {ops : Array Oper} {i : Nat} {l : List Oper} {d : Nat} {o : Oper} {op : Op} {ty : TypeId} {pos : String} {af : Array Edge} {gu : Option (Nat × Bool)} {K : St → View → Prop}
theorem readB_rec {t : TypeId} {td : TypeDesc} {c : Array Value} {off k : Nat} {x : List Value} (h1 : T.und t = some td) (h2 : T.siz t = some k) (h3 : aggOf td = true) (h : off + k ≤ c.size ∧ c.extract off (off + k) = x.toArray) : readB T t c off = some (.agg x.toArray) := by
  unfold readB; rw [h1, h2]; simp only [h3, if_true, h.1, h.2]
theorem sx_indexArr {K : Value → View → Prop} {E : Value → View → Prop} {w : View} {t e : TypeId} {k : IntKind} {b off len sz j : Nat} {jz : Int} (ht : T.und t = some (.array len e)) (hs : T.siz e = some sz) (hj : jz = j) (h1 : j < len)
    (hk : K (.pointer (some ⟨b, off + j * sz, none⟩)) w) : SemX P (Instr.indexAt t (.pointer (some ⟨b, off, none⟩)) (.int k jz)) K E w := by
  subst hj
  unfold Instr.indexAt
  simp only [asIntOf, Instr.sureAddr, sx_bind, sx_pure, tx_und T ht]
  rw [if_pos ⟨by omega, by omega⟩, sx_bind, tx_siz T hs, sx_pure, add_none]
  simpa using hk
theorem Q_elemA {t e : TypeId} {y z : Operand} {b off len sz : Nat} {jz : Int} {k : IntKind} (j : Nat) (hw : wantG ops gu ρ = some true) (hn : Nat.blt d n = true)
    (hy : ρ.val y = some (.pointer (some ⟨b, off, none⟩))) (hz : ρ.val z = some (.int k jz)) (hj : jz = j) (ht : T.und t = some (.array len e)) (hs : T.siz e = some sz) (h1 : j < len)
    (h : XR P mn rd n ops (i + 1) l Q ⟨ds, (d, .pointer (some ⟨b, off + j * sz, none⟩)) :: ρ, β⟩ v) : XR P mn rd n ops i (⟨some d, .indexAddr t y z, ty, pos, af, gu⟩ :: l) Q ⟨ds, ρ, β⟩ v := Q_op fun ho => by
  refine xop_sem ho (wantG_B hw) (.inr rfl) hn fun ev hev hbk => ?_
  unfold execOp
  simp only [hev _ _ hy, hev _ _ hz, sx_bind, sx_pure]
  exact sx_indexArr T ht hs hj h1 ⟨β, v, ⟨hbk, Le.refl _⟩, h⟩
theorem S_elemA {S : List Rec} {done ms todo : List Nat} {v0 : View} {t e : TypeId} {y z : Operand} {b off len sz : Nat} {jz : Int} {k : IntKind} (j : Nat) (ho : ops[i]? = some ⟨some d, .indexAddr t y z, ty, pos, af, gu⟩) (hw : wantG ops gu ρ = some true) (hn : Nat.blt d n = true) (hB : stepB ops ms done i = true)
    (hy : ρ.val y = some (.pointer (some ⟨b, off, none⟩))) (hz : ρ.val z = some (.int k jz)) (hj : jz = j) (ht : T.und t = some (.array len e)) (hs : T.siz e = some sz) (h1 : j < len)
    (h : XS P mn n ops ms v0 Q todo S (i :: done) ⟨ds, (d, .pointer (some ⟨b, off + j * sz, none⟩)) :: ρ, β⟩ v) : XS P mn n ops ms v0 Q (i :: todo) S done ⟨ds, ρ, β⟩ v :=
  xs_quiet (vq := fun _ => none) (x := .pointer (some ⟨b, off + j * sz, none⟩)) ho hn hB (fun a hf => .inl ⟨fits_want hf (wantG_B hw), fun u _ => by
    unfold QAt execOp
    simp only [fits_eval hf _ _ hy, fits_eval hf _ _ hz, sx_bind, sx_pure]
    exact sx_indexArr T ht hs hj h1 ⟨Le.refl _, rfl⟩⟩) (fun _ _ b x e => by cases e) (sv_mem fun b x e => by cases e) h
end
end Go.Pal
end
section
namespace Go.Pal
open Go Go.Conc View
def methB (P : Program) (t : TypeId) (name : String) (f : FuncId) : Bool :=
  match P.info? t with
  | some i => match i.methods.find? (·.name == name) with
    | some m => m.path.isEmpty && (match m.func with | some (g, false) => Nat.beq g f | _ => false)
    | none => false
  | none => false
def plainD : TypeDesc → Bool
  | .pointer _ => false
  | _ => true
theorem RowAt.box {v : View} {β : Boxes} {b off : Nat} {c : Array Value} {t : TypeId} {cs : List Value} (hb : Bok β v) (hin : InB b c t β) (hoff : off + cs.length ≤ c.size) (h : ∀ i x, cs[i]? = some x → c[off + i]? = some x) : RowAt (v.union (bview β)) (some ⟨b, off, none⟩) cs :=
  .inr ⟨b, off, true, c, t, (0, 0), rfl, union_box hb hin, hoff, h⟩
theorem RowAt.own {v : View} {β seg : Boxes} {e : TypeId} {k : Nat} {a : Option Addr} {len cap : Nat} {cs : List Value} (hb : Bok β v) (hs : Subm seg β) (h : OwnS e k seg a len cap cs) : RowAt (v.union (bview β)) a cs :=
  h.row.le fun j x hj => union_le_right hb.disj _ _ ((bview_subm hs hb.nodup).2 _ _ hj)
section
variable {P : Program} {mn : Who} (T : Tab P) {rd : Option Nat} {n : Nat} {Q : Exit → St → View → Prop} {ds : List Deferred} {ρ : Regs} {β : Boxes} {v : View} {σ : St}
  {ops : Array Oper} {i : Nat} {l : List Oper} {d : Nat} {o : Oper} {op : Op} {ty : TypeId} {pos : String} {af : Array Edge} {gu : Option (Nat × Bool)} {K : St → View → Prop}
theorem sx_method {KK : FuncId × Value → View → Prop} {E : Value → View → Prop} {w : View} {t : TypeId} {td : TypeDesc} {x : Value} {name : String} {f : FuncId} {fuel : Nat} (hm : methB P t name f = true) (ht : T.und t = some td) (hp : plainD td = true) (hk : KK (f, x) w) :
    SemX P (method (fuel + 1) t x name) KK E w := by
  unfold methB at hm
  split at hm
  · rename_i inf hi
    split at hm
    · rename_i m hfind
      simp only [Bool.and_eq_true] at hm
      obtain ⟨hpath, hf⟩ := hm
      have hpath : m.path.toList = [] := by simpa using hpath
      unfold method
      rw [sx_bind, sx_typeInfo hi, hfind]
      simp only [sx_bind, hpath, follow, sx_pure]
      split at hf
      · rename_i g hg
        have := Nat.eq_of_beq_eq_true hf
        subst this
        simp only [hg, sx_bind]
        unfold receiverAt
        simp only [sx_bind, tx_und T ht]
        cases td <;> first | exact hk | cases hp
      · cases hf
    · cases hm
  · cases hm
theorem A_invoke {recv : Operand} {name : String} {args : Array Operand} {ats : Array TypeId} {k : FuncId} {t : TypeId} {td : TypeDesc} {x : Value} {xs ys : List Value} {R : Value → Boxes → Prop} (bin rest : Boxes) (ho : ops[i]? = some ⟨some d, .call { callee := .invoke recv name, args := args, argTypes := ats }, ty, pos, af, gu⟩) (hk : Bodied P k) (hm : methB P t name k = true) (ht : T.und t = some td) (hp : plainD td = true) (hw : wantG ops gu ρ = some true) (hn : Nat.blt d n = true)
    (hx : ρ.val recv = some (.iface t x)) (hxs : allGet ρ.val args.toList = some xs) (hys : x :: xs = ys)
    (hsplit : ∀ p, cnt p β = cnt p (bin ++ rest)) (hc : CallsB P mn k ys.toArray (RetB R) bin (v.union (bview rest)))
    (hr : ∀ x β', R x β' → K ⟨ds, (d, x) :: ρ, β' ++ rest⟩ v) : XOp P mn rd n ops i Q K ⟨ds, ρ, β⟩ v := by
  refine xop_sem ho (wantG_B hw) (.inr rfl) hn fun ev hev hbk => ?_
  have ha : args.map ev = xs.toArray := Array.toList_inj.1 (by simpa using allGet_map hev hxs)
  unfold execOp
  simp only [resolve, hev _ _ hx, ha, sx_bind, sx_pure, invoke]
  have h0 : (#[.iface t x] ++ xs.toArray : Array Value)[0]? = some (.iface t x) := by simp
  have h1 : (#[.iface t x] ++ xs.toArray : Array Value).extract 1 (#[.iface t x] ++ xs.toArray : Array Value).size = xs.toArray := by
    apply Array.ext'
    simp
  simp only [h0, h1, callMethod, sx_bind, sx_program]
  have hdep : 0 < Made.depth := by decide
  obtain ⟨fu, hfu⟩ : ∃ fu, P.types.size + Made.depth = fu + 1 := ⟨P.types.size + Made.depth - 1, by omega⟩
  rw [hfu]
  refine sx_method T hm ht hp ?_
  have h2 : (#[x] ++ xs.toArray : Array Value) = ys.toArray := by rw [← hys]; apply Array.ext'; simp
  simp only [h2]
  obtain ⟨hb1, he⟩ := bok_perm (perm_of_cnt hsplit) hbk
  obtain ⟨hb2, hb3⟩ := bok_append.1 hb1
  have hc' := hc hb3
  rw [← union_comm_boxes hb1, he] at hc'
  refine sx_callFunc hk (CallsX.mono hc' fun e w hR => ⟨w, Le.refl _, ?_⟩)
  obtain ⟨β', hR, hb', hl⟩ := hR
  have hb4 : Bok (β' ++ rest) v := bok_append.2 ⟨hb2, hb'⟩
  refine ⟨β' ++ rest, v, ⟨hb4, (union_comm_boxes hb4) ▸ hl⟩, ?_⟩
  cases e with
  | ret x => exact hr x β' hR
  | pan ch => exact hR.elim
theorem Q_retire {β1 β2 : Boxes} (hp : ∀ p, cnt p β = cnt p (β1 ++ β2)) (h : Bok β1 v → XR P mn rd n ops i l Q ⟨ds, ρ, β2⟩ (v.union (bview β1))) : XR P mn rd n ops i l Q ⟨ds, ρ, β⟩ v := fun hd =>
  XO_retire hp fun hb => h hb hd
theorem lit_box {b : Nat} {c : Array Value} {e : TypeId} {k len cap : Nat} {cs : List Value} (h : OwnS e k [(b, c, e)] (some ⟨b, 0, none⟩) len cap cs) : c.size = cap * k ∧ ∀ (i : Nat) (x : Value), cs[i]? = some x → c[i]? = some x := by
  generalize hs : [(b, c, e)] = seg at h
  generalize ha : some (⟨b, 0, none⟩ : Addr) = a at h
  cases h with
  | nil => cases hs
  | box h1 h2 h3 h4 => cases hs; exact ⟨h3, h4⟩
include T in
theorem S_add {S : List Rec} {done ms todo : List Nat} {v0 : View} {t t' : TypeId} {y z : Operand} {a b : Int} (ho : ops[i]? = some ⟨some d, .binOp .add t y z t', ty, pos, af, gu⟩) (hw : wantG ops gu ρ = some true) (hn : Nat.blt d n = true) (hB : stepB ops ms done i = true) (hy : ρ.val y = some (.int .i64 a)) (hz : ρ.val z = some (.int .i64 b))
    (h1 : -9223372036854775808 ≤ a + b) (h2 : a + b ≤ 9223372036854775807) (h : XS P mn n ops ms v0 Q todo S (i :: done) ⟨ds, (d, .int .i64 (a + b)) :: ρ, β⟩ v) : XS P mn n ops ms v0 Q (i :: todo) S done ⟨ds, ρ, β⟩ v := by
  refine S_pure T ho hw hn hB ?_ h
  simp only [evalOp, hy, hz, binVal, binInt, if_true, wrap64 h1 h2]
include T in
theorem S_sub {S : List Rec} {done ms todo : List Nat} {v0 : View} {t t' : TypeId} {y z : Operand} {a b : Int} (ho : ops[i]? = some ⟨some d, .binOp .sub t y z t', ty, pos, af, gu⟩) (hw : wantG ops gu ρ = some true) (hn : Nat.blt d n = true) (hB : stepB ops ms done i = true) (hy : ρ.val y = some (.int .i64 a)) (hz : ρ.val z = some (.int .i64 b))
    (h1 : -9223372036854775808 ≤ a - b) (h2 : a - b ≤ 9223372036854775807) (h : XS P mn n ops ms v0 Q todo S (i :: done) ⟨ds, (d, .int .i64 (a - b)) :: ρ, β⟩ v) : XS P mn n ops ms v0 Q (i :: todo) S done ⟨ds, ρ, β⟩ v := by
  refine S_pure T ho hw hn hB ?_ h
  simp only [evalOp, hy, hz, binVal, binInt, if_true, wrap64 h1 h2]
theorem A_copy {t t' ty' e : TypeId} {k m dlen dcap cap2 b off : Nat} {y y2 : Operand} {a2 : Option Addr} {xs : List Value} {c : Array Value} {β' : Boxes} (ho : ops[i]? = some ⟨some d, .call { callee := .builtin .copy, args := #[y, y2], argTypes := #[t, t'] }, ty, pos, af, gu⟩) (hw : wantG ops gu ρ = some true) (hn : Nat.blt d n = true)
    (hy : ρ.val y = some (.slice (some ⟨b, off, none⟩) dlen dcap)) (hy2 : ρ.val y2 = some (.slice a2 m cap2)) (ht : T.und t = some (.slice e)) (hs : T.siz e = some k)
    (hx : RowAt (v.union (bview β)) a2 xs) (hxl : xs.length = m * k) (hone : xs.all oneCell = true) (hle : m ≤ dlen) (hin : InB b c ty' β) (hoff : off + m * k ≤ c.size) (hset : SetB b (writeB c off xs) β β')
    (h : K ⟨ds, (d, .int .i64 m) :: ρ, β'⟩ v) : XOp P mn rd n ops i Q K ⟨ds, ρ, β⟩ v := by
  refine xop_sem ho (wantG_B hw) (.inr rfl) hn fun ev hev hbk => ?_
  simp only [execOp, resolve, show (#[y, y2] : Array Operand).map ev = #[ev y, ev y2] from by simp, hev _ _ hy, hev _ _ hy2, sx_bind, sx_pure, invoke, builtin, Builtin.copy_]
  simp only [show (#[t, t'] : Array TypeId)[0]? = some t from rfl, show ∀ x y : Value, (#[x, y] : Array Value)[0]? = some x from fun _ _ => rfl, show ∀ x y : Value, (#[x, y] : Array Value)[1]? = some y from fun _ _ => rfl, sx_bind, tx_und T ht, tx_siz T hs, sx_pure, Builtin.lenOf]
  have hmin : Nat.min m dlen = m := Nat.min_eq_left hle
  rw [hmin]
  refine sx_firstCells hx hxl ?_
  obtain ⟨hbk', c₀, t₀, hin', hv⟩ := setB_view hbk hset
  have hcc : c₀ = c ∧ t₀ = ty' := by
    have h1 := union_box (v := v) hbk hin'
    have h2 := union_box (v := v) hbk hin
    rw [h1] at h2
    simp only [Option.some.injEq, Prod.mk.injEq, Obj.cells.injEq] at h2
    exact ⟨h2.2.1, h2.2.2.1⟩
  obtain ⟨rfl, rfl⟩ := hcc
  refine sx_storeCells (off := off) (c := c₀) (e := t₀) (j := 0) hone (union_box hbk hin') (by simp; omega) ?_
  refine ⟨β', v, ⟨hbk', ?_⟩, h⟩
  rw [hv]
  exact Le.refl _
end
end Go.Pal
end
section
namespace Go.Pal
open Go Go.Conc View
section
variable {κ : Type} [DecidableEq κ]
variable {P : Program} {t : TypeId} {val : κ → Value} {E : Value → View → Prop} {v : View}
theorem sx_getO {K : Obj → View → Prop} {r : Nat} {p : Bool} {o : Obj} (hv : v r = some (p, o)) (h1 : isCells o = false) (h2 : o.isChan = false) (h : K o v) : SemX P (getObj r) K E v := ⟨p, o, hv, h1, h2, h⟩
theorem sx_setObj {K : Unit → View → Prop} {r : Nat} {o o' : Obj} (hv : v r = some (true, o')) (h1 : isCells o' = false) (h2 : o.isChan = false) (h : K () (v.set r true o)) : SemX P (setObj r o) K E v := ⟨o', hv, h1, h2, h⟩
variable (T : Tab P)
end
section
variable {P : Program} {mn : Who} (T : Tab P) {rd : Option Nat} {n : Nat} {Q : Exit → St → View → Prop} {ds : List Deferred} {ρ : Regs} {β : Boxes} {v : View} {K : St → View → Prop}
  {ops : Array Oper} {i : Nat} {d : Nat} {ty : TypeId} {pos : String} {af : Array Edge} {gu : Option (Nat × Bool)} {κ : Type} [DecidableEq κ] {t : TypeId} {val : κ → Value}
theorem box_none {r : Nat} {p : Bool} {o : Obj} (hb : Bok β v) (hv : v r = some (p, o)) : bview β r = none := by
  rcases hb.disj r with h | h
  · rw [hv] at h; cases h
  · exact h
theorem union_some {r : Nat} {x : Bool × Obj} (hv : v r = some x) : (v.union (bview β)) r = some x := by unfold View.union; rw [hv]
theorem bok_set {r : Nat} {p : Bool} {o : Obj} (hb : Bok β v) (hr : bview β r = none) : Bok β (v.set r p o) ∧ (v.union (bview β)).set r p o = (v.set r p o).union (bview β) := by
  refine ⟨⟨hb.nodup, disj_set hb.disj hr⟩, union_set⟩
end
end Go.Pal
end
section
namespace Go.Pal
open Go Go.Conc View
open Go.ConcN (sumTo upd sumTo_upd upd_ne upd_same)
section
variable {P : Program} {v : View} {g : Goroutine} {gs : Array Goroutine} {w w' : World} {t : Trace} {q : Nat → Nat} {S : Nat → Prop}
theorem BesideG.at (h : BesideG P v g gs w t q S) (d : Nat) : BesideG P v g gs (w.at d) t q S := ⟨h.zero, h.leave, h.past, h.agree, h.apart, h.low, h.calm, h.norel⟩
end
end Go.Pal
end
section
namespace Go.Pal
open Go Go.Conc View
open Go.ConcN (sumTo upd sumTo_upd upd_ne upd_same RelBy fork_knows)
def blk : Loc → Nat
  | .cell a => a.block
  | .obj r => r
  | _ => 0
def noView : View := fun _ => none
abbrev mkE (m : Mark) : Event := ⟨.mark m, false, true⟩
structure Proto where
  G : Type
  T : Type
  th : G → Nat → Option T
  ok : G → Prop
  size : G → Nat
  rank : G → Nat
  sh : G → View
  atb : Nat → Prop
  lock : Nat → Addr
  deaf : T → Nat
  rel : T → Bool
  acq : T → Bool
  blocks : G → Nat → Prop
  wakes : T → Bool
  fin : Addr
  over : G → Prop
  tr : G → Nat → G → Prop
def EvS (Pr : Proto) (i B : Nat) (e : Event) : Prop :=
  match e with
  | ⟨.mark .disable, _, _⟩ | ⟨.mark .enable, _, _⟩ => True
  | ⟨.mark (.acquire a), _, _⟩ | ⟨.mark (.releaseMerge a), _, _⟩ => a.block < B
  | ⟨.mark (.read a), _, _⟩ | ⟨.mark (.write a), _, _⟩ => i = 0 ∧ Pr.atb a.block ∧ a.block < B
  | ⟨.cell a, _, true⟩ => Pr.atb a.block ∧ a.block < B
  | _ => False
structure TI (Pr : Proto) (base : Nat) (S : Nat → Prop) (γ : Pr.G) (vs : Nat → View) (B : Nat) (t : Trace) : Prop where
  nr : ∀ said, ¬ Race said t
  own : ∀ i k a, touchAt t k = some a → a.loc.isMemory = true → (vs i).Owns (blk a.loc) → Knows t i k
  rd : ∀ i k a, touchAt t k = some a → a.loc.isMemory = true → vs i (blk a.loc) ≠ none → a.write = true → Knows t i k
  ato : ∀ k a, touchAt t k = some a → Pr.atb (blk a.loc) → a.loc.isMemory = true → a.kind = .atomic ∨ (a.kind = .said ∧ t.g? k = some 0) ∨ ∀ i, Pr.th γ i ≠ none → Knows t i k
  gd : ∀ k a, touchAt t k = some a → a.loc.isMemory = true → Pr.sh γ (blk a.loc) ≠ none → ¬ Pr.atb (blk a.loc) → (∀ i, Pr.th γ i ≠ none → Knows t i k) ∨ ∃ p, t.act? p = some (.mark (.releaseMerge (Pr.lock (blk a.loc)))) ∧ t.heard p ∧ Before t k p
  norel : NoRel t
  low : ∀ op ∈ t, op.act.low B
  deaf : ∀ i τ, Pr.th γ i = some τ → Deaf t i = Pr.deaf τ
  f1 : ∀ k a, touchAt t k = some a → a.loc.isMemory = true → Knows t 0 k ∨ (ShunL (fun b => S b ∨ Pr.atb b) a.loc ∧ a.kind = .atomic) ∨ (∃ i, base ≤ i ∧ i < Pr.size γ ∧ t.g? k = some i ∧ t.counts k)
  f2 : ∀ k g, t.g? k = some g → g ≠ 0 → t.counts k → (∃ j, t.g? j = some 0 ∧ HappensBefore t k j) ∨ (base ≤ g ∧ g < Pr.size γ)
  relp : ∀ i, base ≤ i → i < Pr.size γ → (∃ τ, Pr.th γ i = some τ ∧ Pr.rel τ = false) ∨ ∃ p, RelBy Pr.fin t i p
  acq : ∀ τ, Pr.th γ 0 = some τ → Pr.acq τ = true → ∃ q, t.g? q = some 0 ∧ t.act? q = some (.mark (.acquire Pr.fin)) ∧ t.heard q ∧ ∀ i, base ≤ i → i < Pr.size γ → ∃ p, p < q ∧ RelBy Pr.fin t i p
end Go.Pal
end
section
namespace Go.Pal
open Go Go.Conc View
open Go.ConcN (sumTo upd sumTo_upd upd_ne upd_same RelBy fork_knows)
theorem g_old {t : Trace} {k g : Nat} (u : Trace) (h : t.g? k = some g) : (t ++ u).g? k = some g := by
  obtain ⟨op, ho, hg⟩ := Option.map_eq_some_iff.1 h
  have hk := lt_size_of_getElem? ho
  rw [g?_old hk]; exact h
theorem touch_cases {t u : Trace} {k : Nat} {a : Touch} (h : touchAt (t ++ u) k = some a) : (k < t.size ∧ touchAt t k = some a) ∨ (t.size ≤ k ∧ ∃ op ∈ u, op.act.touch? = some a ∧ (t ++ u)[k]? = some op) := by
  obtain ⟨op, ho, hoa⟩ := touch_of h
  rcases getElem?_append_cases ho with ⟨h1, h2⟩ | ⟨h1, h2⟩
  · exact .inl ⟨h1, by rw [touchAt_of h2]; exact hoa⟩
  · exact .inr ⟨h1, op, h2, hoa, ho⟩
theorem g_cases {t u : Trace} {k g : Nat} (h : (t ++ u).g? k = some g) : (k < t.size ∧ t.g? k = some g) ∨ (t.size ≤ k ∧ ∃ op ∈ u, op.g = g) := by
  obtain ⟨op, ho, hog⟩ := Option.map_eq_some_iff.1 h
  rcases getElem?_append_cases ho with ⟨h1, h2⟩ | ⟨h1, h2⟩
  · exact .inl ⟨h1, by rw [Trace.g?, h2]; exact congrArg some hog⟩
  · exact .inr ⟨h1, op, h2, hog⟩
theorem relBy_other {a : Addr} {t u : Trace} {k r : Nat} (h : RelBy a t k r) (hu : ∀ op ∈ u, op.g ≠ k) : RelBy a (t ++ u) k r :=
  h.app fun i hi hg => by
    rcases g_cases hg with ⟨h1, _⟩ | ⟨_, op, h2, h3⟩
    · omega
    · exact absurd h3 (hu op h2)
section
variable {Pr : Proto} {base : Nat} {S : Nat → Prop} {γ γ' : Pr.G} {vs : Nat → View} {lo : Nat} {hi' : Nat} {t : Trace} {i : Nat} {τ : Pr.T} {v' : View} {fn : FuncId} {pos : String} {es : Array Event}
theorem TI.spawn (h : TI Pr base S γ vs lo t) (hbs : 0 < base) (hc : base ≤ Pr.size γ) (hth : Pr.th γ 0 = some τ) (hd : Pr.deaf τ = 0) (habove : Deaf t (Pr.size γ) = 0) {c : Nat} (hcc : c = Pr.size γ) (hnone : Pr.th γ c = none)
    {σ0 σc : Pr.T} (h0 : Pr.th γ' 0 = some σ0) (hcth : Pr.th γ' c = some σc) (hoth : ∀ j, j ≠ 0 → j ≠ c → Pr.th γ' j = Pr.th γ j) (hsz : Pr.size γ' = c + 1) (hd0 : Pr.deaf σ0 = 0) (hdc : Pr.deaf σc = 0) (hrel : Pr.rel σc = false) (hacq : Pr.acq σ0 = false)
    (hsh : ∀ b, Pr.sh γ' b ≠ none → Pr.sh γ b ≠ none) {u uc : View} (hu : ∀ b, u b ≠ none → vs 0 b ≠ none) (hu' : ∀ b, u.Owns b → (vs 0).Owns b) (huc : ∀ b, uc b ≠ none → vs 0 b ≠ none) (huc' : ∀ b, uc.Owns b → (vs 0).Owns b) (fn₁ fn₂ : FuncId) (pos₁ pos₂ : String) :
    TI Pr base S γ' (upd (upd vs 0 u) c uc) lo (t ++ #[{ g := 0, fn := fn₁, pos := pos₁, act := .go c }, { g := c, fn := fn₂, pos := pos₂, act := .start }]) := by
  subst hcc
  have hc0 : Pr.size γ ≠ 0 := by omega
  generalize hx : ({ g := 0, fn := fn₁, pos := pos₁, act := .go (Pr.size γ) } : MemOp) = x
  generalize hy : ({ g := Pr.size γ, fn := fn₂, pos := pos₂, act := .start } : MemOp) = y
  have hx1 : x.g = 0 ∧ x.act = .go (Pr.size γ) := by rw [← hx]; exact ⟨rfl, rfl⟩
  have hy1 : y.g = Pr.size γ ∧ y.act = .start := by rw [← hy]; exact ⟨rfl, rfl⟩
  have hdt : Deaf t 0 = 0 := (h.deaf 0 τ hth).trans hd
  have hck : ∀ k, Knows t 0 k → Knows (t ++ #[x, y]) (Pr.size γ) k := fun k hk => fork_knows hx1 hy1 hdt habove hk
  have hops : ∀ op ∈ #[x, y], op = x ∨ op = y := fun op hop => by simpa using hop
  have hnt : ∀ op ∈ #[x, y], op.act.touch? = none := fun op hop => by
    rcases hops op hop with rfl | rfl
    · rw [hx1.2]; rfl
    · rw [hy1.2]; rfl
  have told : ∀ {k a}, touchAt (t ++ #[x, y]) k = some a → k < t.size ∧ touchAt t k = some a := fun ha => by
    rcases touch_cases ha with h1 | ⟨_, op, hop, hoa, _⟩
    · exact h1
    · rw [hnt op hop] at hoa; cases hoa
  have hkn : ∀ j k, (∀ i, Pr.th γ i ≠ none → Knows t i k) → Pr.th γ' j ≠ none → Knows (t ++ #[x, y]) j k := fun j k hk hj => by
    by_cases e : j = Pr.size γ
    · rw [e]; exact hck k (hk 0 (by rw [hth]; simp))
    · by_cases e0 : j = 0
      · rw [e0]; exact (hk 0 (by rw [hth]; simp)).app _
      · exact (hk j (by rw [← hoth j e0 e]; exact hj)).app _
  have hdeaf : ∀ j, Deaf (t ++ #[x, y]) j = Deaf t j := fun j => by
    have : t ++ #[x, y] = (t ++ #[x]) ++ #[y] := by apply Array.ext'; simp
    rw [this, Deaf_push, Deaf_push]
    simp only [deafStep, hx1.2, hy1.2]
  have nocount : ∀ k, t.size ≤ k → ¬ (t ++ #[x, y]).counts k := fun k hk ⟨z, hz, _⟩ => by
    have := (told (show touchAt (t ++ #[x, y]) k = some z from hz)).1; omega
  refine ⟨fun said => ?_, fun j k a ha hm hO => ?_, fun j k a ha hm hO hw => ?_, fun k a ha hA hm => ?_, fun k a ha hm hS hA => ?_, h.norel.app fun op hop A => ?_, fun op hop => ?_, fun j σ hj => ?_, fun k a ha hm => ?_, fun k g hk hg0 hct => ?_, fun j hj1 hj2 => ?_, fun σ hσ ha => ?_⟩
  · rintro ⟨i, j, hij, ⟨a, b, ha, hb, hc'⟩, n1, n2⟩
    have h1 := told ha
    have h2 := told hb
    exact h.nr said ⟨i, j, hij, ⟨a, b, h1.2, h2.2, hc'⟩, fun e => n1 (hb_app _ e), fun e => n2 (hb_app _ e)⟩
  · obtain ⟨hk, ha'⟩ := told ha
    by_cases e : j = Pr.size γ
    · rw [e, upd_same] at hO
      rw [e]
      exact hck k (h.own 0 k a ha' hm (huc' _ hO))
    · rw [upd_ne _ _ e] at hO
      by_cases e0 : j = 0
      · rw [e0, upd_same] at hO
        rw [e0]
        exact (h.own 0 k a ha' hm (hu' _ hO)).app _
      · rw [upd_ne _ _ e0] at hO
        exact (h.own j k a ha' hm hO).app _
  · obtain ⟨hk, ha'⟩ := told ha
    by_cases e : j = Pr.size γ
    · rw [e, upd_same] at hO
      rw [e]
      exact hck k (h.rd 0 k a ha' hm (huc _ hO) hw)
    · rw [upd_ne _ _ e] at hO
      by_cases e0 : j = 0
      · rw [e0, upd_same] at hO
        rw [e0]
        exact (h.rd 0 k a ha' hm (hu _ hO) hw).app _
      · rw [upd_ne _ _ e0] at hO
        exact (h.rd j k a ha' hm hO hw).app _
  · obtain ⟨hk, ha'⟩ := told ha
    rcases h.ato k a ha' hA hm with x' | ⟨x', y'⟩ | x'
    · exact .inl x'
    · exact .inr (.inl ⟨x', g_old _ y'⟩)
    · exact .inr (.inr fun j hj => hkn j k x' hj)
  · obtain ⟨hk, ha'⟩ := told ha
    rcases h.gd k a ha' hm (hsh _ hS) hA with x' | ⟨p, x', y', z'⟩
    · exact .inl fun j hj => hkn j k x' hj
    · have hp := lt_of_act? x'
      exact .inr ⟨p, by rw [act?_old hp]; exact x', (heard_old hp).2 y', z'.app _⟩
  · rcases hops op hop with rfl | rfl
    · rw [hx1.2]; simp
    · rw [hy1.2]; simp
  · rcases Array.mem_append.1 hop with z | z
    · exact h.low op z
    · rcases hops op z with rfl | rfl
      · rw [hx1.2]; trivial
      · rw [hy1.2]; trivial
  · rw [hdeaf]
    by_cases e : j = Pr.size γ
    · rw [e, hcth] at hj; cases hj; rw [e, habove, hdc]
    · by_cases e0 : j = 0
      · rw [e0, h0] at hj; cases hj; rw [e0, hdt, hd0]
      · exact h.deaf j σ (by rw [← hoth j e0 e]; exact hj)
  · obtain ⟨hk, ha'⟩ := told ha
    rcases h.f1 k a ha' hm with x' | x' | ⟨j, h1, h2, h3, h4⟩
    · exact .inl (x'.app _)
    · exact .inr (.inl x')
    · exact .inr (.inr ⟨j, h1, by omega, g_old _ h3, (counts_old hk).2 h4⟩)
  · rcases g_cases hk with ⟨h1, h2⟩ | ⟨h1, _⟩
    · rcases h.f2 k g h2 hg0 ((counts_old h1).1 hct) with ⟨j, x', y'⟩ | x'
      · exact .inl ⟨j, g_old _ x', hb_app _ y'⟩
      · exact .inr ⟨x'.1, by omega⟩
    · exact absurd hct (nocount k h1)
  · rw [hsz] at hj2
    by_cases e : j = Pr.size γ
    · exact .inl ⟨σc, by rw [e]; exact hcth, hrel⟩
    · rcases h.relp j hj1 (by omega) with ⟨σ, z, z'⟩ | ⟨p, z⟩
      · exact .inl ⟨σ, by rw [hoth j (by omega) e]; exact z, z'⟩
      · refine .inr ⟨p, relBy_other z fun op hop => ?_⟩
        rcases hops op hop with rfl | rfl
        · rw [hx1.1]; omega
        · rw [hy1.1]; exact Ne.symm e
  · rw [h0] at hσ; cases hσ; rw [hacq] at ha; cases ha
theorem TI.past (h : TI Pr base S γ vs lo t) (hbs : 0 < base) (hth : Pr.th γ 0 = some τ) (ha : Pr.acq τ = true) (hd : Pr.deaf τ = 0) : Past (ShunL (fun b => S b ∨ Pr.atb b)) lo t := by
  obtain ⟨q, h1, h2, h3, h4⟩ := h.acq τ hth ha
  have key : ∀ i, base ≤ i → i < Pr.size γ → ∀ k, t.g? k = some i → t.counts k → HappensBefore t k q := fun i hi1 hi2 k hk hc => by
    obtain ⟨p, h5, h6⟩ := h4 i hi1 hi2
    have hkp : k ≤ p := Nat.le_of_not_lt fun hlt => h6.after k hlt hk hc
    have hpq : HappensBefore t p q := .single (.inr ⟨.marked h5 (.inr h6.act) h2 (fun r _ _ hr => by
      obtain ⟨op, ho, hoa⟩ := Option.map_eq_some_iff.1 hr
      exact h.norel op (Array.mem_of_getElem? ho) _ hoa), h6.heard, h3⟩)
    rcases Nat.eq_or_lt_of_le hkp with rfl | hlt
    · exact hpq
    · obtain ⟨x, hx, hxg⟩ := Option.map_eq_some_iff.1 hk
      obtain ⟨y, hy, hyg⟩ := Option.map_eq_some_iff.1 h6.g
      exact (hb_po hlt hx hy (hxg.trans hyg.symm)).trans hpq
  refine ⟨h.nr, fun k a hka hm => ?_, fun k g hg hne hc => ?_, (h.deaf 0 τ hth).trans hd, h.low⟩
  · rcases h.f1 k a hka hm with x | x | ⟨i, hi1, hi2, hg, hc⟩
    · exact .inl x
    · exact .inr x
    · obtain ⟨y, hy, hyg⟩ := Option.map_eq_some_iff.1 h1
      exact .inl ⟨q, y, hy, hyg, .inr (key i hi1 hi2 k hg hc)⟩
  · rcases h.f2 k g hg hne hc with x | x
    · exact x
    · exact ⟨q, h1, key g x.1 x.2 k hg hc⟩
end
end Go.Pal
end
