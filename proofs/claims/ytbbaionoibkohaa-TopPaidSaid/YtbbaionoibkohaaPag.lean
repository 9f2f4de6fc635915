/- Part 7 of the proof that stands in the last text. -/
import Derived.Test.YtbbaionoibkohaaPaf
set_option linter.all false
section
namespace Go.Pal
open Go Go.Conc View
open Go.ConcN (upd upd_ne upd_same RelBy)
inductive Tree where
  | leaf
  | node (f : World → Tree)
inductive Tree.Lt : Tree → Tree → Prop
  | sub (f : World → Tree) (w : World) : Tree.Lt (f w) (.node f)
theorem Tree.acc : ∀ T : Tree, Acc Tree.Lt T
  | .leaf => ⟨_, fun y h => by cases h⟩
  | .node f => ⟨_, fun y h => by cases h with | sub _ w => exact Tree.acc (f w)⟩
def Tree.ofNat : Nat → Tree
  | 0 => .leaf
  | n + 1 => .node fun _ => Tree.ofNat n
inductive LL : List Tree → List Tree → Prop
  | head {a b : Tree} {l : List Tree} : Tree.Lt a b → LL (a :: l) (b :: l)
  | tail {a : Tree} {l m : List Tree} : LL l m → LL (a :: l) (a :: m)
theorem LL.acc_cons : ∀ {a : Tree}, Acc Tree.Lt a → ∀ {l : List Tree}, Acc LL l → Acc LL (a :: l) := by
  intro a ha
  induction ha with
  | intro a _ iha =>
    intro l hl
    induction hl with
    | intro l hl' ihl =>
      exact ⟨_, fun y hy => by
        cases hy with
        | head h => exact iha _ h ⟨_, hl'⟩
        | tail h => exact ihl _ h⟩
theorem LL.acc : ∀ l : List Tree, Acc LL l
  | [] => ⟨_, fun y h => by cases h⟩
  | a :: l => LL.acc_cons (Tree.acc a) (LL.acc l)
def rowT : Nat → (Nat → Tree) → List Tree
  | 0, _ => []
  | n + 1, f => f n :: rowT n f
theorem rowT_congr {f g : Nat → Tree} : ∀ {n : Nat}, (∀ i, i < n → f i = g i) → rowT n f = rowT n g
  | 0, _ => rfl
  | n + 1, h => by rw [rowT, rowT, h n (by omega), rowT_congr fun i hi => h i (by omega)]
theorem LL.upd {f : Nat → Tree} {i : Nat} {T : Tree} (h : Tree.Lt T (f i)) : ∀ {n : Nat}, i < n → LL (rowT n (upd f i T)) (rowT n f)
  | n + 1, hi => by
    rw [rowT, rowT]
    by_cases e : i = n
    · subst e
      rw [upd_same, rowT_congr (g := f) fun j hj => upd_ne f T (by omega)]
      exact .head h
    · rw [upd_ne f T (Ne.symm e)]
      exact .tail (LL.upd h (by omega))
inductive MRun (P : Program) (Stop : Goroutine → Prop) : Goroutine → Prop
  | stop {g : Goroutine} (h : Stop g) : MRun P Stop g
  | step {g g' : Goroutine} (hs : g.status = .running) (h : ∀ w, stepG P false g w = .go g' w #[]) (r : MRun P Stop g') : MRun P Stop g
inductive RunW (P : Program) (main : Bool) (W : World → Prop) (Stop : View → Goroutine → Prop) : View → Goroutine → Prop
  | stop {u v : View} {g : Goroutine} (hl : u.Le v) (h : Stop u g) : RunW P main W Stop v g
  | step {v : View} {g : Goroutine} (hs : g.status = .running) (ng : World → Goroutine) (nw : World → World) (ne : World → Array Event) (nv : World → View)
      (h : ∀ w, W w → v.Agree w → stepG P main g w = .go (ng w) (nw w) (ne w) ∧ StepOk v w (nv w) (nw w) (ne w))
      (r : ∀ w, W w → v.Agree w → RunW P main W Stop (nv w) (ng w)) : RunW P main W Stop v g
theorem RunW.weaken {P : Program} {main : Bool} {W : World → Prop} {Stop : View → Goroutine → Prop} {u v : View} {g : Goroutine} (h : RunW P main W Stop u g) (hl : u.Le v) : RunW P main W Stop v g := by
  cases h with
  | stop hl' h => exact .stop (hl'.trans hl) h
  | step hs ng nw ne nv h r => exact .step hs ng nw ne nv (fun w hW hw => ⟨(h w hW (hw.le hl)).1, (h w hW (hw.le hl)).2.le hl⟩) (fun w hW hw => r w hW (hw.le hl))
def RunT (P : Program) (main : Bool) (W : World → Prop) (Stop : View → Goroutine → Prop) : Tree → View → Goroutine → Prop
  | .leaf, v, g => ∃ u, View.Le u v ∧ Stop u g
  | .node f, v, g => g.status = .running ∧ ∀ w, W w → v.Agree w → ∃ g' w' es v', stepG P main g w = .go g' w' es ∧ StepOk v w v' w' es ∧ RunT P main W Stop (f w) v' g'
def RunM (P : Program) (Stop : Goroutine → Prop) : Tree → Goroutine → Prop
  | .leaf, g => Stop g
  | .node f, g => g.status = .running ∧ ∃ g', (∀ w, stepG P false g w = .go g' w #[]) ∧ ∀ w, RunM P Stop (f w) g'
section
variable (P : Program) (Pr : Proto) (base : Nat)
structure SS (i : Nat) (γ : Pr.G) (τ : Pr.T) (u : View) (w : World) (γ' : Pr.G) (u' : View) (w' : World) (es : Array Event) : Prop where
  tr : Pr.tr γ i γ'
  size : Pr.size γ' = Pr.size γ
  tape : w'.tape = w.tape
  output : w'.output = w.output
  os : Go.ConcM.OsLater w.os w'.os
  heap : w'.heap.size = w.heap.size
  agree : u'.Agree w'
  agreeS : (Pr.sh γ').Agree w'
  keep : ∀ b, ¬ u.Owns b → Pr.sh γ b = none → w'.heap[b]? = w.heap[b]?
  disj : Disj u' (Pr.sh γ')
  ev : ∀ e ∈ es, EvS Pr i w.heap.size e
  deaf : ∀ σ, Pr.th γ' i = some σ → deafBehind (Pr.deaf τ) es = Pr.deaf σ
  gain : ∀ b, u' b ≠ none → u b ≠ none ∨ (es = #[mkE (.acquire (Pr.lock b))] ∧ Pr.deaf τ = 0 ∧ Pr.sh γ b ≠ none)
  own : ∀ b, u'.Owns b → u.Owns b ∨ (es = #[mkE (.acquire (Pr.lock b))] ∧ Pr.deaf τ = 0 ∧ Pr.sh γ b ≠ none)
  lose : ∀ b, Pr.sh γ' b ≠ none → Pr.sh γ b ≠ none ∨ (es = #[mkE (.releaseMerge (Pr.lock b))] ∧ Pr.deaf τ = 0 ∧ u.Owns b)
  mute : Pr.rel τ = true → ∀ j e, es[j]? = some e → (MemAct.ofEvent e).touch? = none ∨ ((∃ ad wr, e = ⟨.cell ad, wr, true⟩) ∧ 0 < deafBehind (Pr.deaf τ) (es.extract 0 j))
  rel : i ≠ 0 → (∃ σ, Pr.th γ' i = some σ ∧ Pr.rel σ = false) ∨ Pr.rel τ = true ∨ (es = #[mkE (.releaseMerge Pr.fin)] ∧ Pr.deaf τ = 0)
  acq : ∀ σ, i = 0 → Pr.th γ' 0 = some σ → Pr.acq σ = true → Pr.acq τ = true ∨ (es = #[mkE (.acquire Pr.fin)] ∧ Pr.deaf τ = 0)
noncomputable def Proto.rest (γ : Pr.G) : View := fun b => by classical exact if Pr.atb b then none else Pr.sh γ b
variable (K : View → Goroutine → Prop) (X : Nat → Pr.T → View → Goroutine → Prop)
inductive AtOut (i : Nat) (τ : Pr.T) (u : View) (g : Goroutine) (γ : Pr.G) (w : World) : Prop
  | on (γ' : Pr.G) (τ' : Pr.T) (u' : View) (g' : Goroutine) (w' : World) (es : Array Event) (h : stepG P (i == 0) g w = .go g' w' es) (hS : SS Pr i γ τ u w γ' u' w' es) (ht : Pr.th γ' i = some τ') (hr : Pr.rel τ' = true → u' = noView) (hx : X i τ' u' g')
  | quit (γ' : Pr.G) (g' : Goroutine) (w' : World) (es : Array Event) (q : Nat) (hi : i ≠ 0) (h : stepG P false g w = .go g' w' es) (hs : g'.status = .running) (hS : SS Pr i γ τ u w γ' noView w' es) (ht : Pr.th γ' i = none) (hq : QuitsD P q (deafBehind (Pr.deaf τ) es) g')
  | spawn (γ' : Pr.G) (τ' τc : Pr.T) (u' uc : View) (g' child : Goroutine) (hi : i = 0) (h : stepG P true g w = .spawn g' child w #[]) (htr : Pr.tr γ 0 γ') (hsz : Pr.size γ' = Pr.size γ + 1) (ht : Pr.th γ' 0 = some τ') (hc : Pr.th γ' (Pr.size γ) = some τc)
      (hd : Pr.deaf τ = 0) (hd' : Pr.deaf τ' = 0) (hdc : Pr.deaf τc = 0) (hrel : Pr.rel τc = false) (hacq : Pr.acq τ' = false) (hsh : Pr.sh γ' = Pr.sh γ)
      (hu : u'.Le u) (huc : ∀ b x, uc b = some x → ∃ p, u b = some (p, x.2) ∧ (x.1 = true → p = true)) (hex : ∀ b, (u'.Owns b → uc b = none) ∧ (uc.Owns b → u' b = none)) (hx : X 0 τ' u' g') (hxc : X (Pr.size γ) τc uc child)
  | over (hi : i = 0) (h : Pr.over γ) (hk : K (u.union (Pr.rest γ)) g)
def AtF (i : Nat) (τ : Pr.T) (u : View) (g : Goroutine) : Prop :=
  g.status = .running ∧ g.offers = none ∧ (Pr.wakes τ = true → mayWake P g = true) ∧
  ∀ γ w, Pr.ok γ → Pr.th γ i = some τ → u.Agree w → (Pr.sh γ).Agree w → Disj u (Pr.sh γ) → Calm w.tape →
    (Pr.blocks γ i → stepG P (i == 0) g w = .go { g with status := .blocked } w #[]) ∧ (¬ Pr.blocks γ i → AtOut P Pr K X i τ u g γ w)
def _root_.Go.Pal.Proto.Wd (Pr : Proto) (w : World) : Prop := ∃ γ, Pr.ok γ ∧ (Pr.sh γ).Agree w
def Job : Nat → Nat → Pr.T → View → Goroutine → Prop
  | 0, _, _, _, _ => True
  | n + 1, i, τ, v, g => (Pr.rel τ = false ∧ RunW P (i == 0) Pr.Wd (AtF P Pr K (Job n) i τ) v g) ∨ (Pr.rel τ = true ∧ v = noView ∧ MRun P (AtF P Pr K (Job n) i τ noView) g)
end
structure Laws (Pr : Proto) (base : Nat) : Prop where
  ok : ∀ {γ i γ'}, Pr.ok γ → Pr.tr γ i γ' → Pr.ok γ'
  rank : ∀ {γ i γ'}, Pr.ok γ → Pr.tr γ i γ' → Pr.rank γ' < Pr.rank γ
  oth : ∀ {γ i γ'}, Pr.ok γ → Pr.tr γ i γ' → ∀ j, j ≠ i → j ≠ Pr.size γ → Pr.th γ' j = Pr.th γ j
  lt : ∀ {γ j τ}, Pr.ok γ → Pr.th γ j = some τ → j = 0 ∨ (base ≤ j ∧ j < Pr.size γ)
  baseLe : ∀ {γ}, Pr.ok γ → base ≤ Pr.size γ
  live : ∀ {γ}, Pr.ok γ → ∃ i τ, Pr.th γ i = some τ ∧ ¬ Pr.blocks γ i
  wake : ∀ {γ i γ' τ j}, Pr.ok γ → Pr.th γ i = some τ → Pr.tr γ i γ' → j ≠ i → Pr.blocks γ j → ¬ Pr.blocks γ' j → Pr.wakes τ = true
  acq0 : ∀ {γ σ i τ}, Pr.ok γ → Pr.th γ 0 = some σ → Pr.acq σ = true → Pr.th γ i = some τ → i = 0 ∨ Pr.rel τ = true
  acqT : ∀ {γ γ' τ σ}, Pr.ok γ → Pr.tr γ 0 γ' → Pr.th γ 0 = some τ → Pr.th γ' 0 = some σ → Pr.acq σ = true → Pr.acq τ = true ∨ (∀ j, base ≤ j → j < Pr.size γ → ∀ ρ, Pr.th γ j = some ρ → Pr.rel ρ = true)
  main : ∀ {γ}, Pr.ok γ → ∃ τ, Pr.th γ 0 = some τ ∧ Pr.rel τ = false
  over : ∀ {γ}, Pr.ok γ → Pr.over γ → (∀ j, j ≠ 0 → Pr.th γ j = none) ∧ ∀ τ, Pr.th γ 0 = some τ → Pr.acq τ = true ∧ Pr.deaf τ = 0
  atbS : ∀ {γ b}, Pr.ok γ → Pr.atb b → Pr.sh γ b ≠ none
section
variable (P : Program) (Pr : Proto) (base : Nat) (K : View → Goroutine → Prop)
def Sit (j : Nat) (τ : Pr.T) (n : Nat) (T : Tree) (v : View) (g : Goroutine) (γ : Pr.G) : Prop :=
  (Pr.rel τ = false ∧ RunT P (j == 0) Pr.Wd (AtF P Pr K (Job P Pr K n) j τ) T v g) ∨ (Pr.rel τ = true ∧ v = noView ∧ RunM P (AtF P Pr K (Job P Pr K n) j τ noView) T g) ∨
  (T = .leaf ∧ Pr.blocks γ j ∧ ∃ u g₀, View.Le u v ∧ g = { g₀ with status := .blocked } ∧ AtF P Pr K (Job P Pr K n) j τ u g₀ ∧ (Pr.rel τ = true → v = noView))
structure PInv (S : Nat → Prop) (v0 : View) (w0 : World) (γ : Pr.G) (vs : Nat → View) (Ts : Nat → Tree) (ns : Nat → Nat) (gs : Array Goroutine) (w : World) (t : Trace) : Prop where
  size : gs.size = Pr.size γ
  ok : Pr.ok γ
  lev : ∀ j, Pr.rank γ ≤ ns j
  sit : ∀ j g τ, gs[j]? = some g → Pr.th γ j = some τ → Sit P Pr K j τ (ns j) (Ts j) (vs j) g γ
  gone : ∀ j g, gs[j]? = some g → Pr.th γ j = none → ∃ q, Ts j = Tree.ofNat q ∧ QuitsD P q (Deaf t j) g
  above : ∀ j, gs.size ≤ j → Deaf t j = 0
  agree : ∀ j, (vs j).Agree w
  agreeS : (Pr.sh γ).Agree w
  excl : ∀ i j, i ≠ j → ∀ b, (vs i).Owns b → vs j b = none
  disj : ∀ j, Disj (vs j) (Pr.sh γ)
  nov : ∀ j, Pr.th γ j = none → vs j = noView
  shun : ∀ b, S b → (∀ j, vs j b = none) ∧ Pr.sh γ b = none ∧ b < w.heap.size
  ti : TI Pr base S γ vs w.heap.size t
  calm : Calm w.tape
  tape : w.tape = w0.tape
  output : w.output = w0.output
  os : Go.ConcM.OsLater w0.os w.os
  heap : w0.heap.size ≤ w.heap.size
  keep : ∀ b, b < w0.heap.size → ¬ v0.Owns b → w.heap[b]? = w0.heap[b]?
  dom : ∀ j b, vs j b ≠ none → v0 b ≠ none ∨ w0.heap.size ≤ b
  own : ∀ j b, (vs j).Owns b → v0.Owns b ∨ w0.heap.size ≤ b
  ownS : ∀ b, Pr.sh γ b ≠ none → v0.Owns b ∨ w0.heap.size ≤ b
end
end Go.Pal
end
section
namespace Go.Pal
open Go Go.Conc View
open Go.ConcN (sumTo upd sumTo_upd upd_ne upd_same RelBy sumTo_congr)
section
variable {P : Program} {Pr : Proto} {base : Nat} {K : View → Goroutine → Prop} {S : Nat → Prop} {v0 : View} {w0 : World} {γ γ' : Pr.G} {vs : Nat → View} {Ts : Nat → Tree} {ns : Nat → Nat} {gs : Array Goroutine} {w : World} {t : Trace}
theorem RunT.running {main : Bool} {W : World → Prop} {Stop : View → Goroutine → Prop} (hs : ∀ u g, Stop u g → g.status = .running) : ∀ {T : Tree} {v : View} {g : Goroutine}, RunT P main W Stop T v g → g.status = .running
  | .leaf, _, _, ⟨_, _, h⟩ => hs _ _ h
  | .node _, _, _, h => h.1
theorem RunM.running {Stop : Goroutine → Prop} (hs : ∀ g, Stop g → g.status = .running) : ∀ {T : Tree} {g : Goroutine}, RunM P Stop T g → g.status = .running
  | .leaf, _, h => hs _ h
  | .node _, _, h => h.1
theorem AtF.running {X : Nat → Pr.T → View → Goroutine → Prop} {i : Nat} {τ : Pr.T} {u : View} {g : Goroutine} (h : AtF P Pr K X i τ u g) : g.status = .running := h.1
theorem Sit.status {j : Nat} {τ : Pr.T} {n : Nat} {T : Tree} {v : View} {g : Goroutine} (h : Sit P Pr K j τ n T v g γ) : g.status = .running ∨ g.status = .blocked := by
  rcases h with ⟨_, h⟩ | ⟨_, _, h⟩ | ⟨_, _, _, _, _, rfl, _⟩
  · exact .inl (h.running fun _ _ x => AtF.running x)
  · exact .inl (h.running fun _ x => AtF.running x)
  · exact .inr rfl
theorem PInv.at (I : PInv P Pr base K S v0 w0 γ vs Ts ns gs w t) (d : Nat) : PInv P Pr base K S v0 w0 γ vs Ts ns gs (w.at d) t :=
  ⟨I.size, I.ok, I.lev, I.sit, I.gone, I.above, I.agree, I.agreeS, I.excl, I.disj, I.nov, I.shun, I.ti, I.calm, I.tape, I.output, I.os, I.heap, I.keep, I.dom, I.own, I.ownS⟩
theorem get_other {i j : Nat} {g g' x : Goroutine} {w' : World} (hj : j ≠ i) (h : ((gs.map (woken P g g' w')).setIfInBounds i g')[j]? = some x) : ∃ y, gs[j]? = some y ∧ x = woken P g g' w' y := by
  rw [Array.getElem?_setIfInBounds_ne (Ne.symm hj), Array.getElem?_map] at h
  obtain ⟨y, hy, rfl⟩ := Option.map_eq_some_iff.1 h
  exact ⟨y, hy, rfl⟩
theorem get_self {i : Nat} {g g' x y : Goroutine} {w' : World} (hi : gs[i]? = some y) (h : ((gs.map (woken P g g' w')).setIfInBounds i g')[i]? = some x) : x = g' := by
  obtain ⟨hlt, _⟩ := Array.getElem?_eq_some_iff.1 hi
  rw [Array.getElem?_setIfInBounds_self_of_lt (by simpa using hlt)] at h
  exact (Option.some.inj h).symm
end
end Go.Pal
end
section
namespace Go.Pal
open Go Go.Conc View
open Go.ConcN (sumTo upd sumTo_upd upd_ne upd_same RelBy sumTo_congr)
section
variable {P : Program} {Pr : Proto} {base : Nat} {K : View → Goroutine → Prop} {S : Nat → Prop} {v0 : View} {w0 : World} {γ γ' : Pr.G} {vs : Nat → View} {Ts : Nat → Tree} {ns : Nat → Nat} {gs : Array Goroutine} {w : World} {t : Trace}
theorem PInv.spawn (hb : 0 < base) (L : Laws Pr base) (I : PInv P Pr base K S v0 w0 γ vs Ts ns gs w t) {g g' child : Goroutine} {τ σ0 σc : Pr.T} {u v' vc : View} {T Tc : Tree} {n : Nat} (hi : gs[0]? = some g) (hth : Pr.th γ 0 = some τ) (hu : u.Le (vs 0))
    (htr : Pr.tr γ 0 γ') (hsz : Pr.size γ' = Pr.size γ + 1) (ht : Pr.th γ' 0 = some σ0) (hc : Pr.th γ' (Pr.size γ) = some σc)
    (hd : Pr.deaf τ = 0) (hd' : Pr.deaf σ0 = 0) (hdc : Pr.deaf σc = 0) (hrel : Pr.rel σc = false) (hacq : Pr.acq σ0 = false) (hsh : Pr.sh γ' = Pr.sh γ)
    (hv' : v'.Le u) (hvc : ∀ b x, vc b = some x → ∃ p, u b = some (p, x.2) ∧ (x.1 = true → p = true)) (hex : ∀ b, (v'.Owns b → vc b = none) ∧ (vc.Owns b → v' b = none))
    (hn : Pr.rank γ' ≤ n) (hT : Sit P Pr K 0 σ0 n T v' g' γ') (hTc : Sit P Pr K (Pr.size γ) σc n Tc vc child γ')
    (hnw : ∀ j, j ≠ 0 → Pr.blocks γ j → Pr.blocks γ' j) (fn₁ fn₂ : FuncId) (pos₁ pos₂ : String) :
    PInv P Pr base K S v0 w0 γ' (upd (upd vs 0 v') (Pr.size γ) vc) (upd (upd Ts 0 T) (Pr.size γ) Tc) (upd (upd ns 0 n) (Pr.size γ) n) ((gs.setIfInBounds 0 g').push child) w (t ++ #[{ g := 0, fn := fn₁, pos := pos₁, act := .go (Pr.size γ) }, { g := Pr.size γ, fn := fn₂, pos := pos₂, act := .start }]) := by
  have hok' := L.ok I.ok htr
  have hrank := L.rank I.ok htr
  have hbl := L.baseLe I.ok
  have hc0 : Pr.size γ ≠ 0 := by omega
  have hnone : Pr.th γ (Pr.size γ) = none := by
    cases h : Pr.th γ (Pr.size γ) with
    | none => rfl
    | some σ =>
      rcases L.lt I.ok h with x | ⟨_, x⟩
      · omega
      · omega
  have hoth : ∀ j, j ≠ 0 → j ≠ Pr.size γ → Pr.th γ' j = Pr.th γ j := fun j h1 h2 => L.oth I.ok htr j h1 h2
  have hdeaf : ∀ j, Deaf (t ++ #[({ g := 0, fn := fn₁, pos := pos₁, act := .go (Pr.size γ) } : MemOp), { g := Pr.size γ, fn := fn₂, pos := pos₂, act := .start }]) j = Deaf t j := fun j => by
    have : t ++ #[({ g := 0, fn := fn₁, pos := pos₁, act := .go (Pr.size γ) } : MemOp), { g := Pr.size γ, fn := fn₂, pos := pos₂, act := .start }] = (t ++ #[({ g := 0, fn := fn₁, pos := pos₁, act := .go (Pr.size γ) } : MemOp)]) ++ #[({ g := Pr.size γ, fn := fn₂, pos := pos₂, act := .start } : MemOp)] := by apply Array.ext'; simp
    rw [this, Deaf_push, Deaf_push]
    simp only [deafStep]
  have hvd : ∀ b, v' b ≠ none → vs 0 b ≠ none := fun b h => by
    cases h' : v' b with
    | none => exact absurd h' h
    | some x => rw [hu _ _ (hv' _ _ h')]; simp
  have hvo : ∀ b, v'.Owns b → (vs 0).Owns b := fun b ⟨o, ho⟩ => ⟨o, hu _ _ (hv' _ _ ho)⟩
  have hcd : ∀ b, vc b ≠ none → vs 0 b ≠ none := fun b h => by
    cases h' : vc b with
    | none => exact absurd h' h
    | some x =>
      obtain ⟨p, hp, _⟩ := hvc b x h'
      rw [hu _ _ hp]; simp
  have hco : ∀ b, vc.Owns b → (vs 0).Owns b := fun b ⟨o, ho⟩ => by
    obtain ⟨p, hp, hp'⟩ := hvc b _ ho
    obtain rfl := hp' rfl
    exact ⟨o, hu _ _ hp⟩
  have hgs : ∀ j x, ((gs.setIfInBounds 0 g').push child)[j]? = some x → (j = Pr.size γ ∧ x = child) ∨ (j = 0 ∧ x = g') ∨ (j ≠ 0 ∧ j ≠ Pr.size γ ∧ gs[j]? = some x) := fun j x hx => by
    have hs := I.size
    obtain ⟨hlt, _⟩ := Array.getElem?_eq_some_iff.1 hi
    rw [Array.getElem?_push] at hx
    simp only [Array.size_setIfInBounds] at hx
    split at hx
    · rename_i e
      exact .inl ⟨by omega, (Option.some.inj hx).symm⟩
    · rename_i e
      by_cases h0 : j = 0
      · subst h0
        rw [Array.getElem?_setIfInBounds_self_of_lt hlt] at hx
        exact .inr (.inl ⟨rfl, (Option.some.inj hx).symm⟩)
      · rw [Array.getElem?_setIfInBounds_ne (by omega)] at hx
        exact .inr (.inr ⟨h0, by omega, hx⟩)
  have hvs0 : (upd (upd vs 0 v') (Pr.size γ) vc) 0 = v' := by rw [upd_ne _ _ (Ne.symm hc0), upd_same]
  have hcase : ∀ j, (j = Pr.size γ ∧ (upd (upd vs 0 v') (Pr.size γ) vc) j = vc) ∨ (j = 0 ∧ (upd (upd vs 0 v') (Pr.size γ) vc) j = v') ∨ (j ≠ 0 ∧ j ≠ Pr.size γ ∧ (upd (upd vs 0 v') (Pr.size γ) vc) j = vs j) := fun j => by
    by_cases e : j = Pr.size γ
    · subst e; exact .inl ⟨rfl, upd_same _ _ _⟩
    · by_cases e0 : j = 0
      · subst e0; exact .inr (.inl ⟨rfl, hvs0⟩)
      · exact .inr (.inr ⟨e0, e, by rw [upd_ne _ _ e, upd_ne _ _ e0]⟩)
  have hvsc : vs (Pr.size γ) = noView := I.nov _ hnone
  have hnewd : ∀ j b, (upd (upd vs 0 v') (Pr.size γ) vc) j b ≠ none → vs 0 b ≠ none ∨ vs j b ≠ none := fun j b h => by
    rcases hcase j with ⟨_, e⟩ | ⟨_, e⟩ | ⟨_, _, e⟩ <;> rw [e] at h
    · exact .inl (hcd b h)
    · exact .inl (hvd b h)
    · exact .inr h
  have hnewo : ∀ j b, ((upd (upd vs 0 v') (Pr.size γ) vc) j).Owns b → (vs 0).Owns b ∨ (vs j).Owns b := fun j b h => by
    rcases hcase j with ⟨_, e⟩ | ⟨_, e⟩ | ⟨_, _, e⟩ <;> rw [e] at h
    · exact .inl (hco b h)
    · exact .inl (hvo b h)
    · exact .inr h
  have hs := I.size
  refine ⟨by simp [hsz, hs], hok', fun j => ?_, fun j x σ hx hσ => ?_, fun j x hx hnn => ?_, fun j hj => ?_, fun j => ?_, by rw [hsh]; exact I.agreeS, fun j k hjk b hO => ?_, fun j b => ?_, fun j hnn => ?_, fun b hSb => ?_, ?_, I.calm, I.tape, I.output, I.os, I.heap, I.keep, fun j b hne => ?_, fun j b hO => ?_, by rw [hsh]; exact I.ownS⟩
  · by_cases e : j = Pr.size γ
    · subst e; rw [upd_same]; exact hn
    · rw [upd_ne _ _ e]
      by_cases e0 : j = 0
      · subst e0; rw [upd_same]; exact hn
      · rw [upd_ne _ _ e0]; have := I.lev j; omega
  · rcases hgs j x hx with ⟨rfl, rfl⟩ | ⟨rfl, rfl⟩ | ⟨h1, h2, h3⟩
    · rw [upd_same, upd_same, upd_same]
      rw [hc] at hσ; cases hσ; exact hTc
    · rw [upd_ne _ _ (Ne.symm hc0), upd_ne _ _ (Ne.symm hc0), upd_ne _ _ (Ne.symm hc0), upd_same, upd_same, upd_same]
      rw [ht] at hσ; cases hσ; exact hT
    · rw [upd_ne _ _ h2, upd_ne _ _ h2, upd_ne _ _ h2, upd_ne _ _ h1, upd_ne _ _ h1, upd_ne _ _ h1]
      rw [hoth j h1 h2] at hσ
      rcases I.sit j x σ h3 hσ with h | h | ⟨a, b, c⟩
      · exact .inl h
      · exact .inr (.inl h)
      · exact .inr (.inr ⟨a, hnw j h1 b, c⟩)
  · rcases hgs j x hx with ⟨rfl, rfl⟩ | ⟨rfl, rfl⟩ | ⟨h1, h2, h3⟩
    · rw [hc] at hnn; cases hnn
    · rw [ht] at hnn; cases hnn
    · rw [hoth j h1 h2] at hnn
      obtain ⟨q, h4, h5⟩ := I.gone j x h3 hnn
      rw [upd_ne _ _ h2, upd_ne _ _ h1, hdeaf]
      exact ⟨q, h4, h5⟩
  · rw [hdeaf]
    refine I.above j ?_
    simp at hj; omega
  · rcases hcase j with ⟨_, e⟩ | ⟨_, e⟩ | ⟨_, _, e⟩ <;> rw [e]
    · intro b p o hbo
      obtain ⟨p', hp, _⟩ := hvc b _ hbo
      exact I.agree 0 b p' o (hu _ _ hp)
    · exact (I.agree 0).le (hv'.trans hu)
    · exact I.agree j
  · rcases hcase j with ⟨e1, e⟩ | ⟨e1, e⟩ | ⟨e1, e1', e⟩ <;> rcases hcase k with ⟨e2, f⟩ | ⟨e2, f⟩ | ⟨e2, e2', f⟩ <;> rw [e] at hO <;> rw [f]
    · exact absurd (e1.trans e2.symm) hjk
    · exact (hex b).2 hO
    · exact I.excl 0 k (Ne.symm e2) b (hco b hO)
    · exact (hex b).1 hO
    · exact absurd (e1.trans e2.symm) hjk
    · exact I.excl 0 k (Ne.symm e2) b (hvo b hO)
    · apply Classical.byContradiction
      intro h
      exact hcd b h (I.excl j 0 e1 b hO)
    · apply Classical.byContradiction
      intro h
      exact hvd b h (I.excl j 0 e1 b hO)
    · exact I.excl j k hjk b hO
  · rw [hsh]
    apply Classical.byContradiction
    intro h
    simp only [not_or] at h
    rcases hnewd j b h.1 with x | x
    · exact (I.disj 0 b).elim x h.2
    · exact (I.disj j b).elim x h.2
  · rcases hcase j with ⟨rfl, _⟩ | ⟨rfl, _⟩ | ⟨e1, e1', e⟩
    · rw [hc] at hnn; cases hnn
    · rw [ht] at hnn; cases hnn
    · rw [e]; exact I.nov j (by rw [← hoth j e1 e1']; exact hnn)
  · obtain ⟨h1, h2, h3⟩ := I.shun b hSb
    refine ⟨fun j => ?_, by rw [hsh]; exact h2, h3⟩
    apply Classical.byContradiction
    intro h
    exact (hnewd j b h).elim (fun x => x (h1 0)) (fun x => x (h1 j))
  · exact I.ti.spawn hb hbl hth hd (I.above _ (by rw [I.size]; exact Nat.le_refl _)) rfl hnone ht hc hoth hsz hd' hdc hrel hacq (fun b h => by rw [hsh] at h; exact h) hvd hvo hcd hco fn₁ fn₂ pos₁ pos₂
  · rcases hnewd j b hne with x | x
    · exact I.dom 0 b x
    · exact I.dom j b x
  · rcases hnewo j b hO with x | x
    · exact I.own 0 b x
    · exact I.own j b x
theorem PInv.block (I : PInv P Pr base K S v0 w0 γ vs Ts ns gs w t) {i : Nat} {g : Goroutine} {τ : Pr.T} {u : View} (hi : gs[i]? = some g) (hth : Pr.th γ i = some τ) (hT : Ts i = .leaf) (hu : u.Le (vs i)) (hA : AtF P Pr K (Job P Pr K (ns i)) i τ u g) (hv : Pr.rel τ = true → vs i = noView) (hbl : Pr.blocks γ i) :
    PInv P Pr base K S v0 w0 γ vs Ts ns ((gs.map (woken P g { g with status := .blocked } w)).setIfInBounds i { g with status := .blocked }) w t := by
  have hwk : ∀ x, woken P g { g with status := .blocked } w x = x := fun x => by unfold woken; simp
  refine { I with size := by simpa using I.size, sit := fun j x σ hx hσ => ?_, gone := fun j x hx hn => ?_, above := fun j hj => I.above j (by simpa using hj) }
  · by_cases e : j = i
    · subst e
      rw [hth] at hσ; cases hσ
      rw [get_self hi hx]
      exact .inr (.inr ⟨hT, hbl, u, g, hu, rfl, hA, hv⟩)
    · obtain ⟨y, hy, rfl⟩ := get_other e hx
      rw [hwk]
      exact I.sit j y σ hy hσ
  · have e : j ≠ i := fun e => by subst e; rw [hth] at hn; cases hn
    obtain ⟨y, hy, rfl⟩ := get_other e hx
    rw [hwk]
    exact I.gone j y hy hn
end
end Go.Pal
end
section
namespace Go.Pal
open Go Go.Conc View
open Go.ConcN (sumTo upd sumTo_upd upd_ne upd_same RelBy sumTo_congr)
section
variable {P : Program} {Pr : Proto} {base : Nat} {K : View → Goroutine → Prop} {S : Nat → Prop} {v0 : View} {w0 : World} {γ γ' : Pr.G} {vs : Nat → View} {Ts : Nat → Tree} {ns : Nat → Nat} {gs : Array Goroutine} {w : World} {t : Trace}
def Below (a b : Nat × List Tree × Nat) : Prop := a.1 < b.1 ∨ (a.1 = b.1 ∧ (LL a.2.1 b.2.1 ∨ (a.2.1 = b.2.1 ∧ a.2.2 < b.2.2)))
end
end Go.Pal
end
section
namespace Go.Pal
open Go Go.Conc View
open Go.ConcN (sumTo upd upd_ne upd_same)
def Weak (u v : View) : Prop := ∀ b x, u b = some x → ∃ p, v b = some (p, x.2) ∧ (x.1 = true → p = true)
theorem Weak.dom {u v : View} (h : Weak u v) {b : Nat} (hb : u b ≠ none) : v b ≠ none := by
  cases e : u b with
  | none => exact absurd e hb
  | some x => obtain ⟨p, hp, _⟩ := h b x e; rw [hp]; simp
theorem Weak.own {u v : View} (h : Weak u v) {b : Nat} (hb : u.Owns b) : v.Owns b := by
  obtain ⟨o, ho⟩ := hb
  obtain ⟨p, hp, hp'⟩ := h b _ ho
  obtain rfl := hp' rfl
  exact ⟨o, hp⟩
theorem Weak.agree {u v : View} (h : Weak u v) {w : World} (hv : v.Agree w) : u.Agree w := fun b p o e => by
  obtain ⟨p', hp, _⟩ := h b _ e
  exact hv b p' o hp
end Go.Pal
end
section
namespace Go.Pal.Mu
open Go Go.Conc Go.Pal
open Go.ConcN (sumTo upd sumTo_upd upd_ne upd_same sumTo_congr le_sumTo)
structure MW where
  l : Bool
  w : Bool
  s : Bool
  n : Nat
  deriving DecidableEq, Repr
inductive Mp where
  | out | l0 | l1
  | rd (aw sv : Bool) (it : Nat)
  | spin (o : MW) (aw sv : Bool) (it : Nat)
  | scas (o : MW) (sv : Bool) (it : Nat)
  | cas (o : MW) (aw sv : Bool) (it : Nat)
  | t1 (sv : Bool) | wait (sv : Bool) | t2 (sv : Bool) | got (sv : Bool)
  | hand (ex : Bool)
  | le | la | u0 | ur | ud | ua
  | uc (o : MW) | ux | us (st : Bool) | ue
def MW.zero : MW := ⟨false, false, false, 0⟩
def newOf (o : MW) (aw sv : Bool) : MW := ⟨o.l || !o.s, o.w && !aw, o.s || (sv && o.l), if o.l || o.s then o.n + 1 else o.n⟩
def hd (o : MW) (aw sv : Bool) (it : Nat) : Mp := if o.l && !o.s then .spin o aw sv it else .cas o aw sv it
def afterX (x : MW) : Mp := if x.n = 0 ∨ x.l ∨ x.w ∨ x.s then .ue else .uc x
def afterU (y : MW) : Mp := if y.s then .us true else afterX y
inductive Ms : Mp → MW → Nat → Mp → MW → Nat → Prop
  | l0 {x m} : Ms .l0 x m .l1 x m
  | l1N {x m} : x ≠ .zero → Ms .l1 x m (.rd false false 0) x m
  | l1Y {m} : Ms .l1 .zero m .le ⟨true, false, false, 0⟩ m
  | rd {aw sv it x m} : Ms (.rd aw sv it) x m (hd x aw sv it) x m
  | spinY {o aw sv it x m} : it < 4 → Ms (.spin o aw sv it) x m (if !aw && !o.w && decide (o.n ≠ 0) then .scas o sv it else .rd aw sv (it + 1)) x m
  | spinN {o aw sv it x m} : Ms (.spin o aw sv it) x m (.cas o aw sv it) x m
  | scasY {sv it x m} : Ms (.scas x sv it) x m (.rd true sv (it + 1)) { x with w := true } m
  | scasN {o sv it x m} : x ≠ o → Ms (.scas o sv it) x m (.rd false sv (it + 1)) x m
  | casN {o aw sv it x m} : x ≠ o → Ms (.cas o aw sv it) x m (.rd aw sv it) x m
  | casL {aw sv it x m} : x.l = false → x.s = false → Ms (.cas x aw sv it) x m .le (newOf x aw sv) m
  | casQ {aw sv it x m} (c : Bool) : (x.l || x.s) = true → Ms (.cas x aw sv it) x m (if c then .t1 sv else .wait sv) (newOf x aw sv) m
  | t1 {sv x m} : Ms (.t1 sv) x m (.wait sv) x m
  | wait {sv x m} : Ms (.wait sv) x (m + 1) (if sv then .got sv else .t2 sv) x m
  | t2 {sv x m} (sv' : Bool) : Ms (.t2 sv) x m (.got sv') x m
  | gotH {sv x m} : x.s = true → Ms (.got sv) x m (.hand (!sv || decide (x.n = 1))) x m
  | gotR {sv x m} : x.s = false → Ms (.got sv) x m (hd x true sv 0) x m
  | hand {ex x m} : Ms (.hand ex) x m .le ⟨true, x.w, x.s && !ex, x.n - 1⟩ m
  | le {x m} : Ms .le x m .la x m
  | la {x m} : Ms .la x m .u0 x m
  | u0 {x m} : Ms .u0 x m .ur x m
  | ur {x m} : Ms .ur x m .ud x m
  | ud {x m} : Ms .ud x m .ua x m
  | ua {x m} : Ms .ua x m (afterU { x with l := false }) { x with l := false } m
  | ucY {x m} : Ms (.uc x) x m (.us false) { x with w := true, n := x.n - 1 } m
  | ucN {o x m} : x ≠ o → Ms (.uc o) x m .ux x m
  | ux {x m} : Ms .ux x m (afterX x) x m
  | us {st x m} : Ms (.us st) x m .ue x (m + 1)
  | ue {x m} : Ms .ue x m .out x m
def hold : Mp → Nat | .le | .la | .u0 | .ur | .ud | .ua => 1 | _ => 0
def wt : Mp → Nat | .t1 _ | .wait _ => 1 | _ => 0
def gt : Mp → Nat | .t2 _ | .got _ => 1 | _ => 0
def hn : Mp → Nat | .hand _ => 1 | _ => 0
def ak : Mp → Nat | .rd true _ _ | .spin _ true _ _ | .cas _ true _ _ => 1 | _ => 0
def usn : Mp → Nat | .us false => 1 | _ => 0
def uss : Mp → Nat | .us true => 1 | _ => 0
def rs : Mp → Nat | .uc _ | .ux => 1 | _ => 0
def loc (x : MW) : Mp → Prop
  | .rd aw sv _ => sv = true → aw = true
  | .spin o aw sv _ => o.l = true ∧ o.s = false ∧ (aw = true → o.w = true) ∧ (sv = true → aw = true)
  | .scas o sv it => o.l = true ∧ o.s = false ∧ o.w = false ∧ 1 ≤ o.n ∧ it < 4 ∧ sv = false
  | .cas o aw sv _ => (aw = true → o.w = true) ∧ (sv = true → aw = true)
  | .hand ex => x.s = true ∧ (ex = false → 2 ≤ x.n)
  | .uc o => o.l = false ∧ o.w = false ∧ o.s = false ∧ 1 ≤ o.n
  | _ => True
def S (J : Nat) (ph : Nat → Mp) (φ : Mp → Nat) : Nat := sumTo J fun a => φ (ph a)
theorem S_upd {J : Nat} {ph : Nat → Mp} {i : Nat} (hi : i < J) (p : Mp) (φ : Mp → Nat) : S J (upd ph i p) φ + φ (ph i) = S J ph φ + φ p := sumTo_upd ph p φ hi
theorem le_S {J : Nat} {ph : Nat → Mp} {i : Nat} (hi : i < J) (φ : Mp → Nat) : φ (ph i) ≤ S J ph φ := le_sumTo (f := fun a => φ (ph a)) hi
structure MI (J : Nat) (ph : Nat → Mp) (x : MW) (m : Nat) : Prop where
  i1 : x.l.toNat = S J ph hold
  i2 : x.s = false → S J ph wt = x.n + m + S J ph usn ∧ S J ph hn = 0 ∧ S J ph uss = 0 ∧ x.w.toNat = m + S J ph usn + S J ph gt + S J ph ak
  i3 : x.s = true → S J ph wt + S J ph gt + S J ph hn = x.n ∧ x.w = false ∧ S J ph ak = 0 ∧ S J ph usn = 0 ∧ x.l.toNat + m + S J ph uss + S J ph gt + S J ph hn = 1 ∧ 1 ≤ x.n
  i4 : x.s = false → x.l = false → 1 ≤ x.n → x.w = true ∨ 1 ≤ S J ph rs
  lo : ∀ j, j < J → loc x (ph j)
theorem loc_stable {x x' : MW} {p : Mp} (h : loc x p) (hs : x.s = true → x'.s = true ∨ hn p = 0) (hn' : hn p = 1 → x.n ≤ x'.n) : loc x' p := by
  cases p <;> first | exact h | skip
  rename_i ex
  obtain ⟨h1, h2⟩ := h
  refine ⟨(hs h1).resolve_right (by simp [hn]), fun e => ?_⟩
  have := h2 e
  have := hn' rfl
  omega
theorem loc_hd {x : MW} {aw sv : Bool} {it : Nat} (h1 : aw = true → x.w = true) (h2 : sv = true → aw = true) : loc x (hd x aw sv it) := by
  unfold hd
  split
  · rename_i h
    simp only [Bool.and_eq_true, Bool.not_eq_true'] at h
    exact ⟨h.1, h.2, h1, h2⟩
  · exact ⟨h1, h2⟩
theorem step_inv {J : Nat} {ph : Nat → Mp} {x x' : MW} {m m' : Nat} {i : Nat} {p' : Mp} (I : MI J ph x m) (hi : i < J) (h : Ms (ph i) x m p' x' m') : MI J (upd ph i p') x' m' := by
  have e := fun φ => S_upd (ph := ph) hi p' φ
  have e1 := e hold; have e2 := e wt; have e3 := e gt; have e4 := e hn; have e5 := e ak; have e6 := e usn; have e7 := e uss; have e8 := e rs
  have g := fun (φ : Mp → Nat) => le_S (ph := ph) hi φ
  have g1 := g hold; have g2 := g wt; have g3 := g gt; have g4 := g hn; have g5 := g ak; have g6 := g usn; have g7 := g uss; have g8 := g rs
  have hl := I.lo i hi
  obtain ⟨i1, i2, i3, i4, lo⟩ := I
  -- what the others hold
  have key : ∀ (hp : loc x' p') (ho : ∀ j, j < J → j ≠ i → loc x' (ph j)) (k1 : x'.l.toNat = S J (upd ph i p') hold)
      (k2 : x'.s = false → S J (upd ph i p') wt = x'.n + m' + S J (upd ph i p') usn ∧ S J (upd ph i p') hn = 0 ∧ S J (upd ph i p') uss = 0 ∧ x'.w.toNat = m' + S J (upd ph i p') usn + S J (upd ph i p') gt + S J (upd ph i p') ak)
      (k3 : x'.s = true → S J (upd ph i p') wt + S J (upd ph i p') gt + S J (upd ph i p') hn = x'.n ∧ x'.w = false ∧ S J (upd ph i p') ak = 0 ∧ S J (upd ph i p') usn = 0 ∧ x'.l.toNat + m' + S J (upd ph i p') uss + S J (upd ph i p') gt + S J (upd ph i p') hn = 1 ∧ 1 ≤ x'.n)
      (k4 : x'.s = false → x'.l = false → 1 ≤ x'.n → x'.w = true ∨ 1 ≤ S J (upd ph i p') rs), MI J (upd ph i p') x' m' := fun hp ho k1 k2 k3 k4 =>
    ⟨k1, k2, k3, k4, fun j hj => by
      by_cases e : j = i
      · subst e; rw [upd_same]; exact hp
      · rw [upd_ne _ _ e]; exact ho j hj e⟩
  have same : x' = x → ∀ j, j < J → j ≠ i → loc x' (ph j) := fun hx j hj _ => hx ▸ lo j hj
  have nohand : S J ph hn = 0 → ∀ j, j < J → hn (ph j) = 0 := fun h0 j hj => by have h1 := le_S (ph := ph) hj hn; omega
  have onehand : ∀ j, j < J → j ≠ i → hn (ph j) + hn (ph i) ≤ S J ph hn := fun j hj hne => by
    have h1 := S_upd (ph := ph) hi .out hn
    have h2 := le_S (ph := upd ph i .out) hj hn
    rw [upd_ne ph _ hne] at h2
    have h0 : hn .out = 0 := rfl
    rw [h0] at h1
    omega
  have nh : ∀ j, j < J → j ≠ i → hn (ph j) ≤ S J ph hn := fun j hj _ => le_S hj hn
  have oth : (x.s = true → x'.s = true ∨ S J ph hn = 0 ∨ hn (ph i) = 1) → (S J ph hn = 0 ∨ hn (ph i) = 1 ∨ x.n ≤ x'.n) → ∀ j, j < J → j ≠ i → loc x' (ph j) := fun h1 h2 j hj hne => by
    have q1 := nh j hj hne
    have q2 := onehand j hj hne
    have q3 : S J ph hn ≤ 1 := by
      cases hs : x.s with
      | false => have := (i2 hs).2.1; omega
      | true => have := (i3 hs).2.2.2.2.1; omega
    refine loc_stable (lo j hj) (fun hs => ?_) (fun hh => ?_)
    · rcases h1 hs with a | a | a
      · exact .inl a
      · exact .inr (by omega)
      · exact .inr (by omega)
    · rcases h2 with a | a | a <;> omega
  generalize hs1 : (S J ph hold) = s1 at *
  generalize hs2 : (S J ph wt) = s2 at *
  generalize hs3 : (S J ph gt) = s3 at *
  generalize hs4 : (S J ph hn) = s4 at *
  generalize hs5 : (S J ph ak) = s5 at *
  generalize hs6 : (S J ph usn) = s6 at *
  generalize hs7 : (S J ph uss) = s7 at *
  generalize hs8 : (S J ph rs) = s8 at *
  generalize hpi : ph i = pi at *
  generalize (S J (upd ph i p') hold) = r1 at *
  generalize (S J (upd ph i p') wt) = r2 at *
  generalize (S J (upd ph i p') gt) = r3 at *
  generalize (S J (upd ph i p') hn) = r4 at *
  generalize (S J (upd ph i p') ak) = r5 at *
  generalize (S J (upd ph i p') usn) = r6 at *
  generalize (S J (upd ph i p') uss) = r7 at *
  generalize (S J (upd ph i p') rs) = r8 at *
  clear hs1 hs2 hs3 hs4 hs5 hs6 hs7 hs8 e g nohand onehand nh lo hpi
  obtain ⟨xl, xw, xs, xn⟩ := x
  obtain ⟨yl, yw, ys, yn⟩ := x'
  dsimp only at i1 i2 i3 i4 key oth
  cases h with
  | @rd aw sv it =>
    have hp : loc ⟨xl, xw, xs, xn⟩ (hd ⟨xl, xw, xs, xn⟩ aw sv it) := loc_hd (fun e => by
      subst e
      cases xs
      · have := (i2 rfl).2.2.2; simp only [ak] at g5; cases xw <;> simp at this ⊢; omega
      · have := (i3 rfl).2.2.1; simp only [ak] at g5; omega) hl
    have q : ∀ φ : Mp → Nat, (φ = hold ∨ φ = wt ∨ φ = gt ∨ φ = hn ∨ φ = usn ∨ φ = uss ∨ φ = rs → φ (hd ⟨xl, xw, xs, xn⟩ aw sv it) = 0) := by
      intro φ hφ
      unfold hd
      rcases hφ with rfl | rfl | rfl | rfl | rfl | rfl | rfl <;> split <;> rfl
    have qa : ak (hd ⟨xl, xw, xs, xn⟩ aw sv it) = ak (.rd aw sv it) := by unfold hd; cases aw <;> split <;> rfl
    rw [q hold (by simp)] at e1; rw [q wt (by simp)] at e2; rw [q gt (by simp)] at e3; rw [q hn (by simp)] at e4; rw [qa] at e5; rw [q usn (by simp)] at e6; rw [q uss (by simp)] at e7; rw [q rs (by simp)] at e8
    simp only [hold, wt, gt, hn, usn, uss, rs] at e1 e2 e3 e4 e6 e7 e8
    refine key hp (oth (fun h => .inl h) (.inr (.inr (Nat.le_refl _)))) (by omega) (fun h => ?_) (fun h => ?_) (fun h1 h2 h3 => ?_)
    · have := i2 h; omega
    · obtain ⟨a1, a2, a3, a4, a5, a6⟩ := i3 h; exact ⟨by omega, a2, by omega, by omega, by omega, a6⟩
    · rcases i4 h1 h2 h3 with a | a
      · exact .inl a
      · exact .inr (by omega)
  | @gotR sv _ _ hs =>
    have hp : loc ⟨xl, xw, xs, xn⟩ (hd ⟨xl, xw, xs, xn⟩ true sv 0) := loc_hd (fun _ => by
      have := (i2 hs).2.2.2; simp only [gt] at g3; cases xw <;> simp at this ⊢; omega) (fun _ => rfl)
    have q : ∀ φ : Mp → Nat, (φ = hold ∨ φ = wt ∨ φ = gt ∨ φ = hn ∨ φ = usn ∨ φ = uss ∨ φ = rs → φ (hd ⟨xl, xw, xs, xn⟩ true sv 0) = 0) := by
      intro φ hφ
      unfold hd
      rcases hφ with rfl | rfl | rfl | rfl | rfl | rfl | rfl <;> split <;> rfl
    have qa : ak (hd ⟨xl, xw, xs, xn⟩ true sv 0) = 1 := by unfold hd; split <;> rfl
    rw [q hold (by simp)] at e1; rw [q wt (by simp)] at e2; rw [q gt (by simp)] at e3; rw [q hn (by simp)] at e4; rw [qa] at e5; rw [q usn (by simp)] at e6; rw [q uss (by simp)] at e7; rw [q rs (by simp)] at e8
    simp only [hold, wt, gt, hn, ak, usn, uss, rs] at e1 e2 e3 e4 e5 e6 e7 e8
    simp only at hs
    subst hs
    refine key hp (oth (fun h => .inl h) (.inr (.inr (Nat.le_refl _)))) (by omega) (fun h => ?_) (fun h => ?_) (fun h1 h2 h3 => ?_)
    · have := i2 h; omega
    · cases h
    · rcases i4 h1 h2 h3 with a | a
      · exact .inl a
      · exact .inr (by omega)
  | l0 =>
    simp only [hold, wt, gt, hn, ak, usn, uss, rs] at e1 e2 e3 e4 e5 e6 e7 e8 g1 g2 g3 g4 g5 g6 g7 g8
    refine key trivial (oth (fun h => .inl h) (.inr (.inr (Nat.le_refl _)))) (by omega) (fun h => ?_) (fun h => ?_) (fun h1 h2 h3 => ?_)
    · have := i2 h; omega
    · obtain ⟨a1, a2, a3, a4, a5, a6⟩ := i3 h; exact ⟨by omega, a2, by omega, by omega, by omega, by omega⟩
    · rcases i4 h1 h2 h3 with a | a
      · exact .inl a
      · exact .inr (by omega)
  | le =>
    simp only [hold, wt, gt, hn, ak, usn, uss, rs] at e1 e2 e3 e4 e5 e6 e7 e8 g1 g2 g3 g4 g5 g6 g7 g8
    refine key trivial (oth (fun h => .inl h) (.inr (.inr (Nat.le_refl _)))) (by omega) (fun h => ?_) (fun h => ?_) (fun h1 h2 h3 => ?_)
    · have := i2 h; omega
    · obtain ⟨a1, a2, a3, a4, a5, a6⟩ := i3 h; exact ⟨by omega, a2, by omega, by omega, by omega, by omega⟩
    · rcases i4 h1 h2 h3 with a | a
      · exact .inl a
      · exact .inr (by omega)
  | la =>
    simp only [hold, wt, gt, hn, ak, usn, uss, rs] at e1 e2 e3 e4 e5 e6 e7 e8 g1 g2 g3 g4 g5 g6 g7 g8
    refine key trivial (oth (fun h => .inl h) (.inr (.inr (Nat.le_refl _)))) (by omega) (fun h => ?_) (fun h => ?_) (fun h1 h2 h3 => ?_)
    · have := i2 h; omega
    · obtain ⟨a1, a2, a3, a4, a5, a6⟩ := i3 h; exact ⟨by omega, a2, by omega, by omega, by omega, by omega⟩
    · rcases i4 h1 h2 h3 with a | a
      · exact .inl a
      · exact .inr (by omega)
  | u0 =>
    simp only [hold, wt, gt, hn, ak, usn, uss, rs] at e1 e2 e3 e4 e5 e6 e7 e8 g1 g2 g3 g4 g5 g6 g7 g8
    refine key trivial (oth (fun h => .inl h) (.inr (.inr (Nat.le_refl _)))) (by omega) (fun h => ?_) (fun h => ?_) (fun h1 h2 h3 => ?_)
    · have := i2 h; omega
    · obtain ⟨a1, a2, a3, a4, a5, a6⟩ := i3 h; exact ⟨by omega, a2, by omega, by omega, by omega, by omega⟩
    · rcases i4 h1 h2 h3 with a | a
      · exact .inl a
      · exact .inr (by omega)
  | ur =>
    simp only [hold, wt, gt, hn, ak, usn, uss, rs] at e1 e2 e3 e4 e5 e6 e7 e8 g1 g2 g3 g4 g5 g6 g7 g8
    refine key trivial (oth (fun h => .inl h) (.inr (.inr (Nat.le_refl _)))) (by omega) (fun h => ?_) (fun h => ?_) (fun h1 h2 h3 => ?_)
    · have := i2 h; omega
    · obtain ⟨a1, a2, a3, a4, a5, a6⟩ := i3 h; exact ⟨by omega, a2, by omega, by omega, by omega, by omega⟩
    · rcases i4 h1 h2 h3 with a | a
      · exact .inl a
      · exact .inr (by omega)
  | ud =>
    simp only [hold, wt, gt, hn, ak, usn, uss, rs] at e1 e2 e3 e4 e5 e6 e7 e8 g1 g2 g3 g4 g5 g6 g7 g8
    refine key trivial (oth (fun h => .inl h) (.inr (.inr (Nat.le_refl _)))) (by omega) (fun h => ?_) (fun h => ?_) (fun h1 h2 h3 => ?_)
    · have := i2 h; omega
    · obtain ⟨a1, a2, a3, a4, a5, a6⟩ := i3 h; exact ⟨by omega, a2, by omega, by omega, by omega, by omega⟩
    · rcases i4 h1 h2 h3 with a | a
      · exact .inl a
      · exact .inr (by omega)
  | ue =>
    simp only [hold, wt, gt, hn, ak, usn, uss, rs] at e1 e2 e3 e4 e5 e6 e7 e8 g1 g2 g3 g4 g5 g6 g7 g8
    refine key trivial (oth (fun h => .inl h) (.inr (.inr (Nat.le_refl _)))) (by omega) (fun h => ?_) (fun h => ?_) (fun h1 h2 h3 => ?_)
    · have := i2 h; omega
    · obtain ⟨a1, a2, a3, a4, a5, a6⟩ := i3 h; exact ⟨by omega, a2, by omega, by omega, by omega, by omega⟩
    · rcases i4 h1 h2 h3 with a | a
      · exact .inl a
      · exact .inr (by omega)
  | l1N _ =>
    simp only [hold, wt, gt, hn, ak, usn, uss, rs] at e1 e2 e3 e4 e5 e6 e7 e8 g1 g2 g3 g4 g5 g6 g7 g8
    refine key (fun h => by cases h) (oth (fun h => .inl h) (.inr (.inr (Nat.le_refl _)))) (by omega) (fun h => ?_) (fun h => ?_) (fun h1 h2 h3 => ?_)
    · have := i2 h; omega
    · obtain ⟨a1, a2, a3, a4, a5, a6⟩ := i3 h; exact ⟨by omega, a2, by omega, by omega, by omega, by omega⟩
    · rcases i4 h1 h2 h3 with a | a
      · exact .inl a
      · exact .inr (by omega)
  | t1 =>
    simp only [hold, wt, gt, hn, ak, usn, uss, rs] at e1 e2 e3 e4 e5 e6 e7 e8 g1 g2 g3 g4 g5 g6 g7 g8
    refine key trivial (oth (fun h => .inl h) (.inr (.inr (Nat.le_refl _)))) (by omega) (fun h => ?_) (fun h => ?_) (fun h1 h2 h3 => ?_)
    · have := i2 h; omega
    · obtain ⟨a1, a2, a3, a4, a5, a6⟩ := i3 h; exact ⟨by omega, a2, by omega, by omega, by omega, by omega⟩
    · rcases i4 h1 h2 h3 with a | a
      · exact .inl a
      · exact .inr (by omega)
  | t2 sv' =>
    simp only [hold, wt, gt, hn, ak, usn, uss, rs] at e1 e2 e3 e4 e5 e6 e7 e8 g1 g2 g3 g4 g5 g6 g7 g8
    refine key trivial (oth (fun h => .inl h) (.inr (.inr (Nat.le_refl _)))) (by omega) (fun h => ?_) (fun h => ?_) (fun h1 h2 h3 => ?_)
    · have := i2 h; omega
    · obtain ⟨a1, a2, a3, a4, a5, a6⟩ := i3 h; exact ⟨by omega, a2, by omega, by omega, by omega, by omega⟩
    · rcases i4 h1 h2 h3 with a | a
      · exact .inl a
      · exact .inr (by omega)
  | @scasN o sv it _ _ _ =>
    simp only [hold, wt, gt, hn, ak, usn, uss, rs] at e1 e2 e3 e4 e5 e6 e7 e8 g1 g2 g3 g4 g5 g6 g7 g8
    refine key (fun h => by rw [hl.2.2.2.2.2] at h; cases h) (oth (fun h => .inl h) (.inr (.inr (Nat.le_refl _)))) (by omega) (fun h => ?_) (fun h => ?_) (fun h1 h2 h3 => ?_)
    · have := i2 h; omega
    · obtain ⟨a1, a2, a3, a4, a5, a6⟩ := i3 h; exact ⟨by omega, a2, by omega, by omega, by omega, by omega⟩
    · rcases i4 h1 h2 h3 with a | a
      · exact .inl a
      · exact .inr (by omega)
  | @casN o aw sv it _ _ _ =>
    cases aw
    all_goals
      simp only [hold, wt, gt, hn, ak, usn, uss, rs] at e1 e2 e3 e4 e5 e6 e7 e8 g1 g2 g3 g4 g5 g6 g7 g8
      refine key hl.2 (oth (fun h => .inl h) (.inr (.inr (Nat.le_refl _)))) (by omega) (fun h => ?_) (fun h => ?_) (fun h1 h2 h3 => ?_)
      · have := i2 h; omega
      · obtain ⟨a1, a2, a3, a4, a5, a6⟩ := i3 h; exact ⟨by omega, a2, by omega, by omega, by omega, by omega⟩
      · rcases i4 h1 h2 h3 with a | a
        · exact .inl a
        · exact .inr (by omega)
  | @spinN o aw sv it _ _ =>
    cases aw
    all_goals
      simp only [hold, wt, gt, hn, ak, usn, uss, rs] at e1 e2 e3 e4 e5 e6 e7 e8 g1 g2 g3 g4 g5 g6 g7 g8
      refine key ⟨hl.2.2.1, hl.2.2.2⟩ (oth (fun h => .inl h) (.inr (.inr (Nat.le_refl _)))) (by omega) (fun h => ?_) (fun h => ?_) (fun h1 h2 h3 => ?_)
      · have := i2 h; omega
      · obtain ⟨a1, a2, a3, a4, a5, a6⟩ := i3 h; exact ⟨by omega, a2, by omega, by omega, by omega, by omega⟩
      · rcases i4 h1 h2 h3 with a | a
        · exact .inl a
        · exact .inr (by omega)
  | @spinY o aw sv it _ _ hit =>
    have hgen : ∀ p, loc ⟨xl, xw, xs, xn⟩ p → hold p = 0 → wt p = 0 → gt p = 0 → hn p = 0 → ak p = ak (.spin o aw sv it) → usn p = 0 → uss p = 0 → rs p = 0 → p = (if !aw && !o.w && decide (o.n ≠ 0) then .scas o sv it else .rd aw sv (it + 1)) → MI J (upd ph i (if !aw && !o.w && decide (o.n ≠ 0) then .scas o sv it else .rd aw sv (it + 1))) ⟨xl, xw, xs, xn⟩ m := by
      rintro p hp q1 q2 q3 q4 q5 q6 q7 q8 rfl
      rw [q1] at e1; rw [q2] at e2; rw [q3] at e3; rw [q4] at e4; rw [q5] at e5; rw [q6] at e6; rw [q7] at e7; rw [q8] at e8
      simp only [hold, wt, gt, hn, usn, uss, rs] at e1 e2 e3 e4 e6 e7 e8
      refine key hp (oth (fun h => .inl h) (.inr (.inr (Nat.le_refl _)))) (by omega) (fun h => ?_) (fun h => ?_) (fun h1 h2 h3 => ?_)
      · have := i2 h; omega
      · obtain ⟨a1, a2, a3, a4, a5, a6⟩ := i3 h; exact ⟨by omega, a2, by omega, by omega, by omega, by omega⟩
      · rcases i4 h1 h2 h3 with a | a
        · exact .inl a
        · exact .inr (by omega)
    cases aw with
    | true => exact hgen (.rd true sv (it + 1)) (fun _ => rfl) rfl rfl rfl rfl rfl rfl rfl rfl rfl
    | false =>
      have hsv : sv = false := by cases sv with | false => rfl | true => exact absurd (hl.2.2.2 rfl) (by simp)
      subst hsv
      by_cases hc : (!o.w && decide (o.n ≠ 0)) = true
      · have hc' := hc
        simp only [Bool.and_eq_true, Bool.not_eq_true', decide_eq_true_eq] at hc'
        exact hgen (.scas o false it) ⟨hl.1, hl.2.1, hc'.1, by omega, hit, rfl⟩ rfl rfl rfl rfl rfl rfl rfl rfl (by simp only [Bool.not_false, Bool.true_and, hc, if_true])
      · exact hgen (.rd false false (it + 1)) (fun h => by cases h) rfl rfl rfl rfl rfl rfl rfl rfl (by simp only [Bool.not_false, Bool.true_and, hc]; rfl)
  | l1Y =>
    simp only [hold, wt, gt, hn, ak, usn, uss, rs] at e1 e2 e3 e4 e5 e6 e7 e8 g1 g2 g3 g4 g5 g6 g7 g8
    refine key trivial (oth (fun h => by simp at h) (.inl (i2 rfl).2.1)) (by simp at i1 ⊢; omega) (fun h => ?_) (fun h => ?_) (fun h1 h2 h3 => ?_)
    · have := i2 rfl; simp at this ⊢; omega
    · cases h
    · cases h2
  | @scasY sv it =>
    obtain ⟨q1, q2, q3, q4, q5, q6⟩ := hl
    dsimp only at q1 q2 q3 q4
    subst q1 q2 q3
    simp only [hold, wt, gt, hn, ak, usn, uss, rs] at e1 e2 e3 e4 e5 e6 e7 e8 g1 g2 g3 g4 g5 g6 g7 g8
    refine key (fun _ => rfl) (oth (fun h => by simp at h) (.inl (i2 rfl).2.1)) (by simp at i1 ⊢; omega) (fun h => ?_) (fun h => ?_) (fun h1 h2 h3 => ?_)
    · have := i2 rfl; simp at this ⊢; omega
    · cases h
    · cases h2
  | @casL aw sv it _ _ hl0 hs0 =>
    dsimp only at hl0 hs0
    subst hl0 hs0
    have hw : aw = true → xw = true := hl.1
    have hs5 : aw = true → 1 ≤ s5 := fun e => by subst e; exact g5
    have hnew : newOf ⟨false, xw, false, xn⟩ aw sv = ⟨true, xw && !aw, false, xn⟩ := by simp [newOf]
    have hkk := i2 rfl
    have hk4 := i1
    simp only [newOf, Bool.false_or, Bool.not_false, Bool.and_false, Bool.false_eq_true, if_false] at key oth ⊢
    simp only [hold, wt, gt, hn, usn, uss, rs] at e1 e2 e3 e4 e6 e7 e8
    refine key trivial (oth (fun h => by cases h) (.inl hkk.2.1)) (by simp at hk4 ⊢; omega) (fun _ => ?_) (fun h => by cases h) (fun _ h2 _ => by cases h2)
    cases aw with
    | false => simp only [ak] at e5; simp only [Bool.not_false, Bool.and_true]; omega
    | true =>
      have := hw rfl
      subst this
      have := hs5 rfl
      simp only [ak] at e5
      simp only [Bool.not_true, Bool.and_false, Bool.toNat_false, Bool.toNat_true] at hkk ⊢
      omega
  | @casQ aw sv it _ _ c hls =>
    dsimp only at hls
    have hs5 : aw = true → 1 ≤ s5 := fun e => by subst e; exact g5
    have q : ∀ φ : Mp → Nat, φ (.t1 sv) = φ (.wait sv) → φ (if c then .t1 sv else .wait sv) = φ (.wait sv) := fun φ hφ => by cases c <;> simp [hφ]
    rw [q hold rfl] at e1; rw [q wt rfl] at e2; rw [q gt rfl] at e3; rw [q hn rfl] at e4; rw [q ak rfl] at e5; rw [q usn rfl] at e6; rw [q uss rfl] at e7; rw [q rs rfl] at e8
    simp only [hold, wt, gt, hn, usn, uss, rs] at e1 e2 e3 e4 e6 e7 e8
    have hloc : ∀ y, loc y (if c then .t1 sv else .wait sv) := fun y => by cases c <;> trivial
    obtain ⟨hw, hsv⟩ := hl
    dsimp only at hw
    cases xs with
    | true =>
      obtain ⟨a1, a2, a3, a4, a5, a6⟩ := i3 rfl
      subst a2
      have haw : aw = false := by cases aw with | false => rfl | true => exact absurd (hw rfl) (by simp)
      subst haw
      simp only [newOf, Bool.or_true, Bool.not_true, Bool.or_false, Bool.true_or, if_true, Bool.false_and] at key oth ⊢
      simp only [ak] at e5
      refine key (hloc _) (oth (fun _ => .inl trivial) (.inr (.inr (Nat.le_succ _)))) (by omega) (fun h => by cases h) (fun _ => ⟨by omega, trivial, by omega, by omega, by omega, by omega⟩) (fun h => by cases h)
    | false =>
      simp only [Bool.or_false] at hls
      subst hls
      obtain ⟨b1, b2, b3, b4⟩ := i2 rfl
      simp only [newOf, Bool.true_or, if_true, Bool.and_true, Bool.false_or, Bool.or_false] at key oth ⊢
      refine key (hloc _) (oth (fun h => by cases h) (.inl b2)) (by omega) (fun h => ?_) (fun h => ?_) (fun _ h2 _ => by cases h2)
      · cases aw with
        | false => simp only [ak] at e5; simp only [Bool.not_false, Bool.and_true]; omega
        | true =>
          have := hw rfl
          subst this
          have := hs5 rfl
          simp only [ak] at e5
          simp only [Bool.not_true, Bool.and_false, Bool.toNat_false, Bool.toNat_true] at b4 ⊢
          omega
      · have haw := hsv h
        subst haw
        have := hw rfl
        subst this
        have := hs5 rfl
        simp only [ak] at e5
        simp only [Bool.toNat_true] at b4 i1 ⊢
        exact ⟨by omega, by simp, by omega, by omega, by omega, by omega⟩
  | @wait sv =>
    have q : ∀ φ : Mp → Nat, φ (.got sv) = φ (.t2 sv) → φ (if sv then .got sv else .t2 sv) = φ (.t2 sv) := fun φ hφ => by cases sv <;> simp [hφ]
    rw [q hold rfl] at e1; rw [q wt rfl] at e2; rw [q gt rfl] at e3; rw [q hn rfl] at e4; rw [q ak rfl] at e5; rw [q usn rfl] at e6; rw [q uss rfl] at e7; rw [q rs rfl] at e8
    simp only [hold, wt, gt, hn, ak, usn, uss, rs] at e1 e2 e3 e4 e5 e6 e7 e8 g1 g2 g3 g4 g5 g6 g7 g8
    refine key (by cases sv <;> trivial) (oth (fun h => .inl h) (.inr (.inr (Nat.le_refl _)))) (by omega) (fun h => ?_) (fun h => ?_) (fun h1 h2 h3 => ?_)
    · have := i2 h; omega
    · obtain ⟨a1, a2, a3, a4, a5, a6⟩ := i3 h; exact ⟨by omega, a2, by omega, by omega, by omega, by omega⟩
    · rcases i4 h1 h2 h3 with a | a
      · exact .inl a
      · exact .inr (by omega)
  | @gotH sv _ _ hs =>
    dsimp only at hs
    subst hs
    have := i3 rfl
    simp only [hold, wt, gt, hn, ak, usn, uss, rs] at e1 e2 e3 e4 e5 e6 e7 e8 g1 g2 g3 g4 g5 g6 g7 g8
    refine key ⟨rfl, fun e => by simp only [Bool.or_eq_false_iff, decide_eq_false_iff_not] at e; have := e.2; dsimp only; omega⟩ (oth (fun h => .inl h) (.inr (.inr (Nat.le_refl _)))) (by omega) (fun h => ?_) (fun h => ?_) (fun h1 h2 h3 => ?_)
    · cases h
    · obtain ⟨a1, a2, a3, a4, a5, a6⟩ := i3 h; exact ⟨by omega, a2, by omega, by omega, by omega, by omega⟩
    · cases h1
  | @hand ex =>
    obtain ⟨q1, q2⟩ := hl
    dsimp only at q1 q2
    subst q1
    obtain ⟨a1, a2, a3, a4, a5, a6⟩ := i3 rfl
    subst a2
    simp only [hold, wt, gt, hn, ak, usn, uss, rs] at e1 e2 e3 e4 e5 e6 e7 e8 g1 g2 g3 g4 g5 g6 g7 g8
    have hxl : xl.toNat = 0 := by omega
    refine key trivial (oth (fun _ => .inr (.inr rfl)) (.inr (.inl rfl))) (by simp only [Bool.toNat_true]; omega) (fun h => ?_) (fun h => ?_) (fun _ h2 _ => by cases h2)
    · simp only [Bool.toNat_false]; omega
    · simp only [Bool.true_and, Bool.not_eq_true'] at h
      have := q2 h
      simp only [Bool.toNat_true]
      exact ⟨by omega, trivial, by omega, by omega, by omega, by omega⟩
  | ua =>
    have hxl : xl = true := by simp only [hold] at g1; cases xl with | true => rfl | false => simp only [Bool.toNat_false] at i1; omega
    subst hxl
    simp only [Bool.toNat_true] at i1
    cases xs with
    | true =>
      obtain ⟨a1, a2, a3, a4, a5, a6⟩ := i3 rfl
      simp only [afterU, if_true] at key e1 e2 e3 e4 e5 e6 e7 e8 ⊢
      simp only [hold, wt, gt, hn, ak, usn, uss, rs] at e1 e2 e3 e4 e5 e6 e7 e8 g1 g2 g3 g4 g5 g6 g7 g8
      simp only [Bool.toNat_true] at a5
      refine key trivial (oth (fun h => .inl h) (.inr (.inr (Nat.le_refl _)))) (by (try dsimp only); simp only [Bool.toNat_false]; omega) (fun h => by cases h) (fun _ => ?_) (fun h => by cases h)
      simp only [Bool.toNat_false]
      exact ⟨by omega, a2, by omega, by omega, by omega, by omega⟩
    | false =>
      have hi2 := i2 rfl
      by_cases hc : xn = 0 ∨ xw = true
      · have ha : afterU ⟨false, xw, false, xn⟩ = .ue := by simp only [afterU, afterX, Bool.false_eq_true, if_false, false_or, or_false]; rw [if_pos hc]
        rw [ha] at key e1 e2 e3 e4 e5 e6 e7 e8 ⊢
        simp only [hold, wt, gt, hn, ak, usn, uss, rs] at e1 e2 e3 e4 e5 e6 e7 e8 g1 g2 g3 g4 g5 g6 g7 g8
        refine key trivial (oth (fun h => .inl h) (.inr (.inr (Nat.le_refl _)))) (by (try dsimp only); simp only [Bool.toNat_false]; omega) (fun _ => by (try dsimp only); omega) (fun h => by cases h) (fun _ _ h3 => ?_)
        rcases hc with hc | hc
        · exfalso; dsimp only at h3; omega
        · exact .inl hc
      · have ha : afterU ⟨false, xw, false, xn⟩ = .uc ⟨false, xw, false, xn⟩ := by simp only [afterU, afterX, Bool.false_eq_true, if_false, false_or, or_false]; rw [if_neg hc]
        rw [ha] at key e1 e2 e3 e4 e5 e6 e7 e8 ⊢
        simp only [hold, wt, gt, hn, ak, usn, uss, rs] at e1 e2 e3 e4 e5 e6 e7 e8 g1 g2 g3 g4 g5 g6 g7 g8
        simp only [not_or, Bool.not_eq_true] at hc
        refine key ⟨rfl, hc.2, rfl, by have := hc.1; dsimp only; omega⟩ (oth (fun h => .inl h) (.inr (.inr (Nat.le_refl _)))) (by (try dsimp only); simp only [Bool.toNat_false]; omega) (fun _ => by (try dsimp only); omega) (fun h => by cases h) (fun _ _ _ => .inr (by omega))
  | ucY =>
    obtain ⟨q1, q2, q3, q4⟩ := hl
    dsimp only at q1 q2 q3 q4
    subst q1 q2 q3
    simp only [hold, wt, gt, hn, ak, usn, uss, rs] at e1 e2 e3 e4 e5 e6 e7 e8 g1 g2 g3 g4 g5 g6 g7 g8
    have hi2 := i2 rfl
    simp only [Bool.toNat_false] at hi2
    refine key trivial (oth (fun h => by cases h) (.inl hi2.2.1)) (by dsimp only; simp only [Bool.toNat_false] at i1 ⊢; omega) (fun _ => by dsimp only; simp only [Bool.toNat_true]; omega) (fun h => by cases h) (fun _ _ _ => .inl rfl)
  | ucN _ =>
    simp only [hold, wt, gt, hn, ak, usn, uss, rs] at e1 e2 e3 e4 e5 e6 e7 e8 g1 g2 g3 g4 g5 g6 g7 g8
    refine key trivial (oth (fun h => .inl h) (.inr (.inr (Nat.le_refl _)))) (by omega) (fun h => ?_) (fun h => ?_) (fun h1 h2 h3 => ?_)
    · have := i2 h; omega
    · obtain ⟨a1, a2, a3, a4, a5, a6⟩ := i3 h; exact ⟨by omega, a2, by omega, by omega, by omega, by omega⟩
    · rcases i4 h1 h2 h3 with a | a
      · exact .inl a
      · exact .inr (by omega)
  | ux =>
    by_cases hc : xn = 0 ∨ xl = true ∨ xw = true ∨ xs = true
    · have ha : afterX ⟨xl, xw, xs, xn⟩ = .ue := by simp only [afterX]; rw [if_pos hc]
      rw [ha] at key e1 e2 e3 e4 e5 e6 e7 e8 ⊢
      simp only [hold, wt, gt, hn, ak, usn, uss, rs] at e1 e2 e3 e4 e5 e6 e7 e8 g1 g2 g3 g4 g5 g6 g7 g8
      refine key trivial (oth (fun h => .inl h) (.inr (.inr (Nat.le_refl _)))) (by omega) (fun h => ?_) (fun h => ?_) (fun h1 h2 h3 => ?_)
      · have := i2 h; omega
      · obtain ⟨a1, a2, a3, a4, a5, a6⟩ := i3 h; exact ⟨by omega, a2, by omega, by omega, by omega, by omega⟩
      · rcases hc with hc | hc | hc | hc
        · omega
        · rw [h2] at hc; cases hc
        · exact .inl hc
        · rw [h1] at hc; cases hc
    · have ha : afterX ⟨xl, xw, xs, xn⟩ = .uc ⟨xl, xw, xs, xn⟩ := by simp only [afterX]; rw [if_neg hc]
      rw [ha] at key e1 e2 e3 e4 e5 e6 e7 e8 ⊢
      simp only [hold, wt, gt, hn, ak, usn, uss, rs] at e1 e2 e3 e4 e5 e6 e7 e8 g1 g2 g3 g4 g5 g6 g7 g8
      simp only [not_or, Bool.not_eq_true] at hc
      refine key ⟨hc.2.1, hc.2.2.1, hc.2.2.2, by have := hc.1; dsimp only; omega⟩ (oth (fun h => .inl h) (.inr (.inr (Nat.le_refl _)))) (by omega) (fun h => ?_) (fun h => ?_) (fun h1 h2 h3 => .inr (by omega))
      · have := i2 h; omega
      · obtain ⟨a1, a2, a3, a4, a5, a6⟩ := i3 h; exact ⟨by omega, a2, by omega, by omega, by omega, by omega⟩
  | @us st =>
    cases st
    all_goals
      simp only [hold, wt, gt, hn, ak, usn, uss, rs] at e1 e2 e3 e4 e5 e6 e7 e8 g1 g2 g3 g4 g5 g6 g7 g8
      refine key trivial (oth (fun h => .inl h) (.inr (.inr (Nat.le_refl _)))) (by omega) (fun h => ?_) (fun h => ?_) (fun h1 h2 h3 => ?_)
      · have := i2 h; omega
      · obtain ⟨a1, a2, a3, a4, a5, a6⟩ := i3 h; exact ⟨by omega, a2, by omega, by omega, by omega, by omega⟩
      · rcases i4 h1 h2 h3 with a | a
        · exact .inl a
        · exact .inr (by omega)
end Go.Pal.Mu
end
section
namespace Go.Pal.Mu
open Go Go.Conc Go.Pal
open Go.ConcN (sumTo upd sumTo_upd upd_ne upd_same sumTo_congr le_sumTo)
theorem S_zero {J : Nat} {ph : Nat → Mp} {φ : Mp → Nat} (h : ∀ j, j < J → φ (ph j) = 0) : S J ph φ = 0 := by
  have : S J ph φ = S J (fun _ => .out) (fun _ => 0) := sumTo_congr h
  rw [this]
  unfold S
  have : ∀ n, sumTo n (fun _ => 0) = 0 := fun n => by induction n with | zero => rfl | succ n ih => simp [sumTo, ih]
  exact this J
theorem live {J : Nat} {ph : Nat → Mp} {x : MW} {m : Nat} (I : MI J ph x m) {i : Nat} (hi : i < J) (hin : ph i ≠ .out) : ∃ j, j < J ∧ ph j ≠ .out ∧ ¬ ((∃ sv, ph j = .wait sv) ∧ m = 0) := by
  apply Classical.byContradiction
  intro hno
  have hall : ∀ j, j < J → ph j = .out ∨ ((∃ sv, ph j = .wait sv) ∧ m = 0) := fun j hj => by
    apply Classical.byContradiction
    intro h
    simp only [not_or] at h
    exact hno ⟨j, hj, h.1, h.2⟩
  obtain ⟨⟨sv, hsv⟩, hm⟩ := (hall i hi).resolve_left hin
  subst hm
  have z : ∀ φ : Mp → Nat, φ .out = 0 → (∀ sv, φ (.wait sv) = 0) → S J ph φ = 0 := fun φ h1 h2 => S_zero fun j hj => by
    rcases hall j hj with e | ⟨⟨sv, e⟩, _⟩
    · rw [e, h1]
    · rw [e, h2]
  have z1 := z hold rfl fun _ => rfl
  have z3 := z gt rfl fun _ => rfl
  have z4 := z hn rfl fun _ => rfl
  have z5 := z ak rfl fun _ => rfl
  have z6 := z usn rfl fun _ => rfl
  have z7 := z uss rfl fun _ => rfl
  have z8 := z rs rfl fun _ => rfl
  have hw := le_S (ph := ph) hi wt
  rw [hsv] at hw
  have hl : x.l = false := by
    have := I.i1
    rw [z1] at this
    cases h : x.l with
    | false => rfl
    | true => rw [h] at this; simp at this
  cases hs : x.s with
  | true =>
    have := (I.i3 hs).2.2.2.2.1
    rw [hl, z7, z3, z4] at this
    simp at this
  | false =>
    obtain ⟨h1, _, _, h4⟩ := I.i2 hs
    rw [z6] at h1 h4
    rw [z3, z5] at h4
    have hn1 : 1 ≤ x.n := by simp only [wt] at hw; omega
    rcases I.i4 hs hl hn1 with h | h
    · rw [h] at h4; simp at h4
    · omega
end Go.Pal.Mu
end
