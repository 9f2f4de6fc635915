/- Part 8 of the proof that stands in the last text. -/
import Derived.Conc.AtomicLaws2
import Derived.Conc.ClockLaws
import Derived.Conc.DeferLaws
import Derived.Conc.MarkLaws
import Derived.Conc.Own2
import Derived.Conc.Own4
import Derived.Conc.SmallLaws
import Derived.Laws.LoneSync
import Derived.Test.YtbbaionoibkohaaPag
set_option linter.all false
section
namespace Go.Pal.Mu
open Go Go.Conc Go.Pal
open Go.ConcN (sumTo upd sumTo_upd upd_ne upd_same sumTo_congr le_sumTo)
inductive Wk where
  | off | take
  | mx (i : Nat) (L : List Nat) (p : Mp)
  | d0 | d1 | d2 | d3 | d4 | d5
inductive Mn where
  | a0 (k : Nat) | a1 (k : Nat) | ar (k : Nat) | a2 (k : Nat) | go (k : Nat)
  | w0 | w1 | wc (o : Nat) | ww | w3 | w4 | w5 | w6 | fin
structure WS where
  mn : Mn
  st : Nat
  ph : Nat → Wk
  c : Nat
  x : MW
  m : Nat
  L : List Nat
  v : Nat
  wt : Nat
  sm : Nat
def mp : Wk → Mp
  | .mx _ _ p => p
  | _ => .out
def live1 : Wk → Nat | .take | .mx _ _ _ | .d0 | .d1 | .d2 => 1 | _ => 0
def d34 : Wk → Nat | .d3 | .d4 => 1 | _ => 0
def d5c : Wk → Nat | .d5 => 1 | _ => 0
def pend : Mn → Nat | .ar _ | .a2 _ | .go _ => 1 | _ => 0
def kOf : Mn → Option Nat | .a0 k | .a1 k | .ar k | .a2 k | .go k => some k | _ => none
def isQ : Mn → Bool | .ww | .w3 => true | _ => false
def isP : Mn → Bool | .w4 | .w5 | .w6 | .fin => true | _ => false
def pre : Mp → Bool | .ud | .ua | .uc _ | .ux | .us _ | .ue | .out => false | _ => true
def Sw (J : Nat) (ph : Nat → Wk) (φ : Wk → Nat) : Nat := sumTo J fun a => φ (ph a)
theorem Sw_upd {J : Nat} {ph : Nat → Wk} {i : Nat} (hi : i < J) (p : Wk) (φ : Wk → Nat) : Sw J (upd ph i p) φ + φ (ph i) = Sw J ph φ + φ p := sumTo_upd ph p φ hi
theorem le_Sw {J : Nat} {ph : Nat → Wk} {i : Nat} (hi : i < J) (φ : Wk → Nat) : φ (ph i) ≤ Sw J ph φ := le_sumTo (f := fun a => φ (ph a)) hi
theorem mp_upd (ph : Nat → Wk) (j : Nat) (q : Wk) : (fun a => mp (upd ph j q a)) = upd (fun a => mp (ph a)) j (mp q) := by
  funext a
  by_cases e : a = j
  · subst e; rw [upd_same, upd_same]
  · rw [upd_ne _ _ e, upd_ne _ _ e]
section
variable (J N : Nat) (keep : Nat → Bool) (base : Nat)
inductive Tr : WS → Nat → WS → Prop
  | a0 {γ k} : γ.mn = .a0 k → Tr γ 0 { γ with mn := .a1 k }
  | a1 {γ k} : γ.mn = .a1 k → Tr γ 0 { γ with mn := if γ.v = 0 then .ar k else .a2 k, v := γ.v + 1 }
  | ar {γ k} : γ.mn = .ar k → Tr γ 0 { γ with mn := .a2 k }
  | a2 {γ k} : γ.mn = .a2 k → Tr γ 0 { γ with mn := .go k }
  | go {γ k} : γ.mn = .go k → Tr γ 0 { γ with mn := if k + 1 < J then .a0 (k + 1) else .w0, st := k + 1, ph := upd γ.ph k .take }
  | w0 {γ} : γ.mn = .w0 → Tr γ 0 { γ with mn := .w1 }
  | w1Z {γ} : γ.mn = .w1 → γ.v = 0 → Tr γ 0 { γ with mn := .w5 }
  | w1 {γ} : γ.mn = .w1 → γ.v ≠ 0 → Tr γ 0 { γ with mn := .wc γ.v }
  | wcY {γ} : γ.mn = .wc γ.v → Tr γ 0 { γ with mn := .ww, wt := 1 }
  | wcN {γ o} : γ.mn = .wc o → γ.v ≠ o → Tr γ 0 { γ with mn := .w1 }
  | ww {γ} : γ.mn = .ww → Tr γ 0 { γ with mn := .w3 }
  | w3 {γ s} : γ.mn = .w3 → γ.sm = s + 1 → Tr γ 0 { γ with mn := .w4, sm := s }
  | w4 {γ} : γ.mn = .w4 → Tr γ 0 { γ with mn := .w5 }
  | w5 {γ} : γ.mn = .w5 → Tr γ 0 { γ with mn := .w6 }
  | w6 {γ} : γ.mn = .w6 → Tr γ 0 { γ with mn := .fin }
  | take {γ j} : j < J → γ.ph j = .take → γ.c < N → Tr γ (base + j) { γ with ph := upd γ.ph j (if keep γ.c then .take else .mx γ.c [] .l0), c := γ.c + 1 }
  | takeE {γ j} : j < J → γ.ph j = .take → N ≤ γ.c → Tr γ (base + j) { γ with ph := upd γ.ph j .d0, c := γ.c + 1 }
  | mx {γ j i L p p' x' m'} : j < J → γ.ph j = .mx i L p → Ms p γ.x γ.m p' x' m' → p ≠ .la → p ≠ .ur → p ≠ .ue → Tr γ (base + j) { γ with ph := upd γ.ph j (.mx i L p'), x := x', m := m' }
  | la {γ j i L} : j < J → γ.ph j = .mx i L .la → Tr γ (base + j) { γ with ph := upd γ.ph j (.mx i γ.L .u0) }
  | ur {γ j i L} : j < J → γ.ph j = .mx i L .ur → Tr γ (base + j) { γ with ph := upd γ.ph j (.mx i L .ud), L := L ++ [i] }
  | ue {γ j i L} : j < J → γ.ph j = .mx i L .ue → Tr γ (base + j) { γ with ph := upd γ.ph j .take }
  | d0 {γ j} : j < J → γ.ph j = .d0 → Tr γ (base + j) { γ with ph := upd γ.ph j .d1 }
  | d1 {γ j} : j < J → γ.ph j = .d1 → Tr γ (base + j) { γ with ph := upd γ.ph j .d2 }
  | d2 {γ j v} : j < J → γ.ph j = .d2 → γ.v = v + 1 → (v ≠ 0 ∨ γ.wt = 0) → Tr γ (base + j) { γ with ph := upd γ.ph j .off, v := v }
  | d2L {γ j} : j < J → γ.ph j = .d2 → γ.v = 1 → γ.wt ≠ 0 → Tr γ (base + j) { γ with ph := upd γ.ph j .d3, v := 0 }
  | d3 {γ j} : j < J → γ.ph j = .d3 → Tr γ (base + j) { γ with ph := upd γ.ph j .d4 }
  | d4 {γ j} : j < J → γ.ph j = .d4 → Tr γ (base + j) { γ with ph := upd γ.ph j .d5, wt := 0 }
  | d5 {γ j} : j < J → γ.ph j = .d5 → Tr γ (base + j) { γ with ph := upd γ.ph j .off, sm := γ.sm + 1 }
structure Ok (γ : WS) : Prop where
  stk : ∀ k, kOf γ.mn = some k → γ.st = k ∧ k < J
  stw : kOf γ.mn = none → γ.st = J
  offs : ∀ j, γ.st ≤ j → γ.ph j = .off
  mi : MI J (fun j => mp (γ.ph j)) γ.x γ.m
  cnt : γ.v = Sw J γ.ph live1 + pend γ.mn
  wq : isQ γ.mn = true → (γ.wt = 1 ∧ Sw J γ.ph d5c + γ.sm = 0 ∧ (γ.v = 0 → Sw J γ.ph d34 = 1) ∧ (γ.v ≠ 0 → Sw J γ.ph d34 = 0)) ∨ (γ.wt = 0 ∧ γ.v = 0 ∧ Sw J γ.ph d34 = 0 ∧ Sw J γ.ph d5c + γ.sm = 1)
  wn : isQ γ.mn = false → γ.wt = 0 ∧ Sw J γ.ph d34 = 0 ∧ Sw J γ.ph d5c + γ.sm = 0
  post : isP γ.mn = true → γ.v = 0
  wcn : ∀ o, γ.mn = .wc o → o ≠ 0
  own : ∀ j i L p, γ.ph j = .mx i L p → (p = .u0 ∨ p = .ur) → L = γ.L
  idx : ∀ j i L p, γ.ph j = .mx i L p → i < N ∧ keep i = false ∧ p ≠ .out
  all : ∀ i, i < γ.c → i < N → keep i = false → i ∈ γ.L ∨ ∃ j L p, γ.ph j = .mx i L p ∧ pre p = true
  sub : ∀ i ∈ γ.L, i < N ∧ keep i = false
end
section
variable {J N : Nat} {keep : Nat → Bool} {base : Nat}
theorem enter_inv {ph : Nat → Mp} {x : MW} {m i : Nat} {p : Mp} (I : MI J ph x m) (hi : i < J) (h1 : ph i = .out ∨ ph i = .ue) (h2 : p = .out ∨ p = .l0) : MI J (upd ph i p) x m := by
  have z1 : ∀ φ : Mp → Nat, (φ = hold ∨ φ = wt ∨ φ = gt ∨ φ = hn ∨ φ = ak ∨ φ = usn ∨ φ = uss ∨ φ = rs) → S J (upd ph i p) φ = S J ph φ := fun φ hφ => by
    have := S_upd (ph := ph) hi p φ
    have e1 : φ (ph i) = 0 := by rcases h1 with h1 | h1 <;> rw [h1] <;> rcases hφ with rfl | rfl | rfl | rfl | rfl | rfl | rfl | rfl <;> rfl
    have e2 : φ p = 0 := by rcases h2 with rfl | rfl <;> rcases hφ with rfl | rfl | rfl | rfl | rfl | rfl | rfl | rfl <;> rfl
    omega
  refine ⟨?_, ?_, ?_, ?_, fun j hj => ?_⟩
  · rw [z1 hold (by simp)]; exact I.i1
  · rw [z1 wt (by simp), z1 usn (by simp), z1 hn (by simp), z1 uss (by simp), z1 gt (by simp), z1 ak (by simp)]; exact I.i2
  · rw [z1 wt (by simp), z1 usn (by simp), z1 hn (by simp), z1 uss (by simp), z1 gt (by simp), z1 ak (by simp)]; exact I.i3
  · rw [z1 rs (by simp)]; exact I.i4
  · by_cases e : j = i
    · subst e; rw [upd_same]; rcases h2 with rfl | rfl <;> trivial
    · rw [upd_ne _ _ e]; exact I.lo j hj
theorem hd_ne (x : MW) (aw sv : Bool) (it : Nat) : hd x aw sv it ≠ .u0 ∧ hd x aw sv it ≠ .ur ∧ hd x aw sv it ≠ .out ∧ pre (hd x aw sv it) = true := by unfold hd; split <;> simp [pre]
theorem afterX_ne (x : MW) : afterX x ≠ .u0 ∧ afterX x ≠ .ur ∧ afterX x ≠ .out := by unfold afterX; split <;> simp
theorem afterU_ne (x : MW) : afterU x ≠ .u0 ∧ afterU x ≠ .ur ∧ afterU x ≠ .out := by unfold afterU; split; simp; exact afterX_ne x
theorem ms_u0 {p : Mp} {x x' : MW} {m m' : Nat} (h : Ms p x m .u0 x' m') : p = .la := by
  generalize hq : Mp.u0 = q at h
  cases h <;> first | rfl | (exact absurd hq.symm (hd_ne _ _ _ _).1) | (exact absurd hq.symm (afterX_ne _).1) | (exact absurd hq.symm (afterU_ne _).1) | (split at hq <;> cases hq) | cases hq
theorem ms_ur {p : Mp} {x x' : MW} {m m' : Nat} (h : Ms p x m .ur x' m') : p = .u0 := by
  generalize hq : Mp.ur = q at h
  cases h <;> first | rfl | (exact absurd hq.symm (hd_ne _ _ _ _).2.1) | (exact absurd hq.symm (afterX_ne _).2.1) | (exact absurd hq.symm (afterU_ne _).2.1) | (split at hq <;> cases hq) | cases hq
theorem ms_to_out {p : Mp} {x x' : MW} {m m' : Nat} (h : Ms p x m .out x' m') : p = .ue := by
  generalize hq : Mp.out = q at h
  cases h <;> first | rfl | (exact absurd hq.symm (hd_ne _ _ _ _).2.2.1) | (exact absurd hq.symm (afterX_ne _).2.2) | (exact absurd hq.symm (afterU_ne _).2.2) | (split at hq <;> cases hq) | cases hq
theorem ms_pre {p p' : Mp} {x x' : MW} {m m' : Nat} (h : Ms p x m p' x' m') (hne : p ≠ .ur) (hp : pre p = true) : pre p' = true := by
  cases h <;> first | rfl | (exact (hd_ne _ _ _ _).2.2.2) | (exact absurd rfl hne) | (split <;> rfl) | cases hp
theorem Ok.stJ {γ : WS} (O : Ok J N keep γ) : γ.st ≤ J := by
  cases h : kOf γ.mn with
  | none => exact Nat.le_of_eq (O.stw h)
  | some k => have := O.stk k h; omega
theorem Ok.main {γ : WS} (O : Ok J N keep γ) {mn : Mn} {v wt sm : Nat} (h1 : ∀ k, kOf mn = some k → γ.st = k ∧ k < J) (h2 : kOf mn = none → γ.st = J) (h3 : v = Sw J γ.ph live1 + pend mn)
    (h4 : isQ mn = true → (wt = 1 ∧ Sw J γ.ph d5c + sm = 0 ∧ (v = 0 → Sw J γ.ph d34 = 1) ∧ (v ≠ 0 → Sw J γ.ph d34 = 0)) ∨ (wt = 0 ∧ v = 0 ∧ Sw J γ.ph d34 = 0 ∧ Sw J γ.ph d5c + sm = 1))
    (h5 : isQ mn = false → wt = 0 ∧ Sw J γ.ph d34 = 0 ∧ Sw J γ.ph d5c + sm = 0) (h6 : isP mn = true → v = 0) (h7 : ∀ o, mn = .wc o → o ≠ 0 := by intro o e; cases e) : Ok J N keep { γ with mn := mn, v := v, wt := wt, sm := sm } :=
  ⟨h1, h2, O.offs, O.mi, h3, h4, h5, h6, h7, O.own, O.idx, O.all, O.sub⟩
theorem Ok.work {γ : WS} (O : Ok J N keep γ) {j : Nat} (hj : j < J) (hon : γ.ph j ≠ .off) {q : Wk} {c : Nat} {x : MW} {m : Nat} {L : List Nat} {v wt sm : Nat} (hmi : MI J (fun a => mp (upd γ.ph j q a)) x m)
    (hcnt : v + live1 (γ.ph j) = γ.v + live1 q)
    (hq : isQ γ.mn = true → (wt = 1 ∧ Sw J (upd γ.ph j q) d5c + sm = 0 ∧ (v = 0 → Sw J (upd γ.ph j q) d34 = 1) ∧ (v ≠ 0 → Sw J (upd γ.ph j q) d34 = 0)) ∨ (wt = 0 ∧ v = 0 ∧ Sw J (upd γ.ph j q) d34 = 0 ∧ Sw J (upd γ.ph j q) d5c + sm = 1))
    (hn : isQ γ.mn = false → wt = 0 ∧ Sw J (upd γ.ph j q) d34 = 0 ∧ Sw J (upd γ.ph j q) d5c + sm = 0) (hp : isP γ.mn = true → v = 0)
    (hown : ∀ i L' p, q = .mx i L' p → (p = .u0 ∨ p = .ur) → L' = L) (hoth : L = γ.L ∨ ∀ k i L' p, k ≠ j → γ.ph k = .mx i L' p → ¬ (p = .u0 ∨ p = .ur))
    (hidx : ∀ i L' p, q = .mx i L' p → i < N ∧ keep i = false ∧ p ≠ .out)
    (hall : ∀ i, i < c → i < N → keep i = false → (i < γ.c ∧ (i ∈ γ.L → i ∈ L) ∧ (∀ L' p, γ.ph j = .mx i L' p → pre p = true → i ∈ L ∨ ∃ L'' p', q = .mx i L'' p' ∧ pre p' = true)) ∨ ∃ L'' p', q = .mx i L'' p' ∧ pre p' = true)
    (hsub : ∀ i ∈ L, i < N ∧ keep i = false) : Ok J N keep { γ with ph := upd γ.ph j q, c := c, x := x, m := m, L := L, v := v, wt := wt, sm := sm } := by
  refine ⟨O.stk, O.stw, fun k hk => ?_, hmi, ?_, hq, hn, hp, O.wcn, fun k i L' p hk hpp => ?_, fun k i L' p hk => ?_, fun i h1 h2 h3 => ?_, hsub⟩
  · have hne : k ≠ j := fun e => by subst e; exact hon (O.offs k hk)
    show upd γ.ph j q k = _
    rw [upd_ne _ _ hne]; exact O.offs k hk
  · show v = Sw J (upd γ.ph j q) live1 + pend γ.mn
    have := Sw_upd (ph := γ.ph) hj q live1
    have := O.cnt
    omega
  · by_cases e : k = j
    · subst e
      have hk : upd γ.ph k q k = _ := hk
      rw [upd_same] at hk
      exact hown i L' p hk hpp
    · have hk : upd γ.ph j q k = _ := hk
      rw [upd_ne _ _ e] at hk
      rcases hoth with h | h
      · rw [O.own k i L' p hk hpp]; exact h.symm
      · exact absurd hpp (h k i L' p e hk)
  · by_cases e : k = j
    · subst e
      have hk : upd γ.ph k q k = _ := hk
      rw [upd_same] at hk
      exact hidx i L' p hk
    · have hk : upd γ.ph j q k = _ := hk
      rw [upd_ne _ _ e] at hk
      exact O.idx k i L' p hk
  · have mk : (∃ L'' p', q = .mx i L'' p' ∧ pre p' = true) → i ∈ L ∨ ∃ k L'' p, upd γ.ph j q k = .mx i L'' p ∧ pre p = true := fun ⟨L'', p', a, b⟩ => .inr ⟨j, L'', p', by rw [upd_same]; exact a, b⟩
    rcases hall i h1 h2 h3 with ⟨a, b, d⟩ | a
    · rcases O.all i a h2 h3 with e | ⟨k, L', p, e, f⟩
      · exact .inl (b e)
      · by_cases ek : k = j
        · subst ek
          rcases d L' p e f with g | g
          · exact .inl g
          · exact mk g
        · exact .inr ⟨k, L', p, by show upd γ.ph j q k = _; rw [upd_ne _ _ ek]; exact e, f⟩
    · exact mk a
theorem Ok.step {γ γ' : WS} {i : Nat} (O : Ok J N keep γ) (h : Tr J N keep base γ i γ') : Ok J N keep γ' := by
  cases h with
  | a0 h =>
    have k1 := O.stk; have k2 := O.stw; have k3 := O.cnt; have k4 := O.wn
    rw [h] at k1 k2 k3 k4
    exact O.main (mn := .a1 _) k1 k2 k3 (fun e => by cases e) (fun _ => k4 rfl) (fun e => by cases e)
  | @a1 k h =>
    have k1 := O.stk; have k3 := O.cnt; have k4 := O.wn
    rw [h] at k1 k3 k4
    refine O.main (fun k' e => ?_) (fun e => ?_) ?_ (fun e => ?_) (fun _ => k4 rfl) (fun e => ?_) ?_
    · split at e <;> exact k1 k' e
    · split at e <;> cases e
    · simp only [pend] at k3
      split <;> simp only [pend] <;> omega
    · split at e <;> cases e
    · split at e <;> cases e
    · intro o e; split at e <;> cases e
  | ar h =>
    have k1 := O.stk; have k2 := O.stw; have k3 := O.cnt; have k4 := O.wn
    rw [h] at k1 k2 k3 k4
    exact O.main (mn := .a2 _) k1 k2 k3 (fun e => by cases e) (fun _ => k4 rfl) (fun e => by cases e)
  | a2 h =>
    have k1 := O.stk; have k2 := O.stw; have k3 := O.cnt; have k4 := O.wn
    rw [h] at k1 k2 k3 k4
    exact O.main (mn := .go _) k1 k2 k3 (fun e => by cases e) (fun _ => k4 rfl) (fun e => by cases e)
  | @go k h =>
    have k1 := O.stk; have k3 := O.cnt; have k4 := O.wn
    rw [h] at k1 k3 k4
    obtain ⟨hst, hkJ⟩ := k1 k rfl
    have hoff : γ.ph k = .off := O.offs k (by omega)
    have e1 := Sw_upd (ph := γ.ph) hkJ .take live1
    have e2 := Sw_upd (ph := γ.ph) hkJ .take d34
    have e3 := Sw_upd (ph := γ.ph) hkJ .take d5c
    rw [hoff] at e1 e2 e3
    simp only [live1, d34, d5c] at e1 e2 e3
    have hw := k4 rfl
    refine ⟨fun k' e => ?_, fun e => ?_, fun j hj => ?_, ?_, ?_, fun e => ?_, fun _ => ?_, fun e => ?_, fun o e => ?_, fun j i L p hj hp => ?_, fun j i L p hj => ?_, fun i a b c => ?_, O.sub⟩
    · simp only at e ⊢
      split at e
      · simp only [kOf, Option.some.injEq] at e; omega
      · cases e
    · simp only at e ⊢
      split at e
      · cases e
      · omega
    · simp only at hj ⊢
      rw [upd_ne _ _ (by omega)]
      exact O.offs j (by omega)
    · simp only
      rw [mp_upd]
      exact enter_inv O.mi hkJ (by simp [hoff, mp]) (.inl rfl)
    · simp only [pend] at k3
      simp only
      split <;> simp only [pend] <;> omega
    · simp only at e; split at e <;> cases e
    · simp only; omega
    · simp only at e; split at e <;> cases e
    · simp only at e; split at e <;> cases e
    · simp only at hj
      by_cases ej : j = k
      · subst ej; rw [upd_same] at hj; cases hj
      · rw [upd_ne _ _ ej] at hj; exact O.own j i L p hj hp
    · simp only at hj
      by_cases ej : j = k
      · subst ej; rw [upd_same] at hj; cases hj
      · rw [upd_ne _ _ ej] at hj; exact O.idx j i L p hj
    · rcases O.all i a b c with e | ⟨j, L, p, e, f⟩
      · exact .inl e
      · refine .inr ⟨j, L, p, ?_, f⟩
        simp only
        rw [upd_ne _ _ (fun ej => by subst ej; rw [hoff] at e; cases e)]
        exact e
  | w0 h =>
    have k1 := O.stk; have k2 := O.stw; have k3 := O.cnt; have k4 := O.wn
    rw [h] at k1 k2 k3 k4
    exact O.main (mn := .w1) k1 k2 k3 (fun e => by cases e) (fun _ => k4 rfl) (fun e => by cases e)
  | w1Z h hv =>
    have k1 := O.stk; have k2 := O.stw; have k3 := O.cnt; have k4 := O.wn
    rw [h] at k1 k2 k3 k4
    exact O.main (mn := .w5) k1 k2 k3 (fun e => by cases e) (fun _ => k4 rfl) (fun _ => hv)
  | w1 h hv =>
    have k1 := O.stk; have k2 := O.stw; have k3 := O.cnt; have k4 := O.wn
    rw [h] at k1 k2 k3 k4
    exact O.main (mn := .wc _) k1 k2 k3 (fun e => by cases e) (fun _ => k4 rfl) (fun e => by cases e) (fun o e => by cases e; exact hv)
  | wcY h =>
    have k1 := O.stk; have k2 := O.stw; have k3 := O.cnt; have k4 := O.wn
    rw [h] at k1 k2 k3 k4
    obtain ⟨a, b, c⟩ := k4 rfl
    exact O.main (mn := .ww) k1 k2 k3 (fun _ => .inl ⟨rfl, c, fun hv => absurd hv (O.wcn _ h), fun _ => b⟩) (fun e => by cases e) (fun e => by cases e)
  | wcN h hv =>
    have k1 := O.stk; have k2 := O.stw; have k3 := O.cnt; have k4 := O.wn
    rw [h] at k1 k2 k3 k4
    exact O.main (mn := .w1) k1 k2 k3 (fun e => by cases e) (fun _ => k4 rfl) (fun e => by cases e)
  | ww h =>
    have k1 := O.stk; have k2 := O.stw; have k3 := O.cnt; have k4 := O.wq
    rw [h] at k1 k2 k3 k4
    exact O.main (mn := .w3) k1 k2 k3 (fun _ => k4 rfl) (fun e => by cases e) (fun e => by cases e)
  | @w3 s h hs =>
    have k1 := O.stk; have k2 := O.stw; have k3 := O.cnt; have k4 := O.wq
    rw [h] at k1 k2 k3 k4
    rcases k4 rfl with ⟨a, b, c, d⟩ | ⟨a, b, c, d⟩
    · omega
    · exact O.main (mn := .w4) k1 k2 k3 (fun e => by cases e) (fun _ => ⟨a, c, by omega⟩) (fun _ => b)
  | w4 h =>
    have k1 := O.stk; have k2 := O.stw; have k3 := O.cnt; have k4 := O.wn; have k5 := O.post
    rw [h] at k1 k2 k3 k4 k5
    exact O.main (mn := .w5) k1 k2 k3 (fun e => by cases e) (fun _ => k4 rfl) (fun _ => k5 rfl)
  | w5 h =>
    have k1 := O.stk; have k2 := O.stw; have k3 := O.cnt; have k4 := O.wn; have k5 := O.post
    rw [h] at k1 k2 k3 k4 k5
    exact O.main (mn := .w6) k1 k2 k3 (fun e => by cases e) (fun _ => k4 rfl) (fun _ => k5 rfl)
  | w6 h =>
    have k1 := O.stk; have k2 := O.stw; have k3 := O.cnt; have k4 := O.wn; have k5 := O.post
    rw [h] at k1 k2 k3 k4 k5
    exact O.main (mn := .fin) k1 k2 k3 (fun e => by cases e) (fun _ => k4 rfl) (fun _ => k5 rfl)
  | @take j hj hp hc =>
    have e2 := Sw_upd (ph := γ.ph) hj (if keep γ.c then Wk.take else .mx γ.c [] .l0) d34
    have e3 := Sw_upd (ph := γ.ph) hj (if keep γ.c then Wk.take else .mx γ.c [] .l0) d5c
    have f1 : live1 (if keep γ.c then Wk.take else .mx γ.c [] .l0) = 1 := by split <;> rfl
    have f2 : d34 (if keep γ.c then Wk.take else .mx γ.c [] .l0) = 0 := by split <;> rfl
    have f3 : d5c (if keep γ.c then Wk.take else .mx γ.c [] .l0) = 0 := by split <;> rfl
    rw [f2, hp] at e2; rw [f3, hp] at e3
    simp only [d34, d5c, Nat.add_zero] at e2 e3
    refine O.work hj (by rw [hp]; simp) ?_ (by rw [f1, hp]; rfl) (by rw [e2, e3]; exact O.wq) (by rw [e2, e3]; exact O.wn) O.post (fun i L' p e hpp => ?_) (.inl rfl) (fun i L' p e => ?_) (fun i h1 h2 h3 => ?_) O.sub
    · rw [mp_upd]
      exact enter_inv O.mi hj (by simp [hp, mp]) (by split <;> simp [mp])
    · split at e
      · cases e
      · cases e; rcases hpp with h | h <;> cases h
    · split at e
      · cases e
      · rename_i hk
        cases e
        exact ⟨hc, by simpa using hk, by simp⟩
    · by_cases e : i = γ.c
      · subst e
        exact .inr ⟨[], .l0, by rw [h3]; rfl, rfl⟩
      · exact .inl ⟨by omega, id, fun L' p e => by rw [hp] at e; cases e⟩
  | @takeE j hj hp hc =>
    have e2 := Sw_upd (ph := γ.ph) hj .d0 d34
    have e3 := Sw_upd (ph := γ.ph) hj .d0 d5c
    rw [hp] at e2 e3
    simp only [d34, d5c, Nat.add_zero] at e2 e3
    refine O.work hj (by rw [hp]; simp) ?_ (by rw [hp]; rfl) (by rw [e2, e3]; exact O.wq) (by rw [e2, e3]; exact O.wn) O.post (fun i L' p e hpp => by cases e) (.inl rfl) (fun i L' p e => by cases e) (fun i h1 h2 h3 => .inl ⟨by omega, id, fun L' p e => by rw [hp] at e; cases e⟩) O.sub
    rw [mp_upd]
    exact enter_inv O.mi hj (by simp [hp, mp]) (.inl rfl)
  | @mx j i L p p' x' m' hj hp hms n1 n2 n3 =>
    have e2 := Sw_upd (ph := γ.ph) hj (.mx i L p') d34
    have e3 := Sw_upd (ph := γ.ph) hj (.mx i L p') d5c
    rw [hp] at e2 e3
    simp only [d34, d5c, Nat.add_zero] at e2 e3
    refine O.work hj (by rw [hp]; simp) ?_ (by rw [hp]; rfl) (by rw [e2, e3]; exact O.wq) (by rw [e2, e3]; exact O.wn) O.post (fun i' L' q e hpp => ?_) (.inl rfl) (fun i' L' q e => ?_) (fun i' h1 h2 h3 => ?_) O.sub
    · rw [mp_upd]
      exact step_inv O.mi hj (by simpa [hp, mp] using hms)
    · cases e
      rcases hpp with rfl | rfl
      · exact absurd (ms_u0 hms) n1
      · obtain rfl := ms_ur hms
        exact O.own j i L .u0 hp (.inl rfl)
    · cases e
      obtain ⟨a, b, _⟩ := O.idx j i L p hp
      exact ⟨a, b, fun e => by subst e; exact n3 (ms_to_out hms)⟩
    · exact .inl ⟨h1, id, fun L' q e hpre => by rw [hp] at e; cases e; exact .inr ⟨L, p', rfl, ms_pre hms n2 hpre⟩⟩
  | @la j i L hj hp =>
    have e2 := Sw_upd (ph := γ.ph) hj (.mx i γ.L .u0) d34
    have e3 := Sw_upd (ph := γ.ph) hj (.mx i γ.L .u0) d5c
    rw [hp] at e2 e3
    simp only [d34, d5c, Nat.add_zero] at e2 e3
    refine O.work hj (by rw [hp]; simp) ?_ (by rw [hp]; rfl) (by rw [e2, e3]; exact O.wq) (by rw [e2, e3]; exact O.wn) O.post (fun i' L' q e hpp => by cases e; rfl) (.inl rfl) (fun i' L' q e => ?_) (fun i' h1 h2 h3 => ?_) O.sub
    · rw [mp_upd]
      exact step_inv (m' := γ.m) (x' := γ.x) O.mi hj (by simpa [hp, mp] using Ms.la)
    · cases e
      obtain ⟨a, b, _⟩ := O.idx j i L .la hp
      exact ⟨a, b, by simp⟩
    · exact .inl ⟨h1, id, fun L' q e hpre => by rw [hp] at e; cases e; exact .inr ⟨γ.L, .u0, rfl, rfl⟩⟩
  | @ur j i L hj hp =>
    have e2 := Sw_upd (ph := γ.ph) hj (.mx i L .ud) d34
    have e3 := Sw_upd (ph := γ.ph) hj (.mx i L .ud) d5c
    rw [hp] at e2 e3
    simp only [d34, d5c, Nat.add_zero] at e2 e3
    have hL := O.own j i L .ur hp (.inr rfl)
    refine O.work hj (by rw [hp]; simp) ?_ (by rw [hp]; rfl) (by rw [e2, e3]; exact O.wq) (by rw [e2, e3]; exact O.wn) O.post (fun i' L' q e hpp => by cases e; rcases hpp with h | h <;> cases h) (.inr fun k i' L' q hk hkp hpp => ?_) (fun i' L' q e => ?_) (fun i' h1 h2 h3 => ?_) (fun i' hi' => ?_)
    · rw [mp_upd]
      exact step_inv (m' := γ.m) (x' := γ.x) O.mi hj (by simpa [hp, mp] using Ms.ur)
    · have hkJ : k < J := Classical.byContradiction fun h => by
        have := O.offs k (by have := O.stJ; omega)
        rw [this] at hkp; cases hkp
      have q1 := S_upd (ph := fun a => mp (γ.ph a)) hj .out hold
      have q2 := le_S (ph := upd (fun a => mp (γ.ph a)) j .out) hkJ hold
      rw [upd_ne _ _ hk] at q2
      have q3 : hold (mp (γ.ph j)) = 1 := by rw [hp]; rfl
      have q4 : hold (mp (γ.ph k)) = 1 := by rw [hkp]; rcases hpp with rfl | rfl <;> rfl
      have q5 := O.mi.i1
      have q6 : γ.x.l.toNat ≤ 1 := by cases γ.x.l <;> simp
      rw [q3] at q1
      rw [q4] at q2
      have q7 : hold .out = 0 := rfl
      omega
    · cases e
      obtain ⟨a, b, _⟩ := O.idx j i L .ur hp
      exact ⟨a, b, by simp⟩
    · exact .inl ⟨h1, fun h => by rw [← hL] at h; exact List.mem_append_left _ h, fun L' q e hpre => by rw [hp] at e; cases e; exact .inl (by simp)⟩
    · rcases List.mem_append.1 hi' with h | h
      · rw [hL] at h; exact O.sub i' h
      · simp only [List.mem_singleton] at h
        subst h
        obtain ⟨a, b, _⟩ := O.idx j i' L .ur hp
        exact ⟨a, b⟩
  | @ue j i L hj hp =>
    have e2 := Sw_upd (ph := γ.ph) hj .take d34
    have e3 := Sw_upd (ph := γ.ph) hj .take d5c
    rw [hp] at e2 e3
    simp only [d34, d5c, Nat.add_zero] at e2 e3
    refine O.work hj (by rw [hp]; simp) ?_ (by rw [hp]; rfl) (by rw [e2, e3]; exact O.wq) (by rw [e2, e3]; exact O.wn) O.post (fun i' L' q e hpp => by cases e) (.inl rfl) (fun i' L' q e => by cases e) (fun i' h1 h2 h3 => .inl ⟨h1, id, fun L' q e hpre => by rw [hp] at e; cases e; cases hpre⟩) O.sub
    rw [mp_upd]
    exact enter_inv O.mi hj (by simp [hp, mp]) (.inl rfl)
  | @d0 j hj hp =>
    have e2 := Sw_upd (ph := γ.ph) hj .d1 d34
    have e3 := Sw_upd (ph := γ.ph) hj .d1 d5c
    rw [hp] at e2 e3
    simp only [d34, d5c, Nat.add_zero] at e2 e3
    refine O.work hj (by rw [hp]; simp) ?_ (by rw [hp]; rfl) (by rw [e2, e3]; exact O.wq) (by rw [e2, e3]; exact O.wn) O.post (fun i' L' q e hpp => by cases e) (.inl rfl) (fun i' L' q e => by cases e) (fun i' h1 h2 h3 => .inl ⟨h1, id, fun L' q e hpre => by rw [hp] at e; cases e⟩) O.sub
    rw [mp_upd]
    exact enter_inv O.mi hj (by simp [hp, mp]) (.inl rfl)
  | @d1 j hj hp =>
    have e2 := Sw_upd (ph := γ.ph) hj .d2 d34
    have e3 := Sw_upd (ph := γ.ph) hj .d2 d5c
    rw [hp] at e2 e3
    simp only [d34, d5c, Nat.add_zero] at e2 e3
    refine O.work hj (by rw [hp]; simp) ?_ (by rw [hp]; rfl) (by rw [e2, e3]; exact O.wq) (by rw [e2, e3]; exact O.wn) O.post (fun i' L' q e hpp => by cases e) (.inl rfl) (fun i' L' q e => by cases e) (fun i' h1 h2 h3 => .inl ⟨h1, id, fun L' q e hpre => by rw [hp] at e; cases e⟩) O.sub
    rw [mp_upd]
    exact enter_inv O.mi hj (by simp [hp, mp]) (.inl rfl)
  | @d2 j v hj hp hv hw =>
    have e2 := Sw_upd (ph := γ.ph) hj .off d34
    have e3 := Sw_upd (ph := γ.ph) hj .off d5c
    rw [hp] at e2 e3
    simp only [d34, d5c, Nat.add_zero] at e2 e3
    refine O.work hj (by rw [hp]; simp) ?_ (by rw [hp, hv]; rfl) (fun e => ?_) (by rw [e2, e3]; exact O.wn) (fun e => by have := O.post e; omega) (fun i' L' q e hpp => by cases e) (.inl rfl) (fun i' L' q e => by cases e) (fun i' h1 h2 h3 => .inl ⟨h1, id, fun L' q e hpre => by rw [hp] at e; cases e⟩) O.sub
    · rw [mp_upd]
      exact enter_inv O.mi hj (by simp [hp, mp]) (.inl rfl)
    · rw [e2, e3]
      rcases O.wq e with ⟨a, b, c, d⟩ | ⟨a, b, c, d⟩
      · exact .inl ⟨a, b, fun h => by omega, fun _ => d (by omega)⟩
      · omega
  | @d2L j hj hp hv hw =>
    have e2 := Sw_upd (ph := γ.ph) hj .d3 d34
    have e3 := Sw_upd (ph := γ.ph) hj .d3 d5c
    rw [hp] at e2 e3
    simp only [d34, d5c, Nat.add_zero] at e2 e3
    refine O.work hj (by rw [hp]; simp) ?_ (by rw [hp, hv]; rfl) (fun e => ?_) (fun e => absurd (O.wn e).1 hw) (fun e => rfl) (fun i' L' q e hpp => by cases e) (.inl rfl) (fun i' L' q e => by cases e) (fun i' h1 h2 h3 => .inl ⟨h1, id, fun L' q e hpre => by rw [hp] at e; cases e⟩) O.sub
    · rw [mp_upd]
      exact enter_inv O.mi hj (by simp [hp, mp]) (.inl rfl)
    · rw [e2, e3]
      rcases O.wq e with ⟨a, b, c, d⟩ | ⟨a, b, c, d⟩
      · have := d (by omega)
        exact .inl ⟨a, b, fun _ => by omega, fun h => absurd rfl h⟩
      · omega
  | @d3 j hj hp =>
    have e2 := Sw_upd (ph := γ.ph) hj .d4 d34
    have e3 := Sw_upd (ph := γ.ph) hj .d4 d5c
    rw [hp] at e2 e3
    simp only [d34, d5c, Nat.add_zero, Nat.add_right_cancel_iff] at e2 e3
    refine O.work hj (by rw [hp]; simp) ?_ (by rw [hp]; rfl) (by rw [e2, e3]; exact O.wq) (by rw [e2, e3]; exact O.wn) O.post (fun i' L' q e hpp => by cases e) (.inl rfl) (fun i' L' q e => by cases e) (fun i' h1 h2 h3 => .inl ⟨h1, id, fun L' q e hpre => by rw [hp] at e; cases e⟩) O.sub
    rw [mp_upd]
    exact enter_inv O.mi hj (by simp [hp, mp]) (.inl rfl)
  | @d4 j hj hp =>
    have e2 := Sw_upd (ph := γ.ph) hj .d5 d34
    have e3 := Sw_upd (ph := γ.ph) hj .d5 d5c
    have e4 := le_Sw (ph := γ.ph) hj d34
    rw [hp] at e2 e3 e4
    simp only [d34, d5c, Nat.add_zero] at e2 e3 e4
    refine O.work hj (by rw [hp]; simp) ?_ (by rw [hp]; rfl) (fun e => ?_) (fun e => ?_) O.post (fun i' L' q e hpp => by cases e) (.inl rfl) (fun i' L' q e => by cases e) (fun i' h1 h2 h3 => .inl ⟨h1, id, fun L' q e hpre => by rw [hp] at e; cases e⟩) O.sub
    · rw [mp_upd]
      exact enter_inv O.mi hj (by simp [hp, mp]) (.inl rfl)
    · rcases O.wq e with ⟨a, b, c, d⟩ | ⟨a, b, c, d⟩
      · by_cases hv : γ.v = 0
        · have := c hv
          exact .inr ⟨rfl, hv, by omega, by omega⟩
        · have := d hv; omega
      · omega
    · have := O.wn e; omega
  | @d5 j hj hp =>
    have e2 := Sw_upd (ph := γ.ph) hj .off d34
    have e3 := Sw_upd (ph := γ.ph) hj .off d5c
    have e4 := le_Sw (ph := γ.ph) hj d5c
    rw [hp] at e2 e3 e4
    simp only [d34, d5c, Nat.add_zero] at e2 e3 e4
    refine O.work hj (by rw [hp]; simp) ?_ (by rw [hp]; rfl) (fun e => ?_) (fun e => ?_) O.post (fun i' L' q e hpp => by cases e) (.inl rfl) (fun i' L' q e => by cases e) (fun i' h1 h2 h3 => .inl ⟨h1, id, fun L' q e hpre => by rw [hp] at e; cases e⟩) O.sub
    · rw [mp_upd]
      exact enter_inv O.mi hj (by simp [hp, mp]) (.inl rfl)
    · rw [e2]
      rcases O.wq e with ⟨a, b, c, d⟩ | ⟨a, b, c, d⟩
      · omega
      · exact .inr ⟨a, b, c, by omega⟩
    · have := O.wn e; omega
end
end Go.Pal.Mu
end
section
namespace Go.Pal.Mu
open Go Go.Conc Go.Pal
open Go.ConcN (sumTo upd sumTo_upd upd_ne upd_same sumTo_congr le_sumTo)
def hc : Wk → Nat | .mx _ _ .u0 | .mx _ _ .ur => 1 | _ => 0
structure Par where
  J : Nat
  N : Nat
  keep : Nat → Bool
  Mu : Nat
  Wg : Nat
  Cn : Nat
  Cm : Nat
  tM : TypeId
  tW : TypeId
  tC : TypeId
  con : List Nat → Obj
  J1 : 1 ≤ J
  J2 : J ≤ 200
def act : Wk → Nat | .take | .mx _ _ _ => 1 | _ => 0
def Cb1 (J N : Nat) (γ : WS) : Prop := γ.c + Sw J γ.ph act ≤ N + γ.st
def lazyW : Wk → Bool | .take | .mx _ _ _ => false | _ => true
def Cd (N : Nat) (γ : WS) : Prop := ∀ j, j < γ.st → lazyW (γ.ph j) = true → N ≤ γ.c
def Cb (J N : Nat) (γ : WS) : Prop := Cb1 J N γ ∧ Cd N γ
theorem act_le : ∀ (J : Nat) {ph : Nat → Wk} {st : Nat}, (∀ j, st ≤ j → ph j = .off) → Sw J ph act ≤ st
  | 0, _, _, _ => Nat.zero_le _
  | J + 1, ph, st, h => by
    unfold Sw
    simp only [sumTo]
    by_cases e : st ≤ J
    · have := act_le J h
      unfold Sw at this
      rw [h J e]; simpa [act] using this
    · have : sumTo J (fun a => act (ph a)) ≤ J := by
        have : ∀ n, sumTo n (fun a => act (ph a)) ≤ n := fun n => by
          induction n with
          | zero => exact Nat.le_refl _
          | succ n ih => simp only [sumTo]; have : act (ph n) ≤ 1 := by cases ph n <;> simp [act]
                         omega
        exact this J
      have : act (ph J) ≤ 1 := by cases ph J <;> simp [act]
      omega
theorem Cb1.step {J N : Nat} {keep : Nat → Bool} {base i : Nat} {γ γ' : WS} (O : Ok J N keep γ) (C : Cb1 J N γ) (h : Tr J N keep base γ i γ') : Cb1 J N γ' := by
  have la := act_le J O.offs
  have wk : ∀ {j : Nat} (q : Wk), j < J → Sw J (upd γ.ph j q) act + act (γ.ph j) = Sw J γ.ph act + act q := fun q hj => Sw_upd (ph := γ.ph) hj q act
  unfold Cb1 at C ⊢
  cases h with
  | @go k h =>
    have k1 := O.stk; rw [h] at k1
    obtain ⟨hst, hk⟩ := k1 k rfl
    have hoff : γ.ph k = .off := O.offs k (by omega)
    have := wk .take hk
    rw [hoff] at this
    simp only [act] at this
    dsimp only
    omega
  | @take j hj hp hc =>
    have := wk (if keep γ.c then .take else .mx γ.c [] .l0) hj
    have e : act (if keep γ.c then .take else .mx γ.c [] .l0) = 1 := by split <;> rfl
    rw [hp, e] at this
    simp only [act] at this
    dsimp only
    omega
  | @takeE j hj hp hc =>
    have := wk .d0 hj
    rw [hp] at this
    simp only [act] at this
    dsimp only
    omega
  | @mx j i L p p' x' m' hj hp hms n1 n2 n3 => have := wk (.mx i L p') hj; rw [hp] at this; simp only [act] at this; dsimp only; omega
  | @la j i L hj hp => have := wk (.mx i γ.L .u0) hj; rw [hp] at this; simp only [act] at this; dsimp only; omega
  | @ur j i L hj hp => have := wk (.mx i L .ud) hj; rw [hp] at this; simp only [act] at this; dsimp only; omega
  | @ue j i L hj hp => have := wk .take hj; rw [hp] at this; simp only [act] at this; dsimp only; omega
  | @d0 j hj hp => have := wk .d1 hj; rw [hp] at this; simp only [act] at this; dsimp only; omega
  | @d1 j hj hp => have := wk .d2 hj; rw [hp] at this; simp only [act] at this; dsimp only; omega
  | @d2 j v hj hp => have := wk .off hj; rw [hp] at this; simp only [act] at this; dsimp only; omega
  | @d2L j hj hp => have := wk .d3 hj; rw [hp] at this; simp only [act] at this; dsimp only; omega
  | @d3 j hj hp => have := wk .d4 hj; rw [hp] at this; simp only [act] at this; dsimp only; omega
  | @d4 j hj hp => have := wk .d5 hj; rw [hp] at this; simp only [act] at this; dsimp only; omega
  | @d5 j hj hp => have := wk .off hj; rw [hp] at this; simp only [act] at this; dsimp only; omega
  | _ => exact C
theorem Cd.step {J N : Nat} {keep : Nat → Bool} {base i : Nat} {γ γ' : WS} (O : Ok J N keep γ) (C : Cd N γ) (h : Tr J N keep base γ i γ') : Cd N γ' := by
  have wk : ∀ {j : Nat} {q : Wk} {c : Nat}, γ.ph j ≠ .off → (lazyW q = true → lazyW (γ.ph j) = true ∨ N ≤ c) → γ.c ≤ c → ∀ a, a < γ.st → lazyW (upd γ.ph j q a) = true → N ≤ c := fun {j q c} hne hq hc a ha hl => by
    by_cases e : a = j
    · subst e
      rw [upd_same] at hl
      rcases hq hl with h | h
      · exact Nat.le_trans (C a ha h) hc
      · exact h
    · rw [upd_ne _ _ e] at hl
      exact Nat.le_trans (C a ha hl) hc
  cases h with
  | @go k h =>
    have k1 := O.stk; rw [h] at k1
    obtain ⟨hst, hk⟩ := k1 k rfl
    intro a ha hl
    simp only at ha hl ⊢
    by_cases e : a = k
    · subst e; rw [upd_same] at hl; cases hl
    · rw [upd_ne _ _ e] at hl; exact C a (by omega) hl
  | @take j hj hp hc => exact wk (by rw [hp]; simp) (fun e => by split at e <;> cases e) (Nat.le_succ _)
  | @takeE j hj hp hc => exact wk (by rw [hp]; simp) (fun _ => .inr (Nat.le_succ_of_le hc)) (Nat.le_succ _)
  | @mx j i L p p' x' m' hj hp hms n1 n2 n3 => exact wk (by rw [hp]; simp) (fun e => by cases e) (Nat.le_refl _)
  | @la j i L hj hp => exact wk (by rw [hp]; simp) (fun e => by cases e) (Nat.le_refl _)
  | @ur j i L hj hp => exact wk (by rw [hp]; simp) (fun e => by cases e) (Nat.le_refl _)
  | @ue j i L hj hp => exact wk (by rw [hp]; simp) (fun e => by cases e) (Nat.le_refl _)
  | @d0 j hj hp => exact wk (by rw [hp]; simp) (fun _ => .inl (by rw [hp]; rfl)) (Nat.le_refl _)
  | @d1 j hj hp => exact wk (by rw [hp]; simp) (fun _ => .inl (by rw [hp]; rfl)) (Nat.le_refl _)
  | @d2 j v hj hp => exact wk (by rw [hp]; simp) (fun _ => .inl (by rw [hp]; rfl)) (Nat.le_refl _)
  | @d2L j hj hp => exact wk (by rw [hp]; simp) (fun _ => .inl (by rw [hp]; rfl)) (Nat.le_refl _)
  | @d3 j hj hp => exact wk (by rw [hp]; simp) (fun _ => .inl (by rw [hp]; rfl)) (Nat.le_refl _)
  | @d4 j hj hp => exact wk (by rw [hp]; simp) (fun _ => .inl (by rw [hp]; rfl)) (Nat.le_refl _)
  | @d5 j hj hp => exact wk (by rw [hp]; simp) (fun _ => .inl (by rw [hp]; rfl)) (Nat.le_refl _)
  | _ => exact C
theorem Cb.step {J N : Nat} {keep : Nat → Bool} {base i : Nat} {γ γ' : WS} (O : Ok J N keep γ) (C : Cb J N γ) (h : Tr J N keep base γ i γ') : Cb J N γ' := ⟨Cb1.step O C.1 h, Cd.step O C.2 h⟩
section
variable {A : Par} {base : Nat} {γ γ' : WS}
def start : WS := { mn := .a0 0, st := 0, ph := fun _ => .off, c := 0, x := .zero, m := 0, L := [], v := 0, wt := 0, sm := 0 }
end
end Go.Pal.Mu
end
section
namespace Go.Pal
open Go Go.Conc View
theorem union_nil (v : View) : v.union (bview []) = v := by
  funext b; unfold View.union; cases v b <;> rfl
theorem bok_nil (v : View) : Bok [] v := ⟨by simp, fun _ => .inr rfl⟩
class Sil (P : outParam Program) (main : outParam Bool) (R : Goroutine → Prop) : Prop where
  step : ∀ {g g' : Goroutine}, g.status = .running → (∀ w, stepG P main g w = .go g' w #[]) → R g' → R g
instance {P : Program} {mn : Who} {Stop : View → Goroutine → Prop} {v : View} : Sil P mn.main (Run P mn Stop v) := ⟨fun hs h r => Run.ctl hs h r⟩
instance {P : Program} {main : Bool} {W : World → Prop} {Stop : View → Goroutine → Prop} {v : View} : Sil P main (RunW P main W Stop v) :=
  ⟨fun {_ g'} hs h r => .step hs (fun _ => g') (fun w => w) (fun _ => #[]) (fun _ => v) (fun w _ hw => ⟨h w, .refl hw⟩) (fun _ _ _ => r)⟩
instance {P : Program} {Stop : Goroutine → Prop} : Sil P false (MRun P Stop) := ⟨fun hs h r => .step hs h r⟩
def Quits (P : Program) (d : Nat) (g : Goroutine) : Prop := ∃ q, QuitsD P q d g
instance {P : Program} {d : Nat} : Sil P false (Quits P d) := ⟨fun hs h ⟨q, hq⟩ => ⟨q + 1, .inr ⟨hs, _, #[], by simp, h, by simpa [deafBehind] using hq⟩⟩⟩
def Pu {α : Type} (P : Program) (m : Sem α) (x : α) : Prop := ∀ w, m.run P w = .ok x w ∧ ∀ es, m.events P w es = es
theorem Pu.pure {α : Type} {P : Program} (x : α) : Pu P (pure x) x := fun w => ⟨rfl, fun es => rfl⟩
theorem Pu.bind {α β : Type} {P : Program} {m : Sem α} {f : α → Sem β} {x : α} {y : β} (h : Pu P m x) (k : Pu P (f x) y) : Pu P (m >>= f) y := fun w => by
  refine ⟨by rw [Sem.run_bind, (h w).1]; exact (k w).1, fun es => ?_⟩
  rw [Sem.events_bind, (h w).1, (h w).2]
  exact (k w).2 es
theorem Pu.und {P : Program} {t : TypeId} {d : TypeDesc} (h : P.underlying t = some d) : Pu P (underlying t) d := fun w => ⟨by simp [underlying, h], fun es => by simp⟩
theorem Pu.siz {P : Program} {T : Tab P} {t : TypeId} {n : Nat} (h : T.siz t = some n) : Pu P (sizeOf t) n := fun w => by
  obtain ⟨i, hi, rfl⟩ := T.siz_ok _ _ h
  exact ⟨by simp [sizeOf, typeInfo, hi], fun es => by simp⟩
def _root_.Go.Frame.out (b : Frame) (a : Act) (its : List Item) : Frame := { b.on a its with mode := .returning }
def XG (R : Goroutine → Prop) (n : Nat) (b : Frame) (its : List Item) (cs : List Frame) (ds : List Deferred) (ρ : Regs) : Prop :=
  ∀ a, Fits n ⟨ds, ρ, []⟩ a → R (G (b.on a its) cs)
section
variable {P : Program} (T : Tab P) {main : Bool} {R : Goroutine → Prop} [S : Sil P main R] {n : Nat} {b : Frame} {k : List Item} {cs : List Frame} {ρ : Regs} {ds : List Deferred}
include S
theorem F_seq {x y : Code} (h : XG R n b (.code x :: .code y :: k) cs ds ρ) : XG R n b (.code (.seq x y) :: k) cs ds ρ := fun a hf =>
  S.step rfl (fun w => by simp [G, stepG, stepG.exec, Frame.on]) (h a hf)
theorem F_region {id : Nat} {ops : Array Oper} {l : List Nat} (hl : List.range ops.size = l) (h : XG R n b (.inRegion ops l :: k) cs ds ρ) : XG R n b (.code (.region id ops false) :: k) cs ds ρ := fun a hf =>
  S.step rfl (g' := G (b.on a (.inRegion ops (List.range ops.size) :: k)) cs) (fun w => by simp [G, stepG, stepG.exec, Frame.on]) (by rw [hl]; exact h a hf)
variable {ops : Array Oper} {i : Nat} {rest : List Nat} {d : Nat} {op : Op} {ty : TypeId} {pos : String} {af : Array Edge} {gu : Option (Nat × Bool)}
omit S in
theorem F_enter {g : FuncId} {fn : Func} {c : Code} {ys : List Value} (hfn : P.funcs[g]? = some fn) (hb : fn.body = some c) (hle : ys.length ≤ fn.ntmps)
    {kd : CallKind} (h : ∀ bf : Frame, bf.kind = kd → bf.roundOf = none → bf.fn = g → XG R fn.ntmps bf [.code c] cs [] (argRegs 0 ys)) : R (G (Frame.enter P g ys.toArray kd) cs) := by
  let bf : Frame := { fn := g, tmps := #[], todo := [], defers := [], mode := .run, kind := kd }
  have henter : Frame.enter P g ys.toArray kd = bf.on { tmps := ys.toArray ++ Array.replicate (fn.ntmps - ys.length) undef, defers := [] } [.code c] := by
    simp [Frame.enter, Frame.on, hfn, hb, bf]
  rw [henter]
  refine h bf rfl rfl rfl _ ⟨?_, rfl, ?_⟩
  · simp; omega
  · have key : ∀ (l : List Value) (i t : Nat) (x : Value), (argRegs i l).get t = some x → i ≤ t ∧ l[t - i]? = some x := by
      intro l
      induction l with
      | nil => intro i t x h; simp [argRegs, Regs.get] at h
      | cons y l ih =>
        intro i t x h
        simp only [argRegs, Regs.get] at h
        cases hb : Nat.beq i t with
        | true =>
          rw [hb] at h
          have := Nat.eq_of_beq_eq_true hb
          subst this
          simp only [cond_true] at h
          exact ⟨Nat.le_refl _, by simpa using h⟩
        | false =>
          rw [hb] at h
          obtain ⟨h1, h2⟩ := ih (i + 1) t x h
          refine ⟨by omega, ?_⟩
          rw [show t - i = (t - (i + 1)) + 1 by omega]
          simpa using h2
    intro t x hx
    obtain ⟨_, h2⟩ := key ys 0 t x hx
    simp only [Nat.sub_zero] at h2
    obtain ⟨hlt, _⟩ := List.getElem?_eq_some_iff.1 h2
    rw [Array.getElem?_append_left (by simpa using hlt)]
    simpa using h2
end
end Go.Pal
end
section
namespace Go.Pal
open Go Go.Conc View
section
variable {P : Program} {mn : Who} {Stop : View → Goroutine → Prop} {v : View}
theorem run_collected {fr : Frame} {cs : List Frame} {r : Nat} {ds : List Deferred} (hm : fr.mode = .returning) (hd : fr.defers = { target := .collected r, args := #[] } :: ds) (hr : v r = some (true, .deferred (some [])))
    (h : Run P mn Stop (v.set r true (.deferred none)) (G { fr with defers := ds } cs)) : Run P mn Stop v (G fr cs) := by
  refine run_sem (m := Instr.takeDeferred r) (K := fun l u => l = [] ∧ u = v.set r true (.deferred none)) (E := fun _ _ => False) rfl ?_ (fun l u hl => ?_) (fun x v' hx => hx.elim)
  · unfold Instr.takeDeferred
    rw [sx_bind]
    refine sx_getO hr rfl rfl ?_
    rw [sx_bind]
    exact sx_setObj hr rfl rfl ⟨rfl, rfl⟩
  · obtain ⟨rfl, rfl⟩ := hl
    refine ⟨G { fr with defers := ds } cs, fun w w' es hrun => ⟨seen P fr.fn es ++ #[], ?_, fun e he => mem_seen (by simpa using he)⟩, h⟩
    have h1 : stepG P mn.main (G fr cs) w = unwind P mn.main fr cs none w := by simp [G, stepG, hm]
    rw [h1]
    unfold unwind
    simp only [hd, hrun]
    rfl
theorem fits_args {fn : Func} {β : Boxes} {args : List Value} (hn : args.length ≤ fn.ntmps) : Fits fn.ntmps ⟨[], argRegs 0 args, β⟩ { tmps := args.toArray ++ Array.replicate (fn.ntmps - args.toArray.size) undef, defers := [] } := by
  refine ⟨by simp; omega, rfl, ?_⟩
  have key : ∀ (l : List Value) (i t : Nat) (x : Value), (argRegs i l).get t = some x → i ≤ t ∧ l[t - i]? = some x := by
    intro l
    induction l with
    | nil => intro i t x h; simp [argRegs, Regs.get] at h
    | cons y l ih =>
      intro i t x h
      simp only [argRegs, Regs.get] at h
      cases hb : Nat.beq i t with
      | true =>
        rw [hb] at h
        have := Nat.eq_of_beq_eq_true hb
        subst this
        simp only [cond_true] at h
        exact ⟨Nat.le_refl _, by simpa using h⟩
      | false =>
        rw [hb] at h
        obtain ⟨h1, h2⟩ := ih (i + 1) t x h
        refine ⟨by omega, ?_⟩
        rw [show t - i = (t - (i + 1)) + 1 by omega]
        simpa using h2
  intro t x hx
  obtain ⟨_, h2⟩ := key args 0 t x hx
  simp only [Nat.sub_zero] at h2
  obtain ⟨hlt, _⟩ := List.getElem?_eq_some_iff.1 h2
  rw [Array.getElem?_append_left (by simpa using hlt)]
  simpa using h2
variable (T : Tab P)
theorem sx_results2 {n : Nat} {fn : Func} {R : End → Boxes → Prop} {a : Act} {ds : List Deferred} {ρ : Regs} {β β'' : Boxes} {u w : View} {xs : List Value} (hf' : Fits n ⟨ds, ρ, β⟩ a) (hb' : Bok β u) (hl : (u.union (bview β)).Le w) (hr : ResL T ρ β fn.results.toList xs) (hR : R (.ret (oneOf xs)) β'') (hB : Back v β'' u β) :
    SemX P (results fn a.tmps) (fun x v' => ∃ β', R (.ret x) β' ∧ Bok β' v ∧ (v.union (bview β')).Le v') (fun _ _ => False) w := by
  obtain ⟨h1, h2⟩ := hB hb'
  unfold results
  rw [sx_bind, Array.mapM_eq_mapM_toList, sx_map]
  refine sx_resL T hf' hb' hl hr ?_
  rw [sx_pure]
  refine ⟨β'', ?_, h1, h2.trans hl⟩
  match xs, hR with
  | [], hR => simpa [oneOf] using hR
  | [x], hR => simpa [oneOf] using hR
  | x :: y :: r, hR => simpa [oneOf] using hR
end
section
variable {P : Program} {mn : Who} {v : View}
theorem RoundX.mono {l : Nat} {f : FuncId} {tmps : Array Value} {assign body : Code} {R R' : End → View → Prop} (h : RoundX P mn l f tmps assign body R v) (hq : ∀ e v, R e v → ∃ u, u.Le v ∧ R' e u) : RoundX P mn l f tmps assign body R' v := fun Stop c cs hc hk =>
  h Stop c cs hc fun e v' hR => by
    obtain ⟨u, hl, hR'⟩ := hq e v' hR
    exact (hk e u hR').weaken hl
theorem roundX_body {l : Nat} {f : FuncId} {tmps : Array Value} {assign body : Code} {R : End → View → Prop} {lp : Loop} (hl : v l = some (true, .loop lp)) (hs : lp.state = .ready) {M : Act → View → Prop}
    (ha : wpX P mn (some l) assign (fun e a u => e = .normal ∧ u l = some (true, .loop lp) ∧ wpX P mn (some l) body (fun e a u => e = .normal ∧ u l = some (true, .loop { lp with state := .busy }) ∧ R (.ret (.bool true)) (u.set l true (.loop { lp with state := .ready, pending := none }))) a (u.set l true (.loop { lp with state := .busy }))) ⟨tmps, []⟩ v) :
    RoundX P mn l f tmps assign body R v := by
  intro Stop c cs hc hR
  let b : Frame := { fn := f, tmps := #[], todo := [], defers := [], mode := .run, kind := .normal, roundOf := some l }
  have henter : Frame.round l f tmps assign body .normal = b.on ⟨tmps, []⟩ [.code assign, .beginRound, .code body] := by simp [Frame.round, Frame.on, b]
  rw [henter]
  refine ha Stop b _ (c :: cs) (by simp [b]) rfl fun e a u ⟨he, hu, hb⟩ => ?_
  subst he
  -- beginRound
  refine run_sem (m := Instr.beginRound l) (K := fun _ u' => u' = u.set l true (.loop { lp with state := .busy })) (E := fun _ _ => False) rfl ?_ (fun _ u' hu' => ?_) (fun x v' hx => hx.elim)
  · unfold Instr.beginRound Instr.getLoop
    simp only [sx_bind]
    refine sx_getO hu rfl rfl ?_
    refine sx_setObj hu rfl rfl ?_
    simp only [hs]
    rfl
  · subst hu'
    refine ⟨G (b.on a [.code body]) (c :: cs), fun w w' es hrun => ⟨seen P b.fn es ++ #[], ?_, fun e he => mem_seen (by simpa using he)⟩, ?_⟩
    · have h1 : stepG P mn.main (G (b.on a (.beginRound :: [.code body])) (c :: cs)) w = stepG.apply P true (b.on a (.beginRound :: [.code body])) (c :: cs) none (do Instr.beginRound l; pure .skip) w := by
        simp [G, stepG, stepG.exec, Frame.on, b]
      rw [h1]
      have h2 : (do Instr.beginRound l; pure .skip : Sem Next).runT P w #[] = (.ok .skip w', es) := by
        show (Sem.bind _ _).runT P w #[] = _
        rw [Sem.runT_bind', hrun]
        rfl
      unfold stepG.apply
      simp only [if_true, h2, show ((b.on a (.beginRound :: [.code body])).kind == CallKind.early) = false from rfl, Bool.false_eq_true, if_false]
      rfl
    · refine hb Stop b [] (c :: cs) (by simp [b]) rfl fun e a' u' ⟨he, hu', hr⟩ => ?_
      subst he
      refine run_sem (m := Instr.endRound l none) (K := fun x w => x = .bool true ∧ w = u'.set l true (.loop { lp with state := .ready, pending := none })) (E := fun _ _ => False) rfl ?_ (fun x w hx => ?_) (fun x v' hx => hx.elim)
      · unfold Instr.endRound Instr.getLoop
        simp only [sx_bind]
        refine sx_getO hu' rfl rfl ?_
        exact sx_setObj hu' rfl rfl ⟨rfl, rfl⟩
      · obtain ⟨rfl, rfl⟩ := hx
        refine ⟨G (c.finish (.bool true)) cs, fun w w' es hrun => ⟨seen P b.fn es ++ #[], ?_, fun e he => mem_seen (by simpa using he)⟩, hR _ _ hr⟩
        have h1 : stepG P mn.main (G (b.on a' []) (c :: cs)) w = stepG.exec P mn.main true (b.on a' []) (c :: cs) none w := by simp [G, stepG, Frame.on, b]
        rw [h1]
        unfold stepG.exec
        simp only [show (b.on a' []).todo = [] from rfl, show (b.on a' []).roundOf = some l from rfl, hrun]
        rfl
end
end Go.Pal
end
section
namespace Go.Pal
open Go Go.Conc View
section
variable {P : Program} {mn : Who} {v : View}
theorem RoundX.frame {l : Nat} {f : FuncId} {tmps : Array Value} {assign body : Code} {R : End → View → Prop} {F : View} (h : RoundX P mn l f tmps assign body R v) (hd : Disj v F) :
    RoundX P mn l f tmps assign body (fun e v' => ∃ u, v' = u.union F ∧ Disj u F ∧ R e u) (v.union F) := by
  intro Stop c cs hc hk
  have h1 := (h (fun u g => ∃ e, R e u ∧ (match e with | .ret x => g = G (c.finish x) cs | .pan ch => g = G (c.raise ch) cs)) c cs hc (fun e v' hR => by
    cases e with
    | ret x => exact .stop (Le.refl _) ⟨.ret x, hR, rfl⟩
    | pan ch => exact .stop (Le.refl _) ⟨.pan ch, hR, rfl⟩)).frame hd
  refine h1.mono ?_
  rintro v' g ⟨u, rfl, hdu, e, hR, hg⟩
  have := hk e (u.union F) ⟨u, rfl, hdu, hR⟩
  cases e <;> (subst hg; exact this)
theorem x_rangeFunc {fop : Operand} {params : Array Tmp} {assign body : Code} {Q : Exit → Act → View → Prop} {a : Act} {kf : FuncId} {first captured : Array Value} (hf : a.eval fop = .func (.func kf) first captured) (hk : Bodied P kf)
    (h : ∀ r l fnId, v r = none → v l = none → r ≠ l →
      CallsX P mn kf (first ++ #[.func (.yield l) #[] #[]] ++ captured) (fun e u => ∃ x lp, e = .ret x ∧ u l = some (true, .loop lp) ∧ lp.state ≠ .busy ∧ lp.pending = none ∧ Q .normal ⟨a.tmps, { target := .collected r, args := #[] } :: a.defers⟩ (u.set l true (.loop { lp with state := .exhausted })))
        ((v.set r true (.deferred (some []))).set l true (.loop { state := .ready, pending := none, fn := fnId, tmps := a.tmps, params := params, assign := assign, body := body, defers := r }))) :
    wpX P mn none (.rangeFunc fop params assign body) Q a v := by
  intro Stop b k cs hb hr hq
  have hbr : ∀ (c : Act) (its : List Item), ({ b.on c its with roundOf := none } : Frame) = b.on c its := fun c its => by
    unfold Frame.on
    rw [← hr]
  have hev : (b.on a (.code (.rangeFunc fop params assign body) :: k)).eval fop = .func (.func kf) first captured := by rw [eval_on]; exact hf
  let m : Sem (Nat × List Deferred × Next) := (Instr.enterLoop b.fn a.tmps params assign body none) >>= fun p => (callFunc kf (first ++ #[.func (.yield p.1) #[] #[]] ++ captured)) >>= fun nx => pure (p.1, p.2, nx)
  refine run_sem (m := m) (K := fun p u => ∃ r, v r = none ∧ v p.1 = none ∧ r ≠ p.1 ∧ p.2.1 = [{ target := .collected r, args := #[] }] ∧ p.2.2 = .enter kf (first ++ #[.func (.yield p.1) #[] #[]] ++ captured) ∧
      u = (v.set r true (.deferred (some []))).set p.1 true (.loop { state := .ready, pending := none, fn := b.fn, tmps := a.tmps, params := params, assign := assign, body := body, defers := r })) (E := fun _ _ => False) rfl ?_ (fun p u hp => ?_) (fun x v' hx => hx.elim)
  · simp only [m, sx_bind]
    unfold Instr.enterLoop
    simp only [sx_bind]
    intro r hvr
    simp only [sx_pure, sx_bind]
    intro l hl
    have hlr : r ≠ l := by
      intro e; subst e; simp [View.set] at hl
    have hvl : v l = none := by
      unfold View.set at hl; rwa [if_neg (fun e => hlr e.symm)] at hl
    exact sx_callFunc hk ⟨r, hvr, hvl, hlr, rfl, rfl, rfl⟩
  · obtain ⟨l, mark, nx⟩ := p
    obtain ⟨r, h1, h2, h3, h4, h5, h6⟩ := hp
    simp only at h1 h2 h3 h4 h5 h6
    subst h4 h5 h6
    have hbe : ((b.on a (.code (.rangeFunc fop params assign body) :: k)).kind == CallKind.early) = false := by simpa [Frame.on] using hb
    refine ⟨G (Frame.enter P kf (first ++ #[.func (.yield l) #[] #[]] ++ captured) .normal) (b.on ⟨a.tmps, { target := .collected r, args := #[] } :: a.defers⟩ (.inRangeFunc l :: k) :: cs), fun w w' es hrun => ?_, ?_⟩
    · -- the step
      have hr' : (b.on a (.code (.rangeFunc fop params assign body) :: k)).roundOf = none := hr
      cases e1 : (Instr.enterLoop b.fn a.tmps params assign body none).runT P w #[] with
      | mk r1 es1 =>
        cases r1 with
        | halt hh w1 =>
          exfalso
          have : m.runT P w #[] = (.halt hh w1, es1) := by
            show (Sem.bind _ _).runT P w #[] = _
            rw [Sem.runT_bind', e1]
          rw [this] at hrun; cases hrun
        | ok p w1 =>
          have e2 : (callFunc kf (first ++ #[.func (.yield p.1) #[] #[]] ++ captured)).runT P w1 es1 = (.ok (.enter kf (first ++ #[.func (.yield p.1) #[] #[]] ++ captured)) w1, es1) := by
            obtain ⟨fn, c, q1, q2, q3⟩ := hk
            unfold callFunc
            simp [q1, q2, q3, Sem.runT, Sem.bind]
          have e3 : m.runT P w #[] = (.ok (p.1, p.2, .enter kf (first ++ #[.func (.yield p.1) #[] #[]] ++ captured)) w1, es1) := by
            show (Sem.bind _ _).runT P w #[] = _
            rw [Sem.runT_bind', e1]
            show (Sem.bind _ _).runT P w1 es1 = _
            rw [Sem.runT_bind', e2]
            rfl
          rw [e3] at hrun
          simp only [Prod.mk.injEq, Result.ok.injEq] at hrun
          obtain ⟨⟨⟨hp1, hp2, _⟩, hw⟩, hes⟩ := hrun
          have e4 : (callFunc kf (first ++ #[.func (.yield l) #[] #[]] ++ captured)).runT P w1 #[] = (.ok (.enter kf (first ++ #[.func (.yield l) #[] #[]] ++ captured)) w1, #[]) := by
            obtain ⟨fn, c, q1, q2, q3⟩ := hk
            unfold callFunc
            simp [q1, q2, q3, Sem.runT, Sem.bind]
          refine ⟨seen P b.fn es1 ++ (seen P b.fn #[] ++ #[]), ?_, fun e he => ?_⟩
          · have s1 : stepG P mn.main (G (b.on a (.code (.rangeFunc fop params assign body) :: k)) cs) w = stepG.exec P mn.main true (b.on a (.code (.rangeFunc fop params assign body) :: k)) cs none w := by simp [G, stepG, Frame.on]
            rw [s1]
            unfold stepG.exec
            simp only [show (b.on a (.code (.rangeFunc fop params assign body) :: k)).todo = .code (.rangeFunc fop params assign body) :: k from rfl, show (b.on a (.code (.rangeFunc fop params assign body) :: k)).fn = b.fn from rfl,
              show (b.on a (.code (.rangeFunc fop params assign body) :: k)).tmps = a.tmps from rfl, hr', e1]
            unfold stepG.apply
            have e5 : ∀ (fr : Frame), fr.eval fop = .func (.func kf) first captured → (do let d ← resolve fr.eval { callee := .value fop, args := #[.const (.func (.yield p.1) #[] #[])], argTypes := #[] } 0; invoke d.target d.args : Sem Next) = callFunc kf (first ++ #[.func (.yield p.1) #[] #[]] ++ captured) := by
              intro fr hfr
              have ha : (#[Operand.const (.func (.yield p.1) #[] #[])] : Array Operand).map fr.eval = #[.func (.yield p.1) #[] #[]] := by simp [Frame.eval]
              unfold resolve
              simp only [ha, hfr, Deferred.ofValue]
              rfl
            rw [e5 _ (by exact hev)]
            rw [hp1, hp2, hw] at *
            simp only [if_true, e4]
            rw [show (b.on a (.code (.rangeFunc fop params assign body) :: k)).kind = b.kind from rfl] at *
            simp only [hbe, Bool.false_eq_true, if_false]
            rw [← hbr ⟨a.tmps, { target := .collected r, args := #[] } :: a.defers⟩ (.inRangeFunc l :: k)]
            rfl
          · rw [← hes]
            simp only [Array.mem_append] at he
            rcases he with he | he | he
            · exact mem_seen he
            · rw [seen_none] at he; exact absurd he (by simp)
            · exact absurd he (by simp)
    · refine h r l b.fn h1 h2 h3 Stop _ cs rfl fun e u hR => ?_
      obtain ⟨x, lp, rfl, hu, hns, hpd, hQ⟩ := hR
      show Run P mn Stop u (G (Frame.finish _ x) cs)
      rw [show (b.on ⟨a.tmps, { target := .collected r, args := #[] } :: a.defers⟩ (.inRangeFunc l :: k)).finish x = b.on ⟨a.tmps, { target := .collected r, args := #[] } :: a.defers⟩ (.endRangeFunc l :: k) from rfl]
      refine run_sem (m := Instr.endLoop l) (K := fun j w => j = none ∧ w = u.set l true (.loop { lp with state := .exhausted })) (E := fun _ _ => False) rfl ?_ (fun j w hj => ?_) (fun x v' hx => hx.elim)
      · unfold Instr.endLoop Instr.getLoop
        simp only [sx_bind]
        refine sx_getO hu rfl rfl ?_
        rw [sx_pure, if_neg (by simpa using hns), sx_bind]
        refine sx_setObj hu rfl rfl ?_
        exact ⟨hpd, rfl⟩
      · obtain ⟨rfl, rfl⟩ := hj
        refine ⟨G (b.on ⟨a.tmps, { target := .collected r, args := #[] } :: a.defers⟩ k) cs, fun w w' es hrun => ⟨seen P b.fn es ++ #[], ?_, fun e he => mem_seen (by simpa using he)⟩, hq _ _ _ hQ⟩
        have h1 : stepG P mn.main (G (b.on ⟨a.tmps, { target := .collected r, args := #[] } :: a.defers⟩ (.endRangeFunc l :: k)) cs) w = stepG.exec P mn.main true (b.on ⟨a.tmps, { target := .collected r, args := #[] } :: a.defers⟩ (.endRangeFunc l :: k)) cs none w := by simp [G, stepG, Frame.on]
        rw [h1]
        unfold stepG.exec
        simp only [show (b.on ⟨a.tmps, { target := .collected r, args := #[] } :: a.defers⟩ (.endRangeFunc l :: k)).todo = .endRangeFunc l :: k from rfl, hrun]
        rfl
def YieldX (P : Program) (mn : Who) (l : Nat) (xs : List Value) (J : View → Prop) (v : View) : Prop :=
  SemX P (Instr.yield l xs.toArray) (fun nx w => match nx with | .round l f tmps assign body => RoundX P mn l f tmps assign body (fun e w' => e = .ret (.bool true) ∧ J w') w | _ => False) (fun _ _ => False) v
theorem yieldX_of {l : Nat} {xs : List Value} {J : View → Prop} {lp : Loop} (hl : v l = some (true, .loop lp)) (hs : lp.state = .ready) (hn : xs.length = lp.params.size)
    (ha : wpX P mn (some l) lp.assign (fun e a u => e = .normal ∧ u l = some (true, .loop lp) ∧ wpX P mn (some l) lp.body (fun e a u => e = .normal ∧ u l = some (true, .loop { lp with state := .busy }) ∧ J (u.set l true (.loop { lp with state := .ready, pending := none }))) a (u.set l true (.loop { lp with state := .busy }))) ⟨(lp.params.zip xs.toArray).foldl (fun tmps (t, a) => tmps.setIfInBounds t a) lp.tmps, []⟩ v) : YieldX P mn l xs J v := by
  unfold YieldX Instr.yield Instr.getLoop
  simp only [sx_bind]
  refine sx_getO hl rfl rfl ?_
  have : ¬ (xs.toArray.size ≠ lp.params.size) := by simpa using hn
  simp only [sx_pure]
  rw [if_neg this]
  refine roundX_body (M := fun _ _ => True) hl hs (wpX_mono ha fun e a u h => ⟨u, Le.refl _, h.1, h.2.1, wpX_mono h.2.2 fun e a u h => ⟨u, Le.refl _, h.1, h.2.1, rfl, h.2.2⟩⟩)
end
section
variable {P : Program} {mn : Who} {rd : Option Nat} {n : Nat} {Q : Exit → St → View → Prop} {ds : List Deferred} {ρ : Regs} {β : Boxes} {v : View} {K : St → View → Prop}
  {ops : Array Oper} {i : Nat} {d : Nat} {ty : TypeId} {pos : String} {af : Array Edge} {gu : Option (Nat × Bool)}
theorem A_yield {f : Operand} {args : Array Operand} {ats : Array TypeId} {l : Nat} {xs : List Value} {J : View → Prop} (hrd : rd ≠ some 4294967295) (ho : ops[i]? = some ⟨some d, .call { callee := .value f, args := args, argTypes := ats }, ty, pos, af, gu⟩) (hw : wantG ops gu ρ = some true) (hn : Nat.blt d n = true)
    (hf : ρ.val f = some (.func (.yield l) #[] #[])) (hxs : allGet ρ.val args.toList = some xs) (hy : YieldX P mn l xs J v) (h : ∀ u, J u → K ⟨ds, (d, .bool true) :: ρ, β⟩ u) : XOp P mn rd n ops i Q K ⟨ds, ρ, β⟩ v := by
  refine xop_sem ho (wantG_B hw) (.inr rfl) hn fun ev hev hbk => ?_
  have ha : args.map ev = xs.toArray := Array.toList_inj.1 (by simpa using allGet_map hev hxs)
  unfold execOp
  simp only [resolve, Deferred.ofValue, hev _ _ hf, ha, sx_bind, sx_pure, invoke]
  have he : (#[] ++ xs.toArray : Array Value) = xs.toArray := by simp
  rw [he]
  refine semX_mono _ (fun nx w hK => ?_) (fun x w hE => ?_) (semX_frame (F := bview β) _ hy hbk.disj)
  · obtain ⟨u1, rfl, hd1, hK⟩ := hK
    cases nx with
    | round l f tmps assign body =>
      refine ⟨hrd, RoundX.mono (RoundX.frame hK hd1) fun e w' hR => ?_⟩
      obtain ⟨u2, rfl, hd2, rfl, hJ⟩ := hR
      exact ⟨_, Le.refl _, β, u2, ⟨⟨hbk.nodup, hd2⟩, Le.refl _⟩, h u2 hJ⟩
    | _ => exact hK.elim
  · obtain ⟨u1, _, _, hE⟩ := hE
    exact hE.elim
end
end Go.Pal
end
section
namespace Go.Pal
open Go Go.Conc View
def Ret1 (P : Program) (mn : Who) (k : FuncId) (args : List Value) (x : Value) (v : View) : Prop := CallsB P mn k args.toArray (RetB fun r β' => r = x ∧ β' = []) [] v
section
variable {P : Program} {mn : Who} {v u : View}
theorem Ret1.x {k : FuncId} {args : List Value} {x : Value} (h : Ret1 P mn k args x v) : CallsX P mn k args.toArray (fun e u => e = .ret x ∧ v.Le u) v := by
  have h1 := h ⟨List.nodup_nil, fun _ => .inr rfl⟩
  rw [show v.union (bview []) = v from union_nil v] at h1
  refine h1.mono fun e w hR => ⟨w, Le.refl _, ?_⟩
  obtain ⟨β', hR, _, hl⟩ := hR
  cases e with
  | ret y =>
    obtain ⟨rfl, rfl⟩ := hR
    rw [union_nil] at hl
    exact ⟨rfl, hl⟩
  | pan ch => exact hR.elim
theorem Ret1.le {k : FuncId} {args : List Value} {x : Value} (h : Ret1 P mn k args x u) (hl : u.Le v) : Ret1 P mn k args x v := fun hb => by
  obtain ⟨F, rfl, hd⟩ := le_split hl
  rw [union_nil]
  refine (CallsX.frame h.x hd).mono fun e w hR => ?_
  obtain ⟨u', rfl, hd', rfl, hle⟩ := hR
  refine ⟨_, Le.refl _, [], ⟨rfl, rfl⟩, ⟨List.nodup_nil, fun _ => .inr rfl⟩, ?_⟩
  rw [union_nil]
  exact union_le_union hle hd'
theorem Ret1.box {k : FuncId} {args : List Value} {x : Value} {β : Boxes} (h : Bok β v → Ret1 P mn k args x (v.union (bview β))) : CallsB P mn k args.toArray (RetB fun r β' => r = x ∧ β' = β) β v := fun hb =>
  (h hb).x.mono fun e w hR => ⟨w, Le.refl _, β, by obtain ⟨rfl, hl⟩ := hR; exact ⟨⟨rfl, rfl⟩, hb, hl⟩⟩
theorem CallsB.mono {k : FuncId} {args : Array Value} {R R' : End → Boxes → Prop} {β : Boxes} (h : CallsB P mn k args R β v) (hR : ∀ e β, R e β → R' e β) : CallsB P mn k args R' β v := fun hb =>
  (h hb).mono fun e w ⟨β', h1, h2, h3⟩ => ⟨w, Le.refl _, β', hR _ _ h1, h2, h3⟩
end
section
variable {P : Program} {mn : Who} (T : Tab P) {rd : Option Nat} {n : Nat} {Q : Exit → St → View → Prop} {ds : List Deferred} {ρ : Regs} {β : Boxes} {v : View} {K : St → View → Prop}
  {ops : Array Oper} {i : Nat} {l : List Oper} {d : Nat} {ty : TypeId} {pos : String} {af : Array Edge} {gu : Option (Nat × Bool)}
theorem A_ret1 {f : Operand} {args : Array Operand} {ats : Array TypeId} {k : FuncId} {first captured : Array Value} {xs ys : List Value} {x : Value} (ho : ops[i]? = some ⟨some d, .call { callee := .value f, args := args, argTypes := ats }, ty, pos, af, gu⟩) (hk : Bodied P k) (hw : wantG ops gu ρ = some true) (hn : Nat.blt d n = true)
    (hf : ρ.val f = some (.func (.func k) first captured)) (hxs : allGet ρ.val args.toList = some xs) (hys : first.toList ++ (xs ++ captured.toList) = ys) (hc : Ret1 P mn k ys x v) (h : K ⟨ds, (d, x) :: ρ, β⟩ v) : XOp P mn rd n ops i Q K ⟨ds, ρ, β⟩ v :=
  A_callR [] β ho hk hw hn hf hxs hys (fun _ => rfl) (hc.le (union_le _ _)) (fun y β' hR => by obtain ⟨rfl, rfl⟩ := hR; exact h)
theorem L_ret1 {f : Operand} {args : Array Operand} {ats : Array TypeId} {k : FuncId} {first captured : Array Value} {xs ys : List Value} {x : Value} (hk : Bodied P k) (hw : wantG ops gu ρ = some true) (hn : Nat.blt d n = true)
    (hf : ρ.val f = some (.func (.func k) first captured)) (hxs : allGet ρ.val args.toList = some xs) (hys : first.toList ++ (xs ++ captured.toList) = ys) (hc : Ret1 P mn k ys x v) (h : XL P mn n ops Q l ⟨ds, (d, x) :: ρ, β⟩ v) :
    XL P mn n ops Q (⟨some d, .call { callee := .value f, args := args, argTypes := ats }, ty, pos, af, gu⟩ :: l) ⟨ds, ρ, β⟩ v := by
  refine L_call hw hn hf hxs hk ?_ h
  have : (first ++ xs.toArray ++ captured : Array Value) = ys.toArray := by rw [← hys]; apply Array.ext'; simp
  rw [this]
  exact hc.x
theorem A_byte {t : TypeId} {y z : Operand} {s : ByteArray} {j : Nat} {jz : Int} {k : IntKind} (ho : ops[i]? = some ⟨some d, .index t y z, ty, pos, af, gu⟩) (hw : wantG ops gu ρ = some true) (hn : Nat.blt d n = true) (hy : ρ.val y = some (.string s)) (hz : ρ.val z = some (.int k jz)) (hj : jz = j) (ht : T.und t = some .string) {b : UInt8} (hb : s[j]? = some b)
    (h : K ⟨ds, (d, .int .u8 b.toNat) :: ρ, β⟩ v) : XOp P mn rd n ops i Q K ⟨ds, ρ, β⟩ v := by
  refine xop_sem ho (wantG_B hw) (.inr rfl) hn fun ev hev hbk => ?_
  subst hj
  simp only [execOp, sx_bind, hev _ _ hy, hev _ _ hz, Instr.index, asIntOf, sx_pure, tx_und T ht]
  have : (0 : Int) ≤ (j : Int) := by omega
  simp only [this, if_true, Int.toNat_natCast, hb]
  exact ⟨β, v, ⟨hbk, Le.refl _⟩, h⟩
theorem A_panic {x : Operand} {t : TypeId} {y : Value} (ho : ops[i]? = some ⟨none, .panic x, ty, pos, af, gu⟩) (hw : wantG ops gu ρ = some true) (hx : ρ.val x = some (.iface t y))
    (h : Q (.panic [{ v := .iface t y, recovered := false }]) ⟨ds, ρ, β⟩ v) : XOp P mn rd n ops i Q K ⟨ds, ρ, β⟩ v := by
  refine xop_sem ho (wantG_B hw) (.inr rfl) rfl fun ev hev hbk => ?_
  simp only [execOp, sx_bind, hev _ _ hx, Instr.panic]
  exact ⟨β, v, ⟨hbk, Le.refl _⟩, h⟩
end
end Go.Pal
end
section
namespace Go.Pal
open Go Go.Conc View
def Lift (F u : View) : Prop := ∀ b x, F b = some x → ∃ o, x = (true, o) ∧ (u b = none ∨ u b = some (false, o))
section
variable {P : Program} {mn : Who} {Stop : View → Goroutine → Prop} {F u u' : View} {w w' : World}
theorem Lift.agree (h : Lift F u) (ha : (F.union u).Agree w) : u.Agree w := fun b p o e => by
  cases hF : F b with
  | none => exact ha b p o (by unfold View.union; rw [hF]; exact e)
  | some x =>
    obtain ⟨o', rfl, h1 | h1⟩ := h b x hF
    · rw [h1] at e; cases e
    · rw [h1] at e; cases e
      exact ha b true o (by unfold View.union; rw [hF])
theorem Lift.none (h : Lift F u) {b : Nat} (ho : u.Owns b) : F b = .none := by
  cases hF : F b with
  | none => rfl
  | some x =>
    obtain ⟨o', ho⟩ := ho
    obtain ⟨o, rfl, h1 | h1⟩ := h b x hF <;> (rw [h1] at ho; cases ho)
theorem Lift.owns (h : Lift F u) {b : Nat} (ho : u.Owns b) : (F.union u).Owns b := by
  have := h.none ho
  obtain ⟨o, ho⟩ := ho
  exact ⟨o, by unfold View.union; rw [this]; exact ho⟩
theorem Lift.some_ (h : Lift F u) {b : Nat} (hn : u b ≠ .none) : (F.union u) b ≠ .none := by
  unfold View.union
  cases hF : F b with
  | none => exact hn
  | some x => simp
theorem Lift.step (h : Lift F u) (hF : F.Agree w) (ha : u'.Agree w') (keep : ∀ b, b < w.heap.size → ¬ u.Owns b → w'.heap[b]? = w.heap[b]?) (dom : ∀ b, u' b ≠ .none → u b ≠ .none ∨ w.heap.size ≤ b) (own : ∀ b, u'.Owns b → u.Owns b ∨ w.heap.size ≤ b) :
    Lift F u' ∧ (F.union u').Agree w' ∧ (∀ b, b < w.heap.size → ¬ (F.union u).Owns b → w'.heap[b]? = w.heap[b]?) ∧ (∀ b, (F.union u') b ≠ .none → (F.union u) b ≠ .none ∨ w.heap.size ≤ b) ∧ (∀ b, (F.union u').Owns b → (F.union u).Owns b ∨ w.heap.size ≤ b) := by
  have hst : ∀ b o, F b = .some (true, o) → w'.heap[b]? = .some o := fun b o hb => by
    rw [keep b (hF.lt hb) fun hn => ?_]
    · exact hF b true o hb
    · have := h.none hn
      rw [this] at hb; cases hb
  refine ⟨fun b x hb => ?_, fun b p o e => ?_, fun b hb hn => keep b hb fun ho => hn (h.owns ho), fun b hb => ?_, fun b hb => ?_⟩
  · obtain ⟨o, rfl, _⟩ := h b x hb
    refine ⟨o, rfl, ?_⟩
    cases hu : u' b with
    | none => exact .inl rfl
    | some y =>
      obtain ⟨p, o'⟩ := y
      right
      have h1 := ha b p o' hu
      rw [hst b o hb] at h1
      cases h1
      cases p with
      | false => rfl
      | true =>
        exfalso
        rcases own b ⟨o, hu⟩ with e | e
        · rw [h.none e] at hb; cases hb
        · exact absurd (hF.lt hb) (by omega)
  · unfold View.union at e
    cases hb : F b with
    | none => rw [hb] at e; exact ha b p o e
    | some x =>
      rw [hb] at e
      cases e
      obtain ⟨o', h1, _⟩ := h b _ hb
      cases h1
      exact hst b o hb
  · unfold View.union at hb ⊢
    cases hF' : F b with
    | none => rw [hF'] at hb; exact dom b hb
    | some x => exact .inl (by simp)
  · obtain ⟨o, hb⟩ := hb
    unfold View.union at hb
    cases hF' : F b with
    | none =>
      rw [hF'] at hb
      rcases own b ⟨o, hb⟩ with e | e
      · exact .inl (h.owns e)
      · exact .inr e
    | some x =>
      rw [hF'] at hb
      cases hb
      exact .inl ⟨o, by unfold View.union; rw [hF']⟩
theorem Lift.ev (h : Lift F u) {lo hi : Nat} {e : Event} (k : EvOk u lo hi e) : EvOk (F.union u) lo hi e := by
  obtain ⟨l, wr, sy⟩ := e
  have hs : ∀ b, (u b).isSome = true → ((F.union u) b).isSome = true := fun b hb => Option.isSome_iff_ne_none.2 (h.some_ (Option.isSome_iff_ne_none.1 hb))
  cases l <;> cases sy <;> simp only [EvOk] at k ⊢ <;> try exact k.elim
  · refine k.imp id fun k => ?_
    cases wr
    · simp only [Bool.false_eq_true, if_false] at k ⊢; exact hs _ k
    · simp only [if_true] at k ⊢; exact h.owns k
  · refine k.imp id fun k => ?_
    cases wr
    · simp only [Bool.false_eq_true, if_false] at k ⊢; exact hs _ k
    · simp only [if_true] at k ⊢; exact h.owns k
  · rename_i m
    cases m <;> cases wr <;> simp_all [EvOk]
end
end Go.Pal
end
section
namespace Go.Pal
open Go Go.Conc View
section
variable {P : Program} {mn : Who} {u v : View}
theorem YieldX.le {l : Nat} {xs : List Value} {J : View → Prop} (hJ : ∀ u w, J u → u.Le w → J w) (h : YieldX P mn l xs J u) (hl : u.Le v) : YieldX P mn l xs J v := by
  obtain ⟨F, rfl, hd⟩ := le_split hl
  unfold YieldX at h ⊢
  refine semX_mono _ (fun nx w hK => ?_) (fun x w hE => ?_) (semX_frame (F := F) _ h hd)
  · obtain ⟨u1, rfl, hd1, hK⟩ := hK
    cases nx with
    | round l f tmps assign body =>
      refine RoundX.mono (RoundX.frame hK hd1) fun e w' hR => ?_
      obtain ⟨u2, rfl, hd2, rfl, hJ2⟩ := hR
      exact ⟨_, Le.refl _, rfl, hJ _ _ hJ2 (union_le _ _)⟩
    | _ => exact hK.elim
  · obtain ⟨u1, _, _, hE⟩ := hE
    exact hE.elim
theorem yield_XC {l n : Nat} {xs : List Value} {J : View → Prop} {lp : Loop} {ρ : Regs} {β : Boxes} (hl : v l = some (true, .loop lp)) (hs : lp.state = .ready) (hn : xs.length = lp.params.size)
    (hfit : Fits n ⟨[], ρ, β⟩ ⟨(lp.params.zip xs.toArray).foldl (fun tmps (t, a) => tmps.setIfInBounds t a) lp.tmps, []⟩) (hb : Bok β v)
    (h : XC P mn (some l) n lp.assign (fun e σ u => e = .normal ∧ u = v ∧ XC P mn (some l) n lp.body (fun e σ u => e = .normal ∧ u l = some (true, .loop { lp with state := .busy }) ∧ (Bok σ.β u → ∀ w, ((u.set l true (.loop { lp with state := .ready, pending := none })).union (bview σ.β)).Le w → J w)) σ (v.set l true (.loop { lp with state := .busy }))) ⟨[], ρ, β⟩ v) :
    YieldX P mn l xs J (v.union (bview β)) := by
  refine yieldX_of (union_some hl) hs hn (wpX_mono (h _ hfit hb) ?_)
  rintro e a w ⟨σ, u, ⟨rfl, rfl, hbody⟩, hf, hbk, hle⟩
  refine ⟨w, Le.refl _, rfl, hle _ _ (union_some hl), ?_⟩
  obtain ⟨hb2, hv2⟩ := bok_set (p := true) (o := .loop { lp with state := .busy }) hbk (box_none hbk hl)
  have hset : ∀ {x y : View} {o : Obj}, x.Le y → (x.set l true o).Le (y.set l true o) := fun {x y o} hxy b z hz => by
    unfold View.set at hz ⊢
    split
    · rename_i e; rw [if_pos e] at hz; exact hz
    · rename_i e; rw [if_neg e] at hz; exact hxy _ _ hz
  refine wpX_weaken (u := (u.set l true (.loop { lp with state := .busy })).union (bview σ.β)) ?_ (hv2 ▸ hset hle)
  refine wpX_mono (hbody a hf hb2) ?_
  rintro e a' w' ⟨σ', u', ⟨rfl, hl', hJ⟩, hf', hbk', hle'⟩
  refine ⟨w', Le.refl _, rfl, hle' _ _ (union_some hl'), hJ hbk' _ ?_⟩
  obtain ⟨_, hv3⟩ := bok_set (p := true) (o := .loop { lp with state := .ready, pending := none }) hbk' (box_none hbk' hl')
  rw [← hv3]
  exact hset hle'
theorem XC_rangeFunc {n : Nat} {Q : Exit → St → View → Prop} {ds : List Deferred} {ρ : Regs} {β : Boxes} {fop : Operand} {params : Array Tmp} {assign body : Code} {kf : FuncId} {first captured : Array Value}
    (hf : ρ.val fop = some (.func (.func kf) first captured)) (hk : Bodied P kf)
    (h : ∀ (a : Act) r l fnId, Fits n ⟨ds, ρ, β⟩ a → Bok β v → v r = none → v l = none → r ≠ l → bview β r = none → bview β l = none →
      CallsX P mn kf (first ++ #[.func (.yield l) #[] #[]] ++ captured) (fun e u => ∃ x lp, e = .ret x ∧ u l = some (true, .loop lp) ∧ lp.state ≠ .busy ∧ lp.pending = none ∧
          ∃ σ' u', Q .normal σ' u' ∧ σ'.ds = { target := .collected r, args := #[] } :: ds ∧ SubR σ'.ρ ρ ∧ Bok σ'.β u' ∧ (u'.union (bview σ'.β)).Le (u.set l true (.loop { lp with state := .exhausted })))
        (((v.set r true (.deferred (some []))).set l true (.loop { state := .ready, pending := none, fn := fnId, tmps := a.tmps, params := params, assign := assign, body := body, defers := r })).union (bview β))) :
    XC P mn none n (.rangeFunc fop params assign body) Q ⟨ds, ρ, β⟩ v := fun a hfit hb => by
  refine x_rangeFunc (fits_eval hfit _ _ hf) hk fun r l fnId h1 h2 h3 => ?_
  have hsp : ∀ {b : Nat}, (v.union (bview β)) b = none → v b = none ∧ bview β b = none := fun {b} hb' => by
    unfold View.union at hb'
    cases e : v b with
    | none => rw [e] at hb'; exact ⟨rfl, hb'⟩
    | some x => rw [e] at hb'; cases hb'
  obtain ⟨r1, r2⟩ := hsp h1
  obtain ⟨l1, l2⟩ := hsp h2
  rw [union_set, union_set]
  refine (h a r l fnId hfit hb r1 l1 h3 r2 l2).mono fun e u hR => ⟨u, Le.refl _, ?_⟩
  obtain ⟨x, lp, rfl, q1, q2, q3, σ', u', q4, q5, q6, q7, q8⟩ := hR
  refine ⟨x, lp, rfl, q1, q2, q3, σ', u', q4, ⟨hfit.size, ?_, fun t y hy => hfit.get t y (q6.get t y hy)⟩, q7, q8⟩
  rw [q5, hfit.defers]
end
end Go.Pal
end
