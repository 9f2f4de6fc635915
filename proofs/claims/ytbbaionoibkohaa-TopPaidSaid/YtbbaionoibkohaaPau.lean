/- Part 21 of the proof that stands in the last text. -/
import Derived.Test.YtbbaionoibkohaaPat
set_option linter.all false
section
namespace Go.Pal
open Go Go.Conc View
theorem vset_at {x : View} {b : Nat} {p : Bool} {o : Obj} : (x.set b p o) b = some (p, o) := by unfold View.set; rw [if_pos rfl]
theorem vset_off {x : View} {b c : Nat} {p : Bool} {o : Obj} (h : c ≠ b) : (x.set b p o) c = x c := by unfold View.set; rw [if_neg h]
abbrev coll (r : Nat) : Deferred := { target := .collected r, args := #[] }
section
variable {P : Program} {mn : Who} {Stop : View → Goroutine → Prop} {cs : List Frame}
theorem run_marks : ∀ (rs : List Nat) (w : View) (fr : Frame), fr.mode = .returning → fr.defers = rs.map coll → rs.Nodup → (∀ r ∈ rs, w r = some (true, .deferred (some []))) →
    (∀ w', (∀ b, b ∉ rs → w' b = w b) → Run P mn Stop w' (G { fr with defers := [] } cs)) → Run P mn Stop w (G fr cs)
  | [], w, fr, hm, hd, _, _, h => by
    have := h w fun _ _ => rfl
    have e : ({ fr with defers := [] } : Frame) = fr := by cases fr; simp only [List.map_nil] at hd; subst hd; rfl
    rw [e] at this
    exact this
  | r :: rs, w, fr, hm, hd, hn, hw, h => by
    rw [List.nodup_cons] at hn
    refine run_collected hm hd (hw r (by simp)) ?_
    refine run_marks rs _ { fr with defers := rs.map coll } hm rfl hn.2 (fun r' hr' => ?_) (fun w' hw' => ?_)
    · rw [vset_off (fun e : r' = r => hn.1 (e ▸ hr'))]
      exact hw r' (by simp [hr'])
    · refine h w' fun b hb => ?_
      rw [List.mem_cons, not_or] at hb
      rw [hw' b hb.2, vset_off hb.1]
end
section
variable {P : Program} {mn : Who} (T : Tab P) {v : View}
def FnMs (fn : Func) (R : End → Boxes → Prop) (v : View) : Exit → St → View → Prop
  | .normal, σ, u | .ret, σ, u => ∃ rs : List Nat, σ.ds = rs.map coll ∧ rs.Nodup ∧ (∀ r ∈ rs, u r = some (true, .deferred (some [])) ∧ v r = none) ∧ ∃ xs β', ResL T σ.ρ σ.β fn.results.toList xs ∧ R (.ret (oneOf xs)) β' ∧ Back v β' u σ.β ∧ ∀ r ∈ rs, bview β' r = none
  | _, _, _ => False
theorem callsB_fnMs {f : FuncId} {fn : Func} {c : Code} {args : List Value} {R : End → Boxes → Prop} {β : Boxes} (hf : P.funcs[f]? = some fn) (hb : fn.body = some c) (hn : args.length ≤ fn.ntmps)
    (h : XC P mn none fn.ntmps c (FnMs T fn R v) ⟨[], argRegs 0 args, β⟩ v) : CallsB P mn f args.toArray R β v := fun hbk => by
  intro Stop cf cs hc hR
  let b : Frame := { fn := f, tmps := #[], todo := [], defers := [], mode := .run, kind := .normal }
  have henter : Frame.enter P f args.toArray .normal = b.on { tmps := args.toArray ++ Array.replicate (fn.ntmps - args.toArray.size) undef, defers := [] } [.code c] := by
    simp [Frame.enter, Frame.on, hf, hb, b]
  rw [henter]
  refine (h _ (fits_args hn) hbk) Stop b [] (cf :: cs) (by simp [b]) rfl fun e a' w hQ => ?_
  obtain ⟨⟨ds', ρ', β'⟩, u, hq, hf', hb', hl⟩ := hQ
  have hgo : ∀ (fr : Frame) (rs : List Nat), fr.mode = .returning → fr.kind = .normal → fr.fn = f → fr.tmps = a'.tmps → fr.defers = rs.map coll → rs.Nodup → (∀ r ∈ rs, u r = some (true, .deferred (some [])) ∧ v r = none) →
      (∃ xs β'', ResL T ρ' β' fn.results.toList xs ∧ R (.ret (oneOf xs)) β'' ∧ Back v β'' u β' ∧ ∀ r ∈ rs, bview β'' r = none) → Run P mn Stop w (G fr (cf :: cs)) := by
    intro fr rs h1 h2 h3 h4 h5 h6 h7 ⟨xs, β'', h8, h9, h10, h11⟩
    refine run_marks rs w fr h1 h5 h6 (fun r hr => hl _ _ (union_some (h7 r hr).1)) (fun w' hw' => ?_)
    refine run_leave (R := fun e w' => ∃ β', R e β' ∧ Bok β' v ∧ (v.union (bview β')).Le w') (by simpa using h1) rfl (by simpa using h2) (by simpa [h3] using hf) ?_ hR
    simp only [h4]
    obtain ⟨u0, hu0⟩ : ∃ u0 : View, u0 = fun b => if b ∈ rs then none else u b := ⟨_, rfl⟩
    have h0 : u0.Le u := fun b x hx => by
      rw [hu0] at hx
      simp only at hx
      split at hx
      · cases hx
      · exact hx
    have hb0 : Bok β' u0 := ⟨hb'.nodup, disj_le hb'.disj h0⟩
    have hbn : ∀ r ∈ rs, bview β' r = none := fun r hr => (hb'.disj r).resolve_left (by rw [(h7 r hr).1]; simp)
    refine sx_results2 T (n := fn.ntmps) (ds := ds') (ρ := ρ') (β := β') (u := u0) ⟨hf'.size, hf'.defers, hf'.get⟩ hb0 (fun b x hx => ?_) h8 h9 (fun _ => ?_)
    · by_cases hbr : b ∈ rs
      · exfalso
        unfold View.union at hx
        rw [hu0] at hx
        simp only [if_pos hbr] at hx
        rw [hbn b hbr] at hx
        cases hx
      · rw [hw' b hbr]
        refine hl b x ?_
        unfold View.union at hx ⊢
        rw [hu0] at hx
        simp only [if_neg hbr] at hx
        exact hx
    · obtain ⟨h12, h13⟩ := h10 hb'
      refine ⟨h12, fun b x hx => ?_⟩
      by_cases hbr : b ∈ rs
      · exfalso
        unfold View.union at hx
        rw [(h7 b hbr).2] at hx
        simp only at hx
        rw [h11 b hbr] at hx
        cases hx
      · have := h13 b x hx
        unfold View.union at this ⊢
        rw [hu0]
        simp only [if_neg hbr]
        exact this
  cases e with
  | normal =>
    obtain ⟨rs, h1, h2, h3, h4⟩ := hq
    refine Run.ctl rfl (g' := G { b.on a' [] with mode := .returning } (cf :: cs)) (fun w => by simp [G, stepG, stepG.exec, Frame.on, b]) ?_
    exact hgo _ rs rfl rfl rfl rfl (hf'.defers.trans h1) h2 h3 h4
  | ret =>
    obtain ⟨rs, h1, h2, h3, h4⟩ := hq
    intro todo
    refine Run.ctl rfl (g' := G { b.on a' (.code .ret :: todo) with mode := .returning } (cf :: cs)) (fun w => by simp [G, stepG, stepG.exec, Frame.on, b]) ?_
    exact hgo _ rs rfl rfl rfl rfl (hf'.defers.trans h1) h2 h3 h4
  | panic ch => exact hq.elim
  | exit id => exact hq.elim
  | goto l => exact hq.elim
  | outgrown => exact hq.elim
end
end Go.Pal
end
section
namespace Go.Proofs.Ytbbaionoibkohaa
open Go Go.Pal Go.Pal.Db Go.Conc View
open Go.Proofs.Try
set_option maxHeartbeats 4000000
def RowsP (V : View) (rows : List Value) (m s : Nat) : Prop := rows.length = s ∧ ∀ x ∈ rows, ∃ l a c, l.length = m ∧ (∀ d ∈ l, Dt.fit d) ∧ x = .slice a m c ∧ RowAt V a (dtC l)
theorem RowsP.le {U V : View} {rows : List Value} {m s : Nat} (h : RowsP U rows m s) (hl : U.Le V) : RowsP V rows m s := ⟨h.1, fun x hx => by
  obtain ⟨l, a, c, h1, h2, h3, h4⟩ := h.2 x hx
  exact ⟨l, a, c, h1, h2, h3, h4.le hl⟩⟩
def OwnR (β : Boxes) (a : Option Addr) (cap m s : Nat) : Prop := ∃ segO segR rows, β = segO ++ segR ∧ OwnS 79 1 segO a s cap rows ∧ ∀ V, Bok segR V → RowsP (V.union (bview segR)) rows m s
def IFew (V0 : View) (b6 m s : Nat) (w : View) : Prop := ∃ a cap seg, OwnR seg a cap m s ∧ Bok ((b6, List.toArray [.slice a s cap], 82) :: seg) V0 ∧ (V0.union (bview ((b6, List.toArray [.slice a s cap], 82) :: seg))).Le w
theorem IFew.le {V0 u w : View} {b6 m s : Nat} (h : IFew V0 b6 m s u) (hl : u.Le w) : IFew V0 b6 m s w := by
  obtain ⟨a, cap, seg, h1, h2, h3⟩ := h
  exact ⟨a, cap, seg, h1, h2, h3.trans hl⟩
noncomputable def fwA : Code := match f25.body with
  | some (.seq _ (.seq (.seq _ (.block _ (.loop (.seq _ (.seq _ (.seq (.block _ (.seq _ (.seq _ (.seq (.seq _ (.block _ (.rangeFunc _ _ a _))) _)))) _)))))) _)) => a
  | _ => .skip
noncomputable def fwB : Code := match f25.body with
  | some (.seq _ (.seq (.seq _ (.block _ (.loop (.seq _ (.seq _ (.seq (.block _ (.seq _ (.seq _ (.seq (.seq _ (.block _ (.rangeFunc _ _ _ a))) _)))) _)))))) _)) => a
  | _ => .skip
theorem beqf {a b : Nat} (h : a ≠ b) : Nat.beq a b = false := by
  cases e : Nat.beq a b with
  | false => rfl
  | true => exact absurd (Nat.eq_of_beq_eq_true e) h
section
variable {mn : Who}
theorem round_x {V0 w : View} {b6 m s l : Nat} {lp : Loop} {β : Boxes} {p : Value} (hl : V0 l = some (true, .loop lp)) (ha : lp.assign = fwA) (hb : lp.body = fwB) (hst : lp.state = .ready) (hpe : lp.pending = none) (hpa : lp.params = #[19])
    (hsz : lp.tmps.size = f25.ntmps) (h6 : lp.tmps[6]? = some (.pointer (some ⟨b6, 0, none⟩))) (hs : s < 2 ^ 20) (hI : IFew V0 b6 m s w) (hbk : Bok β w) (hO : OwnP β p m) :
    YieldX Try.prog mn l [p] (IFew V0 b6 m (s + 1)) (w.union (bview β)) := by
  obtain ⟨a, cap, seg, ⟨segO, segR, rows, rfl, hSO, hSR⟩, hb1, hle⟩ := hI
  obtain ⟨lo, pa, pc, g1, g2, rfl, g4⟩ := hO
  obtain ⟨β0, hβ0⟩ : ∃ β0 : Boxes, β0 = β ++ ((b6, List.toArray [.slice a s cap], 82) :: (segO ++ segR)) := ⟨_, rfl⟩
  have hb2 : Bok β (V0.union (bview ((b6, List.toArray [.slice a s cap], 82) :: (segO ++ segR)))) := ⟨hbk.nodup, disj_le hbk.disj hle⟩
  have hb0 : Bok β0 V0 := by rw [hβ0]; exact bok_append.2 ⟨hb1, hb2⟩
  have hle0 : (V0.union (bview β0)).Le (w.union (bview β)) := by
    rw [hβ0, union_comm_boxes (hβ0 ▸ hb0)]
    exact union_le_mono hle hbk.disj
  refine YieldX.le (fun x w hx hw => hx.le hw) ?_ hle0
  refine yield_XC (n := f25.ntmps) (ρ := [(19, .slice pa m pc), (6, .pointer (some ⟨b6, 0, none⟩))]) hl hst (by rw [hpa]; rfl) ?_ hb0 ?_
  · rw [hpa]
    have ez : (#[19].zip [Value.slice pa m pc].toArray).foldl (fun (tmps : Array Value) (p : Nat × Value) => tmps.setIfInBounds p.1 p.2) lp.tmps = lp.tmps.setIfInBounds 19 (.slice pa m pc) := by simp
    refine Eq.mpr (congrArg (fun z => Pal.Fits f25.ntmps _ ⟨z, []⟩) ez) ?_
    have h19 : 19 < lp.tmps.size := by rw [hsz]; decide
    refine ⟨by simpa using hsz, rfl, ?_⟩
    intro k x hk
    rw [Array.getElem?_setIfInBounds]
    by_cases e19 : k = 19
    · subst e19
      rw [if_pos rfl, if_pos h19]
      exact hk
    · rw [if_neg (fun e => e19 e.symm)]
      by_cases e6 : k = 6
      · subst e6
        rw [h6]; exact hk
      · exfalso
        have b1 : Nat.beq 19 k = false := beqf (fun e => e19 e.symm)
        have b2 : Nat.beq 6 k = false := beqf (fun e => e6 e.symm)
        simp only [Regs.get, b1, b2, cond_false] at hk
        cases hk
  · refine Eq.mpr (congrArg (fun z => XC Try.prog mn (some l) f25.ntmps z _ _ _) ha) ?_
    refine Q_region ?_
    repeat' (first | refine cs ?_ | refine ss ?_ | (((with_reducible apply Q_box); (focus (exact rfl)); (focus (exact rfl)); (focus (exact rfl))); intro bx) | (((with_reducible apply Q_alloc tab); (focus (exact rfl)); (focus (exact rfl)); (focus (exact rfl))); intro bx) | refine S_do (by kernel_rfl) (A_storeN tab rfl rfl rfl rfl rfl rfl rfl (by ((repeat (first | exact InB.head | apply InB.tail | (with_reducible apply InB.app))); done)) (by exact rfl) (by ((repeat (first | exact SetB.head | apply SetB.tail | (with_reducible apply SetB.app))); done)) ⟨Le.refl _, (by (repeat (first | exact trivial | (apply And.intro; (focus (first | (apply Or.inr; (try dsimp only); ((repeat (first | exact InB.head | apply InB.tail | (with_reducible apply InB.app))); done)) | (apply Or.inl; kernel_rfl))))))), ?_⟩))
    refine ⟨rfl, rfl, ?_⟩
    refine Eq.mpr (congrArg (fun z => XC Try.prog mn (some l) f25.ntmps z _ _ _) hb) ?_
    refine XC_sub (τ := ⟨[], [(7, .slice pa m pc), (6, .pointer (some ⟨b6, 0, none⟩))], (b6, List.toArray [.slice a s cap], 82) :: (segO ++ (segR ++ β))⟩) (u := V0.set l true (.loop { lp with state := .busy })) ?_ ⟨rfl, (by (repeat (first | exact trivial | refine ⟨rfl, ?_⟩))), by rw [hβ0]; exact cntL⟩ (Le.refl _)
    refine C_block ?_
    repeat' (first | refine cs ?_ | refine ss ?_ | (((with_reducible apply Q_box); (focus (exact rfl)); (focus (exact rfl)); (focus (exact rfl))); intro bx) | (((with_reducible apply Q_alloc tab); (focus (exact rfl)); (focus (exact rfl)); (focus (exact rfl))); intro bx) | refine S_do (by kernel_rfl) (A_storeN tab rfl rfl rfl rfl rfl rfl rfl (by ((repeat (first | exact InB.head | apply InB.tail | (with_reducible apply InB.app))); done)) (by exact rfl) (by ((repeat (first | exact SetB.head | apply SetB.tail | (with_reducible apply SetB.app))); done)) ⟨Le.refl _, (by (repeat (first | exact trivial | (apply And.intro; (focus (first | (apply Or.inr; (try dsimp only); ((repeat (first | exact InB.head | apply InB.tail | (with_reducible apply InB.app))); done)) | (apply Or.inl; kernel_rfl))))))), ?_⟩))
    refine Q_op fun ho => A_lit tab ho rfl rfl rfl rfl rfl rfl rfl rfl rfl (fun b3 c3 hL => ?_)
    clear ho
    refine Q_op fun ho => A_append tab (xs := [.slice pa m pc]) segO [(b3, c3, 79)] ((b6, List.toArray [.slice a s cap], 82) :: (segR ++ β)) ho rfl rfl rfl rfl rfl rfl rfl rfl rfl rfl cntA hSO
      (fun hb => RowAt.own hb cntL hL) rfl rfl (by show (2 * (s + 1) + 768) * 24 ≤ 2 ^ 48; omega) (by omega) (fun seg' a' cap' hS' => ?_)
    clear ho
    repeat' (first | refine cs ?_ | refine ss ?_ | (((with_reducible apply Q_box); (focus (exact rfl)); (focus (exact rfl)); (focus (exact rfl))); intro bx) | (((with_reducible apply Q_alloc tab); (focus (exact rfl)); (focus (exact rfl)); (focus (exact rfl))); intro bx) | refine S_do (by kernel_rfl) (A_storeN tab rfl rfl rfl rfl rfl rfl rfl (by ((repeat (first | exact InB.head | apply InB.tail | (with_reducible apply InB.app))); done)) (by exact rfl) (by ((repeat (first | exact SetB.head | apply SetB.tail | (with_reducible apply SetB.app))); done)) ⟨Le.refl _, (by (repeat (first | exact trivial | (apply And.intro; (focus (first | (apply Or.inr; (try dsimp only); ((repeat (first | exact InB.head | apply InB.tail | (with_reducible apply InB.app))); done)) | (apply Or.inl; kernel_rfl))))))), ?_⟩))
    refine ⟨rfl, vset_at, fun hbk2 w2 hw2 => ?_⟩
    have hlp : ({ lp with state := .ready, pending := none } : Loop) = lp := by cases lp; simp only at hst hpe; subst hst hpe; rfl
    have hset : ((V0.set l true (.loop { lp with state := .busy })).set l true (.loop { lp with state := .ready, pending := none })) = V0 := by
      funext b
      by_cases hbl : b = l
      · subst hbl; rw [vset_at, hl, hlp]
      · rw [vset_off hbl, vset_off hbl]
    rw [hset] at hw2
    have hbk3 : Bok (seg' ++ ((b6, List.toArray [.slice a' (s + 1) cap'], 82) :: (segR ++ β))) V0 := ⟨hbk2.nodup, fun b => by
      rcases hbk2.disj b with e | e
      · left
        by_cases hbl : b = l
        · subst hbl; rw [vset_at] at e; cases e
        · rw [vset_off hbl] at e; exact e
      · exact .inr e⟩
    obtain ⟨k1, k2⟩ := bok_subm (τ := (b6, List.toArray [.slice a' (s + 1) cap'], 82) :: (seg' ++ (segR ++ β))) cntL hbk3
    refine ⟨a', cap', seg' ++ (segR ++ β), ⟨seg', segR ++ β, _, rfl, hS', fun V hbV => ?_⟩, k1, k2.trans hw2⟩
    obtain ⟨j1, j2⟩ := bok_append.1 hbV
    rw [union_comm_boxes hbV]
    have h1 := hSR _ j2
    refine ⟨by rw [List.length_append, h1.1]; rfl, fun x hx => ?_⟩
    rcases List.mem_append.1 hx with hx | hx
    · exact h1.2 x hx
    · rw [List.mem_singleton] at hx
      exact ⟨lo, pa, pc, g1, g2, hx, (RowAt.own j1 (fun _ => Nat.le_refl _) g4).le (union_le _ _)⟩
end
end Go.Proofs.Ytbbaionoibkohaa
end
section
namespace Go.Proofs.Ytbbaionoibkohaa
open Go Go.Pal Go.Pal.Db Go.Conc View
open Go.Proofs.Try
set_option maxHeartbeats 4000000
section
variable {mn : Who} {v : View}
abbrev cntO (o : Ow) (m : Nat) : Nat := cntC o.n (netsOf o.ds) [] m (pairsOf o.n)
theorem cntO_lt {o : Ow} (h : o.n ≤ 4) (m : Nat) : cntO o m < 2 ^ 20 := by
  have h1 := comb_count m (pairsOf o.n)
  have h2 := pairs_len h
  have h3 : 2 ^ (pairsOf o.n).length ≤ 2 ^ 6 := Nat.pow_le_pow_right (by decide) h2
  have h4 : cntO o m ≤ (comb m (pairsOf o.n)).length := List.length_filter_le _ _
  omega
theorem fewest_x {o : Ow} (hok : o.ok v) (hex : ∃ m, m < o.n ∧ 0 < cntO o m) :
    CallsB Try.prog mn 25 #[o.val, .int .u32 0] (RetB fun r β' => ∃ m a cap, m < o.n ∧ 0 < cntO o m ∧ (∀ m', m' < m → cntO o m' = 0) ∧ r = .slice a (cntO o m) cap ∧ OwnR β' a cap m (cntO o m)) [] v := by
  have hn := hok.n
  refine callsB_fnMs tab func25 rfl (Nat.le_of_ble_eq_true rfl) (args := [.agg (List.toArray [.slice o.ap o.n o.cp, .slice o.ad o.ds.length o.cd]), .int .u32 0]) ?_
  repeat' (first | refine cs ?_ | refine ss ?_ | (((with_reducible apply Q_box); (focus (exact rfl)); (focus (exact rfl)); (focus (exact rfl))); intro bx) | (((with_reducible apply Q_alloc tab); (focus (exact rfl)); (focus (exact rfl)); (focus (exact rfl))); intro bx) | refine S_do (by kernel_rfl) (A_storeN tab rfl rfl rfl rfl rfl rfl rfl (by ((repeat (first | exact InB.head | apply InB.tail | (with_reducible apply InB.app))); done)) (by exact rfl) (by ((repeat (first | exact SetB.head | apply SetB.tail | (with_reducible apply SetB.app))); done)) ⟨Le.refl _, (by (repeat (first | exact trivial | (apply And.intro; (focus (first | (apply Or.inr; (try dsimp only); ((repeat (first | exact InB.head | apply InB.tail | (with_reducible apply InB.app))); done)) | (apply Or.inl; kernel_rfl))))))), ?_⟩))
  obtain ⟨b2, rfl⟩ : ∃ b : Nat, b = bx := ⟨bx, rfl⟩
  refine C_loop (α := Nat × List Nat) (fun z => ⟨z.2.map coll, [(12, .int .i64 z.1), (11, .int .i64 o.n), (1, .int .u32 0), (2, .pointer (some ⟨b2, 0, none⟩))], [(b2, List.toArray [.slice o.ap o.n o.cp, .slice o.ad o.ds.length o.cd], 73)]⟩)
    (fun z u => v.Le u ∧ z.2.Nodup ∧ (∀ r ∈ z.2, u r = some (true, .deferred (some [])) ∧ v r = none) ∧ z.1 ≤ o.n ∧ ∀ m', m' < z.1 → cntO o m' = 0) (fun z => o.n - z.1) (0, []) ⟨rfl, (by (repeat (first | exact trivial | refine ⟨rfl, ?_⟩))), cntL⟩ (Le.refl _) ⟨Le.refl _, .nil, by simp, Nat.zero_le _, by simp⟩ ?_
  rintro ⟨m, rs⟩ u ⟨hvu, hnd, hmk, hm, hz⟩
  simp only at hnd hmk hm hz
  dsimp only
  repeat' (first | refine cs ?_ | refine ss ?_ | (((with_reducible apply Q_box); (focus (exact rfl)); (focus (exact rfl)); (focus (exact rfl))); intro bx) | (((with_reducible apply Q_alloc tab); (focus (exact rfl)); (focus (exact rfl)); (focus (exact rfl))); intro bx) | refine S_do (by kernel_rfl) (A_storeN tab rfl rfl rfl rfl rfl rfl rfl (by ((repeat (first | exact InB.head | apply InB.tail | (with_reducible apply InB.app))); done)) (by exact rfl) (by ((repeat (first | exact SetB.head | apply SetB.tail | (with_reducible apply SetB.app))); done)) ⟨Le.refl _, (by (repeat (first | exact trivial | (apply And.intro; (focus (first | (apply Or.inr; (try dsimp only); ((repeat (first | exact InB.head | apply InB.tail | (with_reducible apply InB.app))); done)) | (apply Or.inl; kernel_rfl))))))), ?_⟩))
  refine XC_cond rfl (fun h => ?_) (fun h => ?_)
  · (simp only [decide_eq_true_eq, decide_eq_false_iff_not, beq_iff_eq, bne_iff_ne, Bool.not_eq_true', beq_eq_false_iff_ne, bne_eq_false_iff_eq, ne_eq] at h)
    have hmn : m < o.n := by omega
    clear h
    repeat' (first | refine cs ?_ | refine ss ?_ | (((with_reducible apply Q_box); (focus (exact rfl)); (focus (exact rfl)); (focus (exact rfl))); intro bx) | (((with_reducible apply Q_alloc tab); (focus (exact rfl)); (focus (exact rfl)); (focus (exact rfl))); intro bx) | refine S_do (by kernel_rfl) (A_storeN tab rfl rfl rfl rfl rfl rfl rfl (by ((repeat (first | exact InB.head | apply InB.tail | (with_reducible apply InB.app))); done)) (by exact rfl) (by ((repeat (first | exact SetB.head | apply SetB.tail | (with_reducible apply SetB.app))); done)) ⟨Le.refl _, (by (repeat (first | exact trivial | (apply And.intro; (focus (first | (apply Or.inr; (try dsimp only); ((repeat (first | exact InB.head | apply InB.tail | (with_reducible apply InB.app))); done)) | (apply Or.inl; kernel_rfl))))))), ?_⟩))
    obtain ⟨b6, rfl⟩ : ∃ b : Nat, b = bx := ⟨bx, rfl⟩
    refine Q_op fun ho => A_callR ([]) (_) ho bod36 rfl rfl rfl rfl rfl split0 (settle_x (o := o) (many := m)) (fun x β' hR => ?_)
    clear ho
    obtain ⟨b3, b4, b5, rfl, rfl⟩ := hR
    repeat' (first | refine cs ?_ | refine ss ?_ | (((with_reducible apply Q_box); (focus (exact rfl)); (focus (exact rfl)); (focus (exact rfl))); intro bx) | (((with_reducible apply Q_alloc tab); (focus (exact rfl)); (focus (exact rfl)); (focus (exact rfl))); intro bx) | refine S_do (by kernel_rfl) (A_storeN tab rfl rfl rfl rfl rfl rfl rfl (by ((repeat (first | exact InB.head | apply InB.tail | (with_reducible apply InB.app))); done)) (by exact rfl) (by ((repeat (first | exact SetB.head | apply SetB.tail | (with_reducible apply SetB.app))); done)) ⟨Le.refl _, (by (repeat (first | exact trivial | (apply And.intro; (focus (first | (apply Or.inr; (try dsimp only); ((repeat (first | exact InB.head | apply InB.tail | (with_reducible apply InB.app))); done)) | (apply Or.inl; kernel_rfl))))))), ?_⟩))
    refine XC_rangeFunc rfl bod42 (fun act r l fnId hfit hbok hr0 hl0 hrl hbr hbl => ?_)
    obtain ⟨lp, hlp⟩ : ∃ lp : Loop, lp = { state := .ready, pending := none, fn := fnId, tmps := act.tmps, params := #[19], assign := fwA, body := fwB, defers := r } := ⟨_, rfl⟩
    obtain ⟨V1, hV1⟩ : ∃ V1, V1 = (u.set r true (.deferred (some []))).set l true (.loop lp) := ⟨_, rfl⟩
    obtain ⟨βs, hβs⟩ : ∃ βs : Boxes, βs = [(b3, List.toArray [.slice o.ap o.n o.cp, .slice o.ad o.ds.length o.cd], 73), (b4, List.toArray [natV m], 3), (b5, List.toArray [.int .u32 0], 85), (b2, List.toArray [.slice o.ap o.n o.cp, .slice o.ad o.ds.length o.cd], 73)] := ⟨_, rfl⟩
    have huV1 : u.Le V1 := by
      intro b x hx
      rw [hV1, vset_off (fun e => by rw [e, hl0] at hx; cases hx), vset_off (fun e => by rw [e, hr0] at hx; cases hx)]
      exact hx
    have hbk1 : Bok ([(b3, List.toArray [.slice o.ap o.n o.cp, .slice o.ad o.ds.length o.cd], 73), (b4, List.toArray [natV m], 3), (b5, List.toArray [.int .u32 0], 85)] ++ [(b6, List.toArray [.slice none 0 0], 82), (b2, List.toArray [.slice o.ap o.n o.cp, .slice o.ad o.ds.length o.cd], 73)]) V1 := by
      rw [hV1]
      exact (bok_set (bok_set hbok hbr).1 hbl).1
    obtain ⟨hbk2, hle2⟩ := bok_subm (τ := [(b6, List.toArray [.slice none 0 0], 82)] ++ βs) (by rw [hβs]; exact cntL) hbk1
    obtain ⟨hbs, hb6⟩ := bok_append.1 hbk2
    rw [union_comm_boxes hbk2] at hle2
    obtain ⟨V0, hV0⟩ : ∃ V0, V0 = V1.union (bview βs) := ⟨_, rfl⟩
    rw [← hV0] at hle2 hb6
    have hV10 : V1.Le V0 := by rw [hV0]; exact union_le _ _
    have hI0 : IFew V0 b6 m 0 (V1.union (bview ([(b3, List.toArray [.slice o.ap o.n o.cp, .slice o.ad o.ds.length o.cd], 73), (b4, List.toArray [natV m], 3), (b5, List.toArray [.int .u32 0], 85)] ++ [(b6, List.toArray [.slice none 0 0], 82), (b2, List.toArray [.slice o.ap o.n o.cp, .slice o.ad o.ds.length o.cd], 73)]))) :=
      ⟨none, 0, [], ⟨[], [], [], rfl, .nil, fun V _ => ⟨rfl, by simp⟩⟩, hb6, hle2⟩
    have hV1l : V1 l = some (true, .loop lp) := by rw [hV1]; exact vset_at
    have hcall : CallsX Try.prog mn 42 #[.func (.yield l) #[] #[], .pointer (some ⟨b3, 0, none⟩), .pointer (some ⟨b4, 0, none⟩), .pointer (some ⟨b5, 0, none⟩)] (fun e u' => e = .ret (.tuple #[]) ∧ IFew V0 b6 m (0 + cntO o m) u') (V1.union (bview ([(b3, List.toArray [.slice o.ap o.n o.cp, .slice o.ad o.ds.length o.cd], 73), (b4, List.toArray [natV m], 3), (b5, List.toArray [.int .u32 0], 85)] ++ [(b6, List.toArray [.slice none 0 0], 82), (b2, List.toArray [.slice o.ap o.n o.cp, .slice o.ad o.ds.length o.cd], 73)]))) := by
      refine set1_x (V0 := V0) (T := cntO o m) (by omega) (hok.le (hvu.trans (huV1.trans hV10))) ⟨true, (0, 0), by rw [hV0]; exact union_box hbs (by rw [hβs]; exact .head)⟩ ⟨true, (0, 0), by rw [hV0]; exact union_box hbs (by rw [hβs]; exact .tail .head)⟩ ⟨true, (0, 0), by rw [hV0]; exact union_box hbs (by rw [hβs]; exact .tail (.tail .head))⟩
        (fun s w hI => ?_) (fun s w w' hI hl => hI.le hl) (fun s w β p hs hI hbk hO => ?_) (by rw [Nat.zero_add]; exact Nat.le_refl _) hI0
      · obtain ⟨a, cap, seg, k1, k2, k3⟩ := hI
        exact (union_le _ _).trans k3
      · refine round_x (lp := lp) (hV10 _ _ hV1l) ?_ ?_ ?_ ?_ ?_ ?_ ?_ (by have := cntO_lt hn.2 m; omega) hI hbk hO
        all_goals rw [hlp]
        all_goals first | rfl | exact hfit.size | exact hfit.get 6 _ rfl
    have hcall2 : CallsX Try.prog mn 42 #[.func (.yield l) #[] #[], .pointer (some ⟨b3, 0, none⟩), .pointer (some ⟨b4, 0, none⟩), .pointer (some ⟨b5, 0, none⟩)] (fun e u' => e = .ret (.tuple #[]) ∧ IFew V0 b6 m (0 + cntO o m) u') (((u.set r true (.deferred (some []))).set l true (.loop { state := .ready, pending := none, fn := fnId, tmps := act.tmps, params := #[19], assign := fwA, body := fwB, defers := r })).union (bview ([(b3, List.toArray [.slice o.ap o.n o.cp, .slice o.ad o.ds.length o.cd], 73), (b4, List.toArray [natV m], 3), (b5, List.toArray [.int .u32 0], 85)] ++ [(b6, List.toArray [.slice none 0 0], 82), (b2, List.toArray [.slice o.ap o.n o.cp, .slice o.ad o.ds.length o.cd], 73)]))) := by
      rw [← hlp, ← hV1]; exact hcall
    refine CallsX.mono hcall2 fun e u2 hR => ⟨u2, Le.refl _, ?_⟩
    clear hcall hcall2 hI0
    obtain ⟨rfl, a, cap, seg, hO, hb7, hle7⟩ := hR
    rw [Nat.zero_add] at hO hb7 hle7
    have hb8 : Bok (((b6, List.toArray [.slice a (cntO o m) cap], 82) :: seg) ++ βs) V1 := bok_append.2 ⟨hbs, by rw [← hV0]; exact hb7⟩
    have hle8 : (V1.union (bview (((b6, List.toArray [.slice a (cntO o m) cap], 82) :: seg) ++ βs))).Le u2 := by
      rw [union_comm_boxes hb8, ← hV0]; exact hle7
    obtain ⟨hb9, hle9⟩ := bok_subm (τ := (b6, List.toArray [.slice a (cntO o m) cap], 82) :: (seg ++ [(b2, List.toArray [.slice o.ap o.n o.cp, .slice o.ad o.ds.length o.cd], 73)])) (by rw [hβs]; exact cntL) hb8
    have hlf := box_none hb9 hV1l
    obtain ⟨q1, q2⟩ := bok_set (p := true) (o := .loop { lp with state := .exhausted }) hb9 hlf
    refine ⟨.tuple #[], lp, rfl, hle8 _ _ (union_some hV1l), by rw [hlp]; exact nofun, by rw [hlp], ⟨coll r :: rs.map coll, [(6, .pointer (some ⟨b6, 0, none⟩)), (12, .int .i64 m), (11, .int .i64 o.n), (1, .int .u32 0), (2, .pointer (some ⟨b2, 0, none⟩))], (b6, List.toArray [.slice a (cntO o m) cap], 82) :: (seg ++ [(b2, List.toArray [.slice o.ap o.n o.cp, .slice o.ad o.ds.length o.cd], 73)])⟩, V1.set l true (.loop { lp with state := .exhausted }), ?_, rfl, ⟨rfl, rfl, rfl, rfl, rfl, trivial⟩, q1, ?_⟩
    · have hvV2 : v.Le (V1.set l true (.loop { lp with state := .exhausted })) := by
        intro b x hx
        rw [vset_off (fun e => by rw [e] at hx; have := hvu _ _ hx; rw [hl0] at this; cases this)]
        exact huV1 _ _ (hvu _ _ hx)
      have hnone : ∀ b, u b = none → v b = none := fun b hb => by
        cases hvb : v b with
        | none => rfl
        | some x => rw [hvu _ _ hvb] at hb; cases hb
      have hmk2 : ∀ r' ∈ r :: rs, (V1.set l true (.loop { lp with state := .exhausted })) r' = some (true, .deferred (some [])) ∧ v r' = none := by
        intro r' hr'
        rcases List.mem_cons.1 hr' with rfl | hr'
        · refine ⟨?_, hnone _ hr0⟩
          rw [vset_off hrl, hV1, vset_off hrl, vset_at]
        · obtain ⟨j1, j2⟩ := hmk r' hr'
          refine ⟨?_, j2⟩
          rw [vset_off (fun e => by rw [e, hl0] at j1; cases j1)]
          exact huV1 _ _ j1
      have hnd2 : (r :: rs).Nodup := List.nodup_cons.2 ⟨(fun hr' => by have := (hmk r hr').1; rw [hr0] at this; cases this), hnd⟩
      generalize V1.set l true (.loop { lp with state := .exhausted }) = V2 at *
      repeat' (first | refine cs ?_ | refine ss ?_ | (((with_reducible apply Q_box); (focus (exact rfl)); (focus (exact rfl)); (focus (exact rfl))); intro bx) | (((with_reducible apply Q_alloc tab); (focus (exact rfl)); (focus (exact rfl)); (focus (exact rfl))); intro bx) | refine S_do (by kernel_rfl) (A_storeN tab rfl rfl rfl rfl rfl rfl rfl (by ((repeat (first | exact InB.head | apply InB.tail | (with_reducible apply InB.app))); done)) (by exact rfl) (by ((repeat (first | exact SetB.head | apply SetB.tail | (with_reducible apply SetB.app))); done)) ⟨Le.refl _, (by (repeat (first | exact trivial | (apply And.intro; (focus (first | (apply Or.inr; (try dsimp only); ((repeat (first | exact InB.head | apply InB.tail | (with_reducible apply InB.app))); done)) | (apply Or.inl; kernel_rfl))))))), ?_⟩))
      refine XC_cond rfl (fun h => ?_) (fun h => ?_)
      · (simp only [decide_eq_true_eq, decide_eq_false_iff_not, beq_iff_eq, bne_iff_ne, Bool.not_eq_true', beq_eq_false_iff_ne, bne_eq_false_iff_eq, ne_eq] at h)
        repeat' (first | refine cs ?_ | refine ss ?_ | (((with_reducible apply Q_box); (focus (exact rfl)); (focus (exact rfl)); (focus (exact rfl))); intro bx) | (((with_reducible apply Q_alloc tab); (focus (exact rfl)); (focus (exact rfl)); (focus (exact rfl))); intro bx) | refine S_do (by kernel_rfl) (A_storeN tab rfl rfl rfl rfl rfl rfl rfl (by ((repeat (first | exact InB.head | apply InB.tail | (with_reducible apply InB.app))); done)) (by exact rfl) (by ((repeat (first | exact SetB.head | apply SetB.tail | (with_reducible apply SetB.app))); done)) ⟨Le.refl _, (by (repeat (first | exact trivial | (apply And.intro; (focus (first | (apply Or.inr; (try dsimp only); ((repeat (first | exact InB.head | apply InB.tail | (with_reducible apply InB.app))); done)) | (apply Or.inl; kernel_rfl))))))), ?_⟩))
        obtain ⟨hbs2, _⟩ := bok_subm (τ := seg) cntL q1
        refine ⟨r :: rs, rfl, hnd2, hmk2, [.slice a (cntO o m) cap], seg, (by exact .tmp rfl .nil), ⟨m, a, cap, hmn, by omega, hz, rfl, hO⟩, Back.le hvV2 cntL, fun r' hr' => (hbs2.disj r').resolve_left (by rw [(hmk2 r' hr').1]; simp)⟩
      · (simp only [decide_eq_true_eq, decide_eq_false_iff_not, beq_iff_eq, bne_iff_ne, Bool.not_eq_true', beq_eq_false_iff_ne, bne_eq_false_iff_eq, ne_eq] at h)
        repeat' (first | refine cs ?_ | refine ss ?_ | (((with_reducible apply Q_box); (focus (exact rfl)); (focus (exact rfl)); (focus (exact rfl))); intro bx) | (((with_reducible apply Q_alloc tab); (focus (exact rfl)); (focus (exact rfl)); (focus (exact rfl))); intro bx) | refine S_do (by kernel_rfl) (A_storeN tab rfl rfl rfl rfl rfl rfl rfl (by ((repeat (first | exact InB.head | apply InB.tail | (with_reducible apply InB.app))); done)) (by exact rfl) (by ((repeat (first | exact SetB.head | apply SetB.tail | (with_reducible apply SetB.app))); done)) ⟨Le.refl _, (by (repeat (first | exact trivial | (apply And.intro; (focus (first | (apply Or.inr; (try dsimp only); ((repeat (first | exact InB.head | apply InB.tail | (with_reducible apply InB.app))); done)) | (apply Or.inl; kernel_rfl))))))), ?_⟩))
        exact Loop_normal ⟨(m + 1, r :: rs), V2, by simp only; omega, ⟨rfl, (by (repeat (first | exact trivial | refine ⟨rfl, ?_⟩))), cntL⟩, Le.refl _, hvV2, hnd2, hmk2, hmn, fun m' hm' => by
          rcases Nat.lt_or_ge m' m with h1 | h1
          · exact hz m' h1
          · have : m' = m := by simp only at hm'; omega
            rw [this]; omega⟩
    · rw [← q2]
      intro b x hx
      by_cases hbl : b = l
      · rw [hbl, vset_at] at hx ⊢; exact hx
      · rw [vset_off hbl] at hx ⊢
        exact hle8 _ _ (hle9 _ _ hx)
  · exfalso
    (simp only [decide_eq_true_eq, decide_eq_false_iff_not, beq_iff_eq, bne_iff_ne, Bool.not_eq_true', beq_eq_false_iff_ne, bne_eq_false_iff_eq, ne_eq] at h)
    obtain ⟨m0, h1, h2⟩ := hex
    have := hz m0 (by omega)
    omega
end
end Go.Proofs.Ytbbaionoibkohaa
end
section
namespace Go.Proofs.Ytbbaionoibkohaa
open Go Go.Pal Go.Pal.Db Go.Conc View
open Go.Proofs.Try
set_option maxHeartbeats 4000000
theorem dts_get {v : View} {a : Option Addr} {l : List Dt} (h : RowAt v a (dtC l)) {i : Nat} (hi : i < l.length) :
    ∃ b off p c e f, a = some ⟨b, off, none⟩ ∧ v b = some (p, .cells c e f) ∧ ∀ j (hj : j < l.length), off + j * 3 + 3 ≤ c.size ∧ c.extract (off + j * 3) (off + j * 3 + 3) = l[j].cells.toArray := by
  obtain ⟨b, off, p, c, e, f, h1, h2, h3⟩ := RowAt.recs (k := 3) h (by intro y hy; obtain ⟨z, _, rfl⟩ := List.mem_map.1 hy; rfl) (by omega) (i := i) (by simpa using hi)
  refine ⟨b, off, p, c, e, f, h1, h2, fun j hj => ?_⟩
  have := h3 j (by simpa using hj)
  simpa using this
def PayAt (V : View) (x : Value) (m : Nat) : Prop := ∃ l a c, l.length = m ∧ (∀ d ∈ l, Dt.fit d) ∧ x = .slice a m c ∧ RowAt V a (dtC l)
theorem PayAt.le {U V : View} {x : Value} {m : Nat} (h : PayAt U x m) (hl : U.Le V) : PayAt V x m := by
  obtain ⟨l, a, c, h1, h2, h3, h4⟩ := h
  exact ⟨l, a, c, h1, h2, h3, h4.le hl⟩
section
variable {mn : Who} {v : View}
theorem cmpF_x {x y : Value} {m : Nat} (hx : PayAt v x m) (hy : PayAt v y m) (hm : m < 2 ^ 20) : CallsB Try.prog mn 37 #[x, y, cmV] (RetB fun r β' => ∃ z, r = intV z ∧ β' = []) [] v := by
  obtain ⟨l, a, c, rfl, hf, rfl, hrow⟩ := hx
  obtain ⟨l', a', c', hl', hf', rfl, hrow'⟩ := hy
  refine callsB_fn tab func37 rfl (Nat.le_of_ble_eq_true rfl) (args := [_, _, _]) ?_
  repeat' (first | refine cs ?_ | refine ss ?_ | (((with_reducible apply Q_box); (focus (exact rfl)); (focus (exact rfl)); (focus (exact rfl))); intro bx) | (((with_reducible apply Q_alloc tab); (focus (exact rfl)); (focus (exact rfl)); (focus (exact rfl))); intro bx) | refine S_do (by kernel_rfl) (A_storeN tab rfl rfl rfl rfl rfl rfl rfl (by ((repeat (first | exact InB.head | apply InB.tail | (with_reducible apply InB.app))); done)) (by exact rfl) (by ((repeat (first | exact SetB.head | apply SetB.tail | (with_reducible apply SetB.app))); done)) ⟨Le.refl _, (by (repeat (first | exact trivial | (apply And.intro; (focus (first | (apply Or.inr; (try dsimp only); ((repeat (first | exact InB.head | apply InB.tail | (with_reducible apply InB.app))); done)) | (apply Or.inl; kernel_rfl))))))), ?_⟩))
  refine C_loop (α := Nat) (fun i => ⟨[], [(13, .int .i64 i), (12, .int .i64 l.length), (11, .slice a l.length c), (0, .slice a l.length c), (1, .slice a' l.length c'), (2, cmV)], []⟩)
    (fun i w => w = v ∧ i ≤ l.length) (fun i => l.length - i) 0 ⟨rfl, (by (repeat (first | exact trivial | refine ⟨rfl, ?_⟩))), cntL⟩ (Le.refl _) ⟨rfl, Nat.zero_le _⟩ ?_
  rintro i w ⟨rfl, hi⟩
  repeat' (first | refine cs ?_ | refine ss ?_ | (((with_reducible apply Q_box); (focus (exact rfl)); (focus (exact rfl)); (focus (exact rfl))); intro bx) | (((with_reducible apply Q_alloc tab); (focus (exact rfl)); (focus (exact rfl)); (focus (exact rfl))); intro bx) | refine S_do (by kernel_rfl) (A_storeN tab rfl rfl rfl rfl rfl rfl rfl (by ((repeat (first | exact InB.head | apply InB.tail | (with_reducible apply InB.app))); done)) (by exact rfl) (by ((repeat (first | exact SetB.head | apply SetB.tail | (with_reducible apply SetB.app))); done)) ⟨Le.refl _, (by (repeat (first | exact trivial | (apply And.intro; (focus (first | (apply Or.inr; (try dsimp only); ((repeat (first | exact InB.head | apply InB.tail | (with_reducible apply InB.app))); done)) | (apply Or.inl; kernel_rfl))))))), ?_⟩))
  refine XC_cond rfl (fun h => ?_) (fun h => ?_)
  · (simp only [decide_eq_true_eq, decide_eq_false_iff_not, beq_iff_eq, bne_iff_ne, Bool.not_eq_true', beq_eq_false_iff_ne, bne_eq_false_iff_eq, ne_eq] at h)
    have hlt : i < l.length := by omega
    clear h
    obtain ⟨b1, off1, p1, c1, e1, f1, rfl, hv1, hc1⟩ := dts_get hrow hlt
    obtain ⟨b2, off2, p2, c2, e2, f2, rfl, hv2, hc2⟩ := dts_get hrow' (i := i) (by omega)
    repeat' (first | refine cs ?_ | refine ss ?_ | (((with_reducible apply Q_box); (focus (exact rfl)); (focus (exact rfl)); (focus (exact rfl))); intro bx) | (((with_reducible apply Q_alloc tab); (focus (exact rfl)); (focus (exact rfl)); (focus (exact rfl))); intro bx) | refine S_do (by kernel_rfl) (A_storeN tab rfl rfl rfl rfl rfl rfl rfl (by ((repeat (first | exact InB.head | apply InB.tail | (with_reducible apply InB.app))); done)) (by exact rfl) (by ((repeat (first | exact SetB.head | apply SetB.tail | (with_reducible apply SetB.app))); done)) ⟨Le.refl _, (by (repeat (first | exact trivial | (apply And.intro; (focus (first | (apply Or.inr; (try dsimp only); ((repeat (first | exact InB.head | apply InB.tail | (with_reducible apply InB.app))); done)) | (apply Or.inl; kernel_rfl))))))), ?_⟩))
    refine Q_elem tab i rfl rfl rfl rfl rfl rfl rfl hlt ?_
    refine Q_load tab rfl rfl rfl hv1 (readB_rec tab (x := l[i].cells) rfl rfl rfl (hc1 _ hlt)) ?_
    repeat' (first | refine cs ?_ | refine ss ?_ | (((with_reducible apply Q_box); (focus (exact rfl)); (focus (exact rfl)); (focus (exact rfl))); intro bx) | (((with_reducible apply Q_alloc tab); (focus (exact rfl)); (focus (exact rfl)); (focus (exact rfl))); intro bx) | refine S_do (by kernel_rfl) (A_storeN tab rfl rfl rfl rfl rfl rfl rfl (by ((repeat (first | exact InB.head | apply InB.tail | (with_reducible apply InB.app))); done)) (by exact rfl) (by ((repeat (first | exact SetB.head | apply SetB.tail | (with_reducible apply SetB.app))); done)) ⟨Le.refl _, (by (repeat (first | exact trivial | (apply And.intro; (focus (first | (apply Or.inr; (try dsimp only); ((repeat (first | exact InB.head | apply InB.tail | (with_reducible apply InB.app))); done)) | (apply Or.inl; kernel_rfl))))))), ?_⟩))
    rw [show decide ((i : Int) ≥ (l.length : Int)) = false from decide_eq_false (by omega)]
    repeat' (first | refine cs ?_ | refine ss ?_ | (((with_reducible apply Q_box); (focus (exact rfl)); (focus (exact rfl)); (focus (exact rfl))); intro bx) | (((with_reducible apply Q_alloc tab); (focus (exact rfl)); (focus (exact rfl)); (focus (exact rfl))); intro bx) | refine S_do (by kernel_rfl) (A_storeN tab rfl rfl rfl rfl rfl rfl rfl (by ((repeat (first | exact InB.head | apply InB.tail | (with_reducible apply InB.app))); done)) (by exact rfl) (by ((repeat (first | exact SetB.head | apply SetB.tail | (with_reducible apply SetB.app))); done)) ⟨Le.refl _, (by (repeat (first | exact trivial | (apply And.intro; (focus (first | (apply Or.inr; (try dsimp only); ((repeat (first | exact InB.head | apply InB.tail | (with_reducible apply InB.app))); done)) | (apply Or.inl; kernel_rfl))))))), ?_⟩))
    refine Q_elem tab i rfl rfl rfl rfl rfl rfl rfl hlt ?_
    refine Q_load tab rfl rfl rfl hv2 (readB_rec tab (x := l'[i].cells) rfl rfl rfl (hc2 _ (by omega))) ?_
    repeat' (first | refine cs ?_ | refine ss ?_ | (((with_reducible apply Q_box); (focus (exact rfl)); (focus (exact rfl)); (focus (exact rfl))); intro bx) | (((with_reducible apply Q_alloc tab); (focus (exact rfl)); (focus (exact rfl)); (focus (exact rfl))); intro bx) | refine S_do (by kernel_rfl) (A_storeN tab rfl rfl rfl rfl rfl rfl rfl (by ((repeat (first | exact InB.head | apply InB.tail | (with_reducible apply InB.app))); done)) (by exact rfl) (by ((repeat (first | exact SetB.head | apply SetB.tail | (with_reducible apply SetB.app))); done)) ⟨Le.refl _, (by (repeat (first | exact trivial | (apply And.intro; (focus (first | (apply Or.inr; (try dsimp only); ((repeat (first | exact InB.head | apply InB.tail | (with_reducible apply InB.app))); done)) | (apply Or.inl; kernel_rfl))))))), ?_⟩))
    refine Q_op fun ho => A_ret1 ho bod38 rfl rfl rfl rfl rfl (before_x (hf _ (List.getElem_mem hlt)) (hf' _ (List.getElem_mem (by omega)))) ?_
    clear ho
    repeat' (first | refine cs ?_ | refine ss ?_ | (((with_reducible apply Q_box); (focus (exact rfl)); (focus (exact rfl)); (focus (exact rfl))); intro bx) | (((with_reducible apply Q_alloc tab); (focus (exact rfl)); (focus (exact rfl)); (focus (exact rfl))); intro bx) | refine S_do (by kernel_rfl) (A_storeN tab rfl rfl rfl rfl rfl rfl rfl (by ((repeat (first | exact InB.head | apply InB.tail | (with_reducible apply InB.app))); done)) (by exact rfl) (by ((repeat (first | exact SetB.head | apply SetB.tail | (with_reducible apply SetB.app))); done)) ⟨Le.refl _, (by (repeat (first | exact trivial | (apply And.intro; (focus (first | (apply Or.inr; (try dsimp only); ((repeat (first | exact InB.head | apply InB.tail | (with_reducible apply InB.app))); done)) | (apply Or.inl; kernel_rfl))))))), ?_⟩))
    refine XC_cond rfl (fun h => ?_) (fun h => ?_)
    · repeat' (first | refine cs ?_ | refine ss ?_ | (((with_reducible apply Q_box); (focus (exact rfl)); (focus (exact rfl)); (focus (exact rfl))); intro bx) | (((with_reducible apply Q_alloc tab); (focus (exact rfl)); (focus (exact rfl)); (focus (exact rfl))); intro bx) | refine S_do (by kernel_rfl) (A_storeN tab rfl rfl rfl rfl rfl rfl rfl (by ((repeat (first | exact InB.head | apply InB.tail | (with_reducible apply InB.app))); done)) (by exact rfl) (by ((repeat (first | exact SetB.head | apply SetB.tail | (with_reducible apply SetB.app))); done)) ⟨Le.refl _, (by (repeat (first | exact trivial | (apply And.intro; (focus (first | (apply Or.inr; (try dsimp only); ((repeat (first | exact InB.head | apply InB.tail | (with_reducible apply InB.app))); done)) | (apply Or.inl; kernel_rfl))))))), ?_⟩))
      refine Fn_ret tab [] (by exact .tmp rfl .nil) (Back.here cntL) ?_
      exact ⟨_, rfl, rfl⟩
    · repeat' (first | refine cs ?_ | refine ss ?_ | (((with_reducible apply Q_box); (focus (exact rfl)); (focus (exact rfl)); (focus (exact rfl))); intro bx) | (((with_reducible apply Q_alloc tab); (focus (exact rfl)); (focus (exact rfl)); (focus (exact rfl))); intro bx) | refine S_do (by kernel_rfl) (A_storeN tab rfl rfl rfl rfl rfl rfl rfl (by ((repeat (first | exact InB.head | apply InB.tail | (with_reducible apply InB.app))); done)) (by exact rfl) (by ((repeat (first | exact SetB.head | apply SetB.tail | (with_reducible apply SetB.app))); done)) ⟨Le.refl _, (by (repeat (first | exact trivial | (apply And.intro; (focus (first | (apply Or.inr; (try dsimp only); ((repeat (first | exact InB.head | apply InB.tail | (with_reducible apply InB.app))); done)) | (apply Or.inl; kernel_rfl))))))), ?_⟩))
      exact Loop_normal ⟨i + 1, w, by omega, ⟨rfl, (by (repeat (first | exact trivial | refine ⟨rfl, ?_⟩))), cntL⟩, Le.refl _, rfl, hlt⟩
  · (simp only [decide_eq_true_eq, decide_eq_false_iff_not, beq_iff_eq, bne_iff_ne, Bool.not_eq_true', beq_eq_false_iff_ne, bne_eq_false_iff_eq, ne_eq] at h)
    repeat' (first | refine cs ?_ | refine ss ?_ | (((with_reducible apply Q_box); (focus (exact rfl)); (focus (exact rfl)); (focus (exact rfl))); intro bx) | (((with_reducible apply Q_alloc tab); (focus (exact rfl)); (focus (exact rfl)); (focus (exact rfl))); intro bx) | refine S_do (by kernel_rfl) (A_storeN tab rfl rfl rfl rfl rfl rfl rfl (by ((repeat (first | exact InB.head | apply InB.tail | (with_reducible apply InB.app))); done)) (by exact rfl) (by ((repeat (first | exact SetB.head | apply SetB.tail | (with_reducible apply SetB.app))); done)) ⟨Le.refl _, (by (repeat (first | exact trivial | (apply And.intro; (focus (first | (apply Or.inr; (try dsimp only); ((repeat (first | exact InB.head | apply InB.tail | (with_reducible apply InB.app))); done)) | (apply Or.inl; kernel_rfl))))))), ?_⟩))
    rw [show decide ((l.length : Int) < (l.length : Int)) = false from decide_eq_false (by omega)]
    repeat' (first | refine cs ?_ | refine ss ?_ | (((with_reducible apply Q_box); (focus (exact rfl)); (focus (exact rfl)); (focus (exact rfl))); intro bx) | (((with_reducible apply Q_alloc tab); (focus (exact rfl)); (focus (exact rfl)); (focus (exact rfl))); intro bx) | refine S_do (by kernel_rfl) (A_storeN tab rfl rfl rfl rfl rfl rfl rfl (by ((repeat (first | exact InB.head | apply InB.tail | (with_reducible apply InB.app))); done)) (by exact rfl) (by ((repeat (first | exact SetB.head | apply SetB.tail | (with_reducible apply SetB.app))); done)) ⟨Le.refl _, (by (repeat (first | exact trivial | (apply And.intro; (focus (first | (apply Or.inr; (try dsimp only); ((repeat (first | exact InB.head | apply InB.tail | (with_reducible apply InB.app))); done)) | (apply Or.inl; kernel_rfl))))))), ?_⟩))
    refine Fn_ret tab [] (by exact .tmp rfl .nil) (Back.here cntL) ?_
    exact ⟨_, rfl, rfl⟩
theorem comp_x {x y : Value} {m : Nat} (hx : PayAt v x m) (hy : PayAt v y m) (hm : m < 2 ^ 20) : CallsB Try.prog mn 28 #[x, y] (RetB fun r β' => ∃ z, r = intV z ∧ β' = []) [] v := by
  refine callsB_fn tab func28 rfl (Nat.le_of_ble_eq_true rfl) (args := [_, _]) ?_
  repeat' (first | refine cs ?_ | refine ss ?_ | (((with_reducible apply Q_box); (focus (exact rfl)); (focus (exact rfl)); (focus (exact rfl))); intro bx) | (((with_reducible apply Q_alloc tab); (focus (exact rfl)); (focus (exact rfl)); (focus (exact rfl))); intro bx) | refine S_do (by kernel_rfl) (A_storeN tab rfl rfl rfl rfl rfl rfl rfl (by ((repeat (first | exact InB.head | apply InB.tail | (with_reducible apply InB.app))); done)) (by exact rfl) (by ((repeat (first | exact SetB.head | apply SetB.tail | (with_reducible apply SetB.app))); done)) ⟨Le.refl _, (by (repeat (first | exact trivial | (apply And.intro; (focus (first | (apply Or.inr; (try dsimp only); ((repeat (first | exact InB.head | apply InB.tail | (with_reducible apply InB.app))); done)) | (apply Or.inl; kernel_rfl))))))), ?_⟩))
  refine Q_op fun ho => A_callR ([]) (_) ho bod37 rfl rfl rfl rfl rfl split0 (cmpF_x (hx.le (union_le _ _)) (hy.le (union_le _ _)) hm) (fun x β' hR => ?_)
  clear ho
  obtain ⟨z, rfl, rfl⟩ := hR
  repeat' (first | refine cs ?_ | refine ss ?_ | (((with_reducible apply Q_box); (focus (exact rfl)); (focus (exact rfl)); (focus (exact rfl))); intro bx) | (((with_reducible apply Q_alloc tab); (focus (exact rfl)); (focus (exact rfl)); (focus (exact rfl))); intro bx) | refine S_do (by kernel_rfl) (A_storeN tab rfl rfl rfl rfl rfl rfl rfl (by ((repeat (first | exact InB.head | apply InB.tail | (with_reducible apply InB.app))); done)) (by exact rfl) (by ((repeat (first | exact SetB.head | apply SetB.tail | (with_reducible apply SetB.app))); done)) ⟨Le.refl _, (by (repeat (first | exact trivial | (apply And.intro; (focus (first | (apply Or.inr; (try dsimp only); ((repeat (first | exact InB.head | apply InB.tail | (with_reducible apply InB.app))); done)) | (apply Or.inl; kernel_rfl))))))), ?_⟩))
  refine Fn_ret tab [] (by exact .tmp rfl .nil) (Back.here cntL) ?_
  exact ⟨_, rfl, rfl⟩
theorem less_x {x y : Value} {m : Nat} (hx : PayAt v x m) (hy : PayAt v y m) (hm : m < 2 ^ 20) : CallsB Try.prog mn 27 #[x, y] (RetB fun r β' => ∃ q, r = .bool q ∧ β' = []) [] v := by
  refine callsB_fn tab func27 rfl (Nat.le_of_ble_eq_true rfl) (args := [_, _]) ?_
  repeat' (first | refine cs ?_ | refine ss ?_ | (((with_reducible apply Q_box); (focus (exact rfl)); (focus (exact rfl)); (focus (exact rfl))); intro bx) | (((with_reducible apply Q_alloc tab); (focus (exact rfl)); (focus (exact rfl)); (focus (exact rfl))); intro bx) | refine S_do (by kernel_rfl) (A_storeN tab rfl rfl rfl rfl rfl rfl rfl (by ((repeat (first | exact InB.head | apply InB.tail | (with_reducible apply InB.app))); done)) (by exact rfl) (by ((repeat (first | exact SetB.head | apply SetB.tail | (with_reducible apply SetB.app))); done)) ⟨Le.refl _, (by (repeat (first | exact trivial | (apply And.intro; (focus (first | (apply Or.inr; (try dsimp only); ((repeat (first | exact InB.head | apply InB.tail | (with_reducible apply InB.app))); done)) | (apply Or.inl; kernel_rfl))))))), ?_⟩))
  refine Q_op fun ho => A_callR ([]) (_) ho bod28 rfl rfl rfl rfl rfl split0 (comp_x (hx.le (union_le _ _)) (hy.le (union_le _ _)) hm) (fun x β' hR => ?_)
  clear ho
  obtain ⟨z, rfl, rfl⟩ := hR
  repeat' (first | refine cs ?_ | refine ss ?_ | (((with_reducible apply Q_box); (focus (exact rfl)); (focus (exact rfl)); (focus (exact rfl))); intro bx) | (((with_reducible apply Q_alloc tab); (focus (exact rfl)); (focus (exact rfl)); (focus (exact rfl))); intro bx) | refine S_do (by kernel_rfl) (A_storeN tab rfl rfl rfl rfl rfl rfl rfl (by ((repeat (first | exact InB.head | apply InB.tail | (with_reducible apply InB.app))); done)) (by exact rfl) (by ((repeat (first | exact SetB.head | apply SetB.tail | (with_reducible apply SetB.app))); done)) ⟨Le.refl _, (by (repeat (first | exact trivial | (apply And.intro; (focus (first | (apply Or.inr; (try dsimp only); ((repeat (first | exact InB.head | apply InB.tail | (with_reducible apply InB.app))); done)) | (apply Or.inl; kernel_rfl))))))), ?_⟩))
  refine Fn_ret tab [] (by exact .tmp rfl .nil) (Back.here cntL) ?_
  exact ⟨_, rfl, rfl⟩
theorem take_x {x y : Value} {m bb : Nat} {q : Bool} (hx : PayAt v x m) (hy : q = true → PayAt v y m) (h1 : ∃ a n c, y = .slice a n c) (hm : m < 2 ^ 20) : CallsB Try.prog mn 26 #[.pointer (some ⟨bb, 0, none⟩), x, .func (.func 27) #[] #[]] (RetB fun r β' => r = .tuple #[] ∧ ∃ z, (z = x ∨ (q = true ∧ z = y)) ∧ β' = [(bb, List.toArray [z, .bool true], 81)]) [(bb, List.toArray [y, .bool q], 81)] v := by
  obtain ⟨l, a, c, rfl, hf, rfl, hrow⟩ := hx
  obtain ⟨ya, yn, yc, rfl⟩ := h1
  refine callsB_fn tab func26 rfl (Nat.le_of_ble_eq_true rfl) (args := [_, _, _]) ?_
  repeat' (first | refine cs ?_ | refine ss ?_ | (((with_reducible apply Q_box); (focus (exact rfl)); (focus (exact rfl)); (focus (exact rfl))); intro bx) | (((with_reducible apply Q_alloc tab); (focus (exact rfl)); (focus (exact rfl)); (focus (exact rfl))); intro bx) | refine S_do (by kernel_rfl) (A_storeN tab rfl rfl rfl rfl rfl rfl rfl (by ((repeat (first | exact InB.head | apply InB.tail | (with_reducible apply InB.app))); done)) (by exact rfl) (by ((repeat (first | exact SetB.head | apply SetB.tail | (with_reducible apply SetB.app))); done)) ⟨Le.refl _, (by (repeat (first | exact trivial | (apply And.intro; (focus (first | (apply Or.inr; (try dsimp only); ((repeat (first | exact InB.head | apply InB.tail | (with_reducible apply InB.app))); done)) | (apply Or.inl; kernel_rfl))))))), ?_⟩))
  cases q with
  | false =>
    repeat' (first | refine cs ?_ | refine ss ?_ | (((with_reducible apply Q_box); (focus (exact rfl)); (focus (exact rfl)); (focus (exact rfl))); intro bx) | (((with_reducible apply Q_alloc tab); (focus (exact rfl)); (focus (exact rfl)); (focus (exact rfl))); intro bx) | refine S_do (by kernel_rfl) (A_storeN tab rfl rfl rfl rfl rfl rfl rfl (by ((repeat (first | exact InB.head | apply InB.tail | (with_reducible apply InB.app))); done)) (by exact rfl) (by ((repeat (first | exact SetB.head | apply SetB.tail | (with_reducible apply SetB.app))); done)) ⟨Le.refl _, (by (repeat (first | exact trivial | (apply And.intro; (focus (first | (apply Or.inr; (try dsimp only); ((repeat (first | exact InB.head | apply InB.tail | (with_reducible apply InB.app))); done)) | (apply Or.inl; kernel_rfl))))))), ?_⟩))
    refine Fn_normal tab [(bb, List.toArray [.slice a l.length c, .bool true], 81)] .nil (Back.here fun _ => Nat.le_refl _) ?_
    exact ⟨rfl, _, .inl rfl, rfl⟩
  | true =>
    repeat' (first | refine cs ?_ | refine ss ?_ | (((with_reducible apply Q_box); (focus (exact rfl)); (focus (exact rfl)); (focus (exact rfl))); intro bx) | (((with_reducible apply Q_alloc tab); (focus (exact rfl)); (focus (exact rfl)); (focus (exact rfl))); intro bx) | refine S_do (by kernel_rfl) (A_storeN tab rfl rfl rfl rfl rfl rfl rfl (by ((repeat (first | exact InB.head | apply InB.tail | (with_reducible apply InB.app))); done)) (by exact rfl) (by ((repeat (first | exact SetB.head | apply SetB.tail | (with_reducible apply SetB.app))); done)) ⟨Le.refl _, (by (repeat (first | exact trivial | (apply And.intro; (focus (first | (apply Or.inr; (try dsimp only); ((repeat (first | exact InB.head | apply InB.tail | (with_reducible apply InB.app))); done)) | (apply Or.inl; kernel_rfl))))))), ?_⟩))
    refine Q_op fun ho => A_callR [] _ ho bod27 rfl rfl rfl rfl rfl split0 (less_x (m := l.length) (PayAt.le ⟨l, a, c, rfl, hf, rfl, hrow⟩ (union_le _ _)) ((hy rfl).le (union_le _ _)) hm) (fun x β' hR => ?_)
    clear ho
    obtain ⟨q2, rfl, rfl⟩ := hR
    repeat' (first | refine cs ?_ | refine ss ?_ | (((with_reducible apply Q_box); (focus (exact rfl)); (focus (exact rfl)); (focus (exact rfl))); intro bx) | (((with_reducible apply Q_alloc tab); (focus (exact rfl)); (focus (exact rfl)); (focus (exact rfl))); intro bx) | refine S_do (by kernel_rfl) (A_storeN tab rfl rfl rfl rfl rfl rfl rfl (by ((repeat (first | exact InB.head | apply InB.tail | (with_reducible apply InB.app))); done)) (by exact rfl) (by ((repeat (first | exact SetB.head | apply SetB.tail | (with_reducible apply SetB.app))); done)) ⟨Le.refl _, (by (repeat (first | exact trivial | (apply And.intro; (focus (first | (apply Or.inr; (try dsimp only); ((repeat (first | exact InB.head | apply InB.tail | (with_reducible apply InB.app))); done)) | (apply Or.inl; kernel_rfl))))))), ?_⟩))
    cases q2 with
    | false =>
      repeat' (first | refine cs ?_ | refine ss ?_ | (((with_reducible apply Q_box); (focus (exact rfl)); (focus (exact rfl)); (focus (exact rfl))); intro bx) | (((with_reducible apply Q_alloc tab); (focus (exact rfl)); (focus (exact rfl)); (focus (exact rfl))); intro bx) | refine S_do (by kernel_rfl) (A_storeN tab rfl rfl rfl rfl rfl rfl rfl (by ((repeat (first | exact InB.head | apply InB.tail | (with_reducible apply InB.app))); done)) (by exact rfl) (by ((repeat (first | exact SetB.head | apply SetB.tail | (with_reducible apply SetB.app))); done)) ⟨Le.refl _, (by (repeat (first | exact trivial | (apply And.intro; (focus (first | (apply Or.inr; (try dsimp only); ((repeat (first | exact InB.head | apply InB.tail | (with_reducible apply InB.app))); done)) | (apply Or.inl; kernel_rfl))))))), ?_⟩))
      refine Fn_normal tab [(bb, List.toArray [.slice ya yn yc, .bool true], 81)] .nil (Back.here fun _ => Nat.le_refl _) ?_
      exact ⟨rfl, _, .inr ⟨rfl, rfl⟩, rfl⟩
    | true =>
      repeat' (first | refine cs ?_ | refine ss ?_ | (((with_reducible apply Q_box); (focus (exact rfl)); (focus (exact rfl)); (focus (exact rfl))); intro bx) | (((with_reducible apply Q_alloc tab); (focus (exact rfl)); (focus (exact rfl)); (focus (exact rfl))); intro bx) | refine S_do (by kernel_rfl) (A_storeN tab rfl rfl rfl rfl rfl rfl rfl (by ((repeat (first | exact InB.head | apply InB.tail | (with_reducible apply InB.app))); done)) (by exact rfl) (by ((repeat (first | exact SetB.head | apply SetB.tail | (with_reducible apply SetB.app))); done)) ⟨Le.refl _, (by (repeat (first | exact trivial | (apply And.intro; (focus (first | (apply Or.inr; (try dsimp only); ((repeat (first | exact InB.head | apply InB.tail | (with_reducible apply InB.app))); done)) | (apply Or.inl; kernel_rfl))))))), ?_⟩))
      refine Fn_normal tab [(bb, List.toArray [.slice a l.length c, .bool true], 81)] .nil (Back.here fun _ => Nat.le_refl _) ?_
      exact ⟨rfl, _, .inl rfl, rfl⟩
theorem few_x {o : Ow} (hok : o.ok v) (hex : ∃ m, m < o.n ∧ 0 < cntO o m) :
    CallsB Try.prog mn 10 #[o.val] (RetB fun r β' => ∃ m a c, m < o.n ∧ 0 < cntO o m ∧ (∀ m', m' < m → cntO o m' = 0) ∧ r = .tuple #[.slice a m c, intV 0] ∧ β' = []) [] v := by
  have hn := hok.n
  refine callsB_fn tab func10 rfl (Nat.le_of_ble_eq_true rfl) (args := [.agg (List.toArray [.slice o.ap o.n o.cp, .slice o.ad o.ds.length o.cd])]) ?_
  repeat' (first | refine cs ?_ | refine ss ?_ | (((with_reducible apply Q_box); (focus (exact rfl)); (focus (exact rfl)); (focus (exact rfl))); intro bx) | (((with_reducible apply Q_alloc tab); (focus (exact rfl)); (focus (exact rfl)); (focus (exact rfl))); intro bx) | refine S_do (by kernel_rfl) (A_storeN tab rfl rfl rfl rfl rfl rfl rfl (by ((repeat (first | exact InB.head | apply InB.tail | (with_reducible apply InB.app))); done)) (by exact rfl) (by ((repeat (first | exact SetB.head | apply SetB.tail | (with_reducible apply SetB.app))); done)) ⟨Le.refl _, (by (repeat (first | exact trivial | (apply And.intro; (focus (first | (apply Or.inr; (try dsimp only); ((repeat (first | exact InB.head | apply InB.tail | (with_reducible apply InB.app))); done)) | (apply Or.inl; kernel_rfl))))))), ?_⟩))
  refine Q_op fun ho' => A_ret1 ho' bod22 rfl rfl rfl rfl rfl (openO_x hok) ?_
  clear ho'
  repeat' (first | refine cs ?_ | refine ss ?_ | (((with_reducible apply Q_box); (focus (exact rfl)); (focus (exact rfl)); (focus (exact rfl))); intro bx) | (((with_reducible apply Q_alloc tab); (focus (exact rfl)); (focus (exact rfl)); (focus (exact rfl))); intro bx) | refine S_do (by kernel_rfl) (A_storeN tab rfl rfl rfl rfl rfl rfl rfl (by ((repeat (first | exact InB.head | apply InB.tail | (with_reducible apply InB.app))); done)) (by exact rfl) (by ((repeat (first | exact SetB.head | apply SetB.tail | (with_reducible apply SetB.app))); done)) ⟨Le.refl _, (by (repeat (first | exact trivial | (apply And.intro; (focus (first | (apply Or.inr; (try dsimp only); ((repeat (first | exact InB.head | apply InB.tail | (with_reducible apply InB.app))); done)) | (apply Or.inl; kernel_rfl))))))), ?_⟩))
  obtain ⟨b6, rfl⟩ : ∃ b : Nat, b = bx := ⟨bx, rfl⟩
  refine Q_op fun ho => A_callR ([]) (_) ho bod25 rfl rfl rfl rfl rfl split0 (fewest_x (hok.le (union_le _ _)) hex) (fun x β' hR => ?_)
  clear ho
  obtain ⟨m, a, cap, hm, hc, hz, rfl, segO, segR, rows, rfl, hO, hRows⟩ := hR
  refine Q_retire (β1 := segO ++ segR) (β2 := _) (fun p => rfl) fun hbk => ?_
  obtain ⟨v1, hv1⟩ : ∃ v1, v1 = v.union (bview (segO ++ segR)) := ⟨_, rfl⟩
  have hle : v.Le v1 := by rw [hv1]; exact union_le _ _
  have hrow : RowAt v1 a rows := by rw [hv1]; exact RowAt.own hbk cntL hO
  have hrows : RowsP v1 rows m (cntO o m) := by
    rw [hv1]
    obtain ⟨j1, j2⟩ := bok_subm (τ := segR) (β := segO ++ segR) cntL hbk
    exact (hRows v j1).le j2
  rw [← hv1]
  clear hRows hbk hO hv1
  have hlr := hrows.1
  have hcl := cntO_lt hn.2 m
  have hget : ∀ (i : Nat) (hi : i < rows.length), ∃ l a c, l.length = m ∧ (∀ d ∈ l, Dt.fit d) ∧ rows[i] = .slice a m c ∧ RowAt v1 a (dtC l) := fun i hi => hrows.2 _ (List.getElem_mem hi)
  obtain ⟨br, offr, pr, cr, er, fr, rfl, hvr, _⟩ := row_cell (j := 0) hrow (List.getElem?_eq_getElem (by omega))
  have hcell : ∀ (i : Nat) (hi : i < rows.length), cr[offr + i]? = some rows[i] := fun i hi => by
    obtain ⟨b', off', p', c', e', f', h1, h2, h3⟩ := row_cell (j := i) hrow (List.getElem?_eq_getElem hi)
    cases h1
    rw [hvr] at h2
    cases h2
    exact h3
  repeat' (first | refine cs ?_ | refine ss ?_ | (((with_reducible apply Q_box); (focus (exact rfl)); (focus (exact rfl)); (focus (exact rfl))); intro bx) | (((with_reducible apply Q_alloc tab); (focus (exact rfl)); (focus (exact rfl)); (focus (exact rfl))); intro bx) | refine S_do (by kernel_rfl) (A_storeN tab rfl rfl rfl rfl rfl rfl rfl (by ((repeat (first | exact InB.head | apply InB.tail | (with_reducible apply InB.app))); done)) (by exact rfl) (by ((repeat (first | exact SetB.head | apply SetB.tail | (with_reducible apply SetB.app))); done)) ⟨Le.refl _, (by (repeat (first | exact trivial | (apply And.intro; (focus (first | (apply Or.inr; (try dsimp only); ((repeat (first | exact InB.head | apply InB.tail | (with_reducible apply InB.app))); done)) | (apply Or.inl; kernel_rfl))))))), ?_⟩))
  refine C_loop (α := Nat × Value × Bool) (fun z => ⟨[], [(20, .int .i64 z.1), (19, .int .i64 (cntO o m)), (18, .slice (some ⟨br, offr, none⟩) (cntO o m) cap), (6, .pointer (some ⟨b6, 0, none⟩))], [(b6, List.toArray [z.2.1, .bool z.2.2], 81)]⟩)
    (fun z w => w = v1 ∧ z.1 ≤ cntO o m ∧ (z.2.2 = true ↔ 0 < z.1) ∧ (z.2.2 = true → PayAt v1 z.2.1 m) ∧ ∃ a n c, z.2.1 = .slice a n c) (fun z => cntO o m - z.1) (0, .slice none 0 0, false)
    ⟨rfl, (by (repeat (first | exact trivial | refine ⟨rfl, ?_⟩))), fun p => Nat.add_le_add_left (Nat.zero_le _) _⟩ (Le.refl _) ⟨rfl, Nat.zero_le _, by simp, by simp, _, _, _, rfl⟩ ?_
  rintro ⟨i, y, q⟩ w ⟨rfl, hi, hq, hy, hys⟩
  simp only at hi hq hy hys
  dsimp only
  repeat' (first | refine cs ?_ | refine ss ?_ | (((with_reducible apply Q_box); (focus (exact rfl)); (focus (exact rfl)); (focus (exact rfl))); intro bx) | (((with_reducible apply Q_alloc tab); (focus (exact rfl)); (focus (exact rfl)); (focus (exact rfl))); intro bx) | refine S_do (by kernel_rfl) (A_storeN tab rfl rfl rfl rfl rfl rfl rfl (by ((repeat (first | exact InB.head | apply InB.tail | (with_reducible apply InB.app))); done)) (by exact rfl) (by ((repeat (first | exact SetB.head | apply SetB.tail | (with_reducible apply SetB.app))); done)) ⟨Le.refl _, (by (repeat (first | exact trivial | (apply And.intro; (focus (first | (apply Or.inr; (try dsimp only); ((repeat (first | exact InB.head | apply InB.tail | (with_reducible apply InB.app))); done)) | (apply Or.inl; kernel_rfl))))))), ?_⟩))
  refine XC_cond rfl (fun h => ?_) (fun h => ?_)
  · (simp only [decide_eq_true_eq, decide_eq_false_iff_not, beq_iff_eq, bne_iff_ne, Bool.not_eq_true', beq_eq_false_iff_ne, bne_eq_false_iff_eq, ne_eq] at h)
    have hlt : i < cntO o m := by omega
    clear h
    obtain ⟨l, pa, pc, g1, g2, g3, g4⟩ := hget i (by omega)
    have hci := hcell i (by omega)
    rw [g3] at hci
    repeat' (first | refine cs ?_ | refine ss ?_ | (((with_reducible apply Q_box); (focus (exact rfl)); (focus (exact rfl)); (focus (exact rfl))); intro bx) | (((with_reducible apply Q_alloc tab); (focus (exact rfl)); (focus (exact rfl)); (focus (exact rfl))); intro bx) | refine S_do (by kernel_rfl) (A_storeN tab rfl rfl rfl rfl rfl rfl rfl (by ((repeat (first | exact InB.head | apply InB.tail | (with_reducible apply InB.app))); done)) (by exact rfl) (by ((repeat (first | exact SetB.head | apply SetB.tail | (with_reducible apply SetB.app))); done)) ⟨Le.refl _, (by (repeat (first | exact trivial | (apply And.intro; (focus (first | (apply Or.inr; (try dsimp only); ((repeat (first | exact InB.head | apply InB.tail | (with_reducible apply InB.app))); done)) | (apply Or.inl; kernel_rfl))))))), ?_⟩))
    refine Q_elem tab i rfl rfl rfl rfl rfl rfl rfl hlt ?_
    refine Q_load tab rfl rfl rfl hvr (readB_one tab rfl rfl rfl (by rw [Nat.mul_one]; exact hci)) ?_
    repeat' (first | refine cs ?_ | refine ss ?_ | (((with_reducible apply Q_box); (focus (exact rfl)); (focus (exact rfl)); (focus (exact rfl))); intro bx) | (((with_reducible apply Q_alloc tab); (focus (exact rfl)); (focus (exact rfl)); (focus (exact rfl))); intro bx) | refine S_do (by kernel_rfl) (A_storeN tab rfl rfl rfl rfl rfl rfl rfl (by ((repeat (first | exact InB.head | apply InB.tail | (with_reducible apply InB.app))); done)) (by exact rfl) (by ((repeat (first | exact SetB.head | apply SetB.tail | (with_reducible apply SetB.app))); done)) ⟨Le.refl _, (by (repeat (first | exact trivial | (apply And.intro; (focus (first | (apply Or.inr; (try dsimp only); ((repeat (first | exact InB.head | apply InB.tail | (with_reducible apply InB.app))); done)) | (apply Or.inl; kernel_rfl))))))), ?_⟩))
    refine Q_op fun ho => A_callR ([(b6, List.toArray [y, .bool q], 81)]) ([]) ho bod26 rfl rfl rfl rfl rfl cntA (take_x (PayAt.le ⟨l, pa, pc, g1, g2, rfl, g4⟩ (union_le _ _)) (fun e => (hy e).le (union_le _ _)) hys (by omega)) (fun x β' hR => ?_)
    clear ho
    obtain ⟨rfl, z, hz2, rfl⟩ := hR
    have hzp : PayAt w z m := by
      rcases hz2 with rfl | ⟨h1, rfl⟩
      · exact ⟨l, pa, pc, g1, g2, rfl, g4⟩
      · exact hy h1
    obtain ⟨l3, a3, c3, k1, k2, k3, k4⟩ := hzp
    rw [List.append_nil]
    repeat' (first | refine cs ?_ | refine ss ?_ | (((with_reducible apply Q_box); (focus (exact rfl)); (focus (exact rfl)); (focus (exact rfl))); intro bx) | (((with_reducible apply Q_alloc tab); (focus (exact rfl)); (focus (exact rfl)); (focus (exact rfl))); intro bx) | refine S_do (by kernel_rfl) (A_storeN tab rfl rfl rfl rfl rfl rfl rfl (by ((repeat (first | exact InB.head | apply InB.tail | (with_reducible apply InB.app))); done)) (by exact rfl) (by ((repeat (first | exact SetB.head | apply SetB.tail | (with_reducible apply SetB.app))); done)) ⟨Le.refl _, (by (repeat (first | exact trivial | (apply And.intro; (focus (first | (apply Or.inr; (try dsimp only); ((repeat (first | exact InB.head | apply InB.tail | (with_reducible apply InB.app))); done)) | (apply Or.inl; kernel_rfl))))))), ?_⟩))
    exact Loop_normal ⟨(i + 1, z, true), w, by simp only; omega, ⟨rfl, (by (repeat (first | exact trivial | refine ⟨rfl, ?_⟩))), cntL⟩, Le.refl _, rfl, hlt, by simp, fun _ => ⟨l3, a3, c3, k1, k2, k3, k4⟩, _, _, _, k3⟩
  · (simp only [decide_eq_true_eq, decide_eq_false_iff_not, beq_iff_eq, bne_iff_ne, Bool.not_eq_true', beq_eq_false_iff_ne, bne_eq_false_iff_eq, ne_eq] at h)
    have hq1 : q = true := hq.2 (by omega)
    obtain ⟨l3, a3, c3, k1, k2, rfl, k4⟩ := hy hq1
    repeat' (first | refine cs ?_ | refine ss ?_ | (((with_reducible apply Q_box); (focus (exact rfl)); (focus (exact rfl)); (focus (exact rfl))); intro bx) | (((with_reducible apply Q_alloc tab); (focus (exact rfl)); (focus (exact rfl)); (focus (exact rfl))); intro bx) | refine S_do (by kernel_rfl) (A_storeN tab rfl rfl rfl rfl rfl rfl rfl (by ((repeat (first | exact InB.head | apply InB.tail | (with_reducible apply InB.app))); done)) (by exact rfl) (by ((repeat (first | exact SetB.head | apply SetB.tail | (with_reducible apply SetB.app))); done)) ⟨Le.refl _, (by (repeat (first | exact trivial | (apply And.intro; (focus (first | (apply Or.inr; (try dsimp only); ((repeat (first | exact InB.head | apply InB.tail | (with_reducible apply InB.app))); done)) | (apply Or.inl; kernel_rfl))))))), ?_⟩))
    refine Fn_ret tab (xs := [.slice a3 m c3, intV 0]) [] (by exact .tmp rfl (.tmp rfl .nil)) (Back.le hle fun p => Nat.zero_le _) ?_
    exact ⟨m, a3, c3, hm, hc, hz, rfl, rfl⟩
end
end Go.Proofs.Ytbbaionoibkohaa
end
