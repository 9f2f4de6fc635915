/- Part 14. -/
import Derived.Test.YtclejblcnfaeaaaGreatDoorPam
set_option linter.all false
section
namespace Go.Pal.K
open Go Go.Conc Go.Pal View
open Go.ConcN (sumTo upd sumTo_upd upd_ne upd_same sumTo_congr)
section
variable{P:Program}{Pr:Proto}{base:Nat}{K:View→Goroutine→Prop}{S:Nat→Prop}{v0:View}{w0:World}{γ γ':Pr.G}{vs:Nat→View}{Ts:Nat→Tree}{ns:Nat→Nat}{gs:Array Goroutine}{w:World}{t:Trace}
theorem AtX.running{X:Nat→Pr.T→View→Goroutine→Prop}{i:Nat}{τ:Pr.T}{u:View}{g:Goroutine}(h:AtX P Pr base K X i τ u g):g.status = .running:=by
 rcases h with ⟨_,_,h⟩|⟨h,_⟩|⟨h,_⟩
 ·exact h.1
 ·exact h
 ·exact h
theorem AtR.again{X:Nat→Pr.T→View→Goroutine→Prop}{i:Nat}{τ:Pr.T}{u:View}{g:Goroutine}{z:Value}{cs:Array CommCase}{sh:CommShape}(h:AtR P Pr X i τ u g z):AtR P Pr X i τ u {parked g cs sh with status:=.running } z:=
 ⟨h.1,fun w hw=>(stepG_same Y Y Y w).trans (h.2.1 w hw),h.2.2.1,h.2.2.2⟩
theorem Sit.status{j:Nat}{τ:Pr.T}{n:Nat}{T:Tree}{v:View}{g:Goroutine}(h:Sit P Pr base K j τ n T v g γ):g.status = .running∨g.status = .blocked:=by
 cases h with
 | run _ h=>exact .inl (h.running fun _ _ x=>AtX.running x)
 | still _ _ h=>exact .inl (h.running fun _ x=>x.1)
 | wait _ _ _ _ _ hg=>rw [hg];exact .inr rfl
 | put _ _ _ _ _ _ hg=>rw [hg];exact .inr rfl
 | take _ _ _ _ _ hg=>rw [hg];exact .inr rfl
theorem Sit.other{j:Nat}{τ:Pr.T}{n:Nat}{T:Tree}{v:View}{x g g':Goroutine}{w':World}{s r:Nat}(h:Sit P Pr base K j τ n T v x γ)(hw:Pr.blocks γ j→¬Pr.blocks γ' j→mayWake P g=true∧g'.status = .running)
  (hc:w'.heap[Pr.ch]?=some (.chan 0 #[] (Pr.shut γ') s r false))(hs:Pr.shut γ'=true→Pr.snd τ=none)(hrv:Pr.rcv τ=true→Pr.rel τ=false)(hsh:Pr.shut γ=false→Pr.shut γ'=true→mayWake P g=true∧g'.status = .running) :
  Sit P Pr base K j τ n T v (woken P g g' w' x) γ':=by
 cases h with
 | run h1 h2=>
  rw [woken_running (h2.running fun _ _ x=>AtX.running x)]
  exact .run h1 h2
 | still h1 h2 h3=>
  rw [woken_running (h3.running fun _ x=>x.1)]
  exact .still h1 h2 h3
 | wait hT hb u g₀ hl hg h1 h2 hA hv=>
  subst hT hg
  by_cases hcw:(mayWake P g&&g'.status != .blocked&&g'.status != .waiting)=true
  ·have:woken P g g' w' {g₀ with status:=.blocked }=g₀:=by unfold woken;rw [if_pos hcw];exact Go.ConcR.again_blocked hA.1 hA.2.1 _
   rw [this]
   cases hr:Pr.rel τ with
   | false=>exact .run hr ⟨u,hl,.inl ⟨h1,h2,hA⟩⟩
   | true=>
    have hv':=hv hr
    refine .still hr hv' ?_
    have:u=noView:=by
     funext b
     cases hu:u b with
     | none=>rfl
     | some y=>have:=hl _ _ hu;rw [hv']at this;cases this
    rw [this]at hA
    exact hA
  ·have:woken P g g' w' {g₀ with status:=.blocked }={g₀ with status:=.blocked }:=by unfold woken;rw [if_neg hcw]
   rw [this]
   refine .wait Y ?_ u g₀ hl Y h1 h2 hA hv
   apply Classical.byContradiction
   intro hnb
   obtain⟨h1,h2⟩:=hw hb hnb
   exact hcw (by simp [h1,h2])
 | put hT u g₀ x z hl hg hA=>
  subst hg
  cases ho:Pr.shut γ' with
  | true=>
   obtain⟨m,u0,ux,h1,_⟩:=hA
   rw [hs ho]at h1;cases h1
  | false=>
   rw [ho]at hc
   rw [woken_send_open g g' hc]
   exact .put hT u g₀ x z hl Y hA
 | take hT u g₀ z hl hg ho hA=>
  subst hg
  cases ho':Pr.shut γ' with
  | false=>
   rw [ho']at hc
   rw [woken_recv_open g g' hc]
   exact .take hT u g₀ z hl Y ho' hA
  | true=>
   rw [ho']at hc
   obtain⟨h1,h2⟩:=hsh ho ho'
   have:woken P g g' w' (parked g₀ #[rcase Pr.ch z] (.recv true))={parked g₀ #[rcase Pr.ch z] (.recv true)with status:=.running }:=by
    unfold woken
    rw [if_pos (by simp [h1,h2])]
    exact again_recv_closed hc
   rw [this]
   exact .run (hrv hA.1) (by subst hT;exact⟨u,hl,.inr (.inr ⟨Y,z,hA.again⟩)⟩)
theorem A2v{g:Goroutine}(h:g.status = .running)(r:Nat)(b:Bool):offersAt g r b=[]:=offersAt_of_not_blocked (by rw [h];simp) r b
theorem B0j{g g' x:Goroutine}{w':World}{r:Nat}{b:Bool}(h:offersAt (woken P g g' w' x) r b≠[]):offersAt x r b≠[]:=by
 unfold woken at h
 split at h
 ·unfold Goroutine.again at h
  split at h
  ·dsimp only at h
   split at h
   ·exact absurd (A2v Y r b) h
   ·exact h
  ·exact absurd (A2v Y r b) h
  ·exact absurd (A2v Y r b) h
  ·exact h
 ·exact h
theorem get_other{i j:Nat}{g g' x:Goroutine}{w':World}(hj:j≠i)(h:((gs.map (woken P g g' w')).setIfInBounds i g')[j]?=some x):∃y,gs[j]?=some y∧x=woken P g g' w' y:=Go.Pal.get_other hj h
theorem get_self{i:Nat}{g g' x y:Goroutine}{w':World}(hi:gs[i]?=some y)(h:((gs.map (woken P g g' w')).setIfInBounds i g')[i]?=some x):x=g':=Go.Pal.get_self hi h
theorem meet_go{i:Nat}{g g' y:Goroutine}{w':World}(hi:gs[i]?=some y)(hr:g'.status = .running)(h:∀(i:Nat) (g:Goroutine),gs[i]?=some g→offersAt g Pr.ch true≠[]→∀(j:Nat) (g':Goroutine),gs[j]?=some g'→offersAt g' Pr.ch false=[]) :
  ∀(a:Nat) (x:Goroutine),((gs.map (woken P g g' w')).setIfInBounds i g')[a]?=some x→offersAt x Pr.ch true≠[]→∀(j:Nat) (x':Goroutine),((gs.map (woken P g g' w')).setIfInBounds i g')[j]?=some x'→offersAt x' Pr.ch false=[]:=fun a x hx ho j x' hx'=>by
 have key:∀{a x b},((gs.map (woken P g g' w')).setIfInBounds i g')[a]?=some x→offersAt x Pr.ch b≠[]→∃y,gs[a]?=some y∧offersAt y Pr.ch b≠[]:=fun {a x b} hx ho=>by
  by_cases e:a=i
  ·subst e
   rw [get_self hi hx]at ho
   exact absurd (A2v hr _ _) ho
  ·obtain⟨z,hz,rfl⟩:=get_other e hx
   exact⟨z,hz,B0j ho⟩
 obtain⟨z,hz,hzo⟩:=key hx ho
 apply Classical.byContradiction
 intro hne
 obtain⟨z',hz',hzo'⟩:=key hx' hne
 exact hzo' (h a z hz hzo j z' hz')
theorem PInv.at(I:PInv P Pr base K S v0 w0 γ vs Ts ns gs w t)(d:Nat):PInv P Pr base K S v0 w0 γ vs Ts ns gs (w.at d) t:=
 ⟨I.size,I.ok,I.lev,I.sit,I.gone,I.meet,I.above,I.agree,I.agreeS,I.excl,I.disj,I.nov,I.shun,I.ti,I.calm,I.tape,I.output,I.os,I.heap,I.keep,I.dom,I.own,I.ownS⟩
theorem PInv.chan(L:Laws Pr base)(I:PInv P Pr base K S v0 w0 γ vs Ts ns gs w t):∃s,w.heap[Pr.ch]?=some (.chan 0 #[] (Pr.shut γ) s s false):=by
 obtain⟨s,hs⟩:=L.chS I.ok
 exact⟨s,I.agreeS _ _ _ hs⟩
theorem PInv.ownStep(L:Laws Pr base)(I:PInv P Pr base K S v0 w0 γ vs Ts ns gs w t){i:Nat}{g g':Goroutine}{τ:Pr.T}{w':World}{es:Array Event}{v':View}{T:Tree}(hi:gs[i]?=some g)(hth:Pr.th γ i=some τ)(hrel:Pr.rel τ=false)
    (hok:StepOk (vs i) w v' w' es)(hT:RunT P (i==0) (Proto.Wd Pr) (AtX P Pr base K (Job P Pr base K (ns i)) i τ) T v' g') :
    PInv P Pr base K S v0 w0 γ (upd vs i v') (upd Ts i T) ns ((gs.map (woken P g g' w')).setIfInBounds i g') w' (t++MemOp.ofEvents i g.frame.fn g.frame.place es):=by
  have hlow:∀j b,vs j b≠none→b<w.heap.size:=fun j b hb'=>by
    cases h:vs j b with
    | none=>exact absurd h hb'
    | some x=>exact(I.agree j).lt h
  have hshlow:∀b,Pr.sh γ b≠none→b<w.heap.size:=fun b hb'=>by
    cases h:Pr.sh γ b with
    | none=>exact absurd h hb'
    | some x=>exact I.agreeS.lt h
  have hdom':∀b,v' b≠none→vs i b≠none∨w.heap.size≤b:=hok.dom
  have hagS:(Pr.sh γ).Agree w':=fun b p o e=>by
    rw [hok.keep b (I.agreeS.lt e) fun⟨o',hO⟩=>by
      rcases I.disj i b with x|x
      · rw [x]at hO;cases hO
      · rw [x]at e;cases e]
    exact I.agreeS b p o e
  obtain⟨s,hch⟩:=L.chS I.ok
  have hc:=hagS _ _ _ hch
  refine⟨by simpa using I.size,I.ok,I.lev,fun j x σ hx hσ=>?_,fun j x hx hn=>?_,meet_go hi (hT.running fun _ _ x=>AtX.running x) I.meet,fun j hj=>?_,fun j=>?_,hagS,fun j k hjk b hO=>?_,fun j b=>?_,fun j hn=>?_,fun b hS=>?_,?_,by rw [hok.tape];exact I.calm,hok.tape.trans I.tape,hok.output.trans I.output,by rw [hok.os];exact I.os,Nat.le_trans I.heap hok.size,fun b hlt hn=>?_,fun j b hne=>?_,fun j b hO=>?_,I.ownS⟩
  · by_cases e:j=i
    · subst e
      rw [hth]at hσ;cases hσ
      rw [upd_same,upd_same,get_self hi hx]
      exact .run hrel hT
    · obtain⟨y,hy,rfl⟩:=get_other e hx
      rw [upd_ne _ _ e,upd_ne _ _ e]
      exact(I.sit j y σ hy hσ).other (fun a b=>absurd a b) hc (fun h=>L.noSnd I.ok h hσ) (fun h=>(L.rcvR I.ok hσ h).1) fun a b=>by rw [a]at b;cases b
  · have e:j≠i:=fun e=>by subst e;rw [hth]at hn;cases hn
    obtain⟨y,hy,rfl⟩:=get_other e hx
    obtain⟨q,h1,h2⟩:=I.gone j y hy hn
    rw [upd_ne _ _ e,woken_quitsD h2,A3o hok.ev]
    exact⟨q,h1,h2⟩
  · rw [A3o hok.ev]
    exact I.above j (by simpa using hj)
  · by_cases e:j=i
    · subst e;rw [upd_same];exact hok.agree
    · rw [upd_ne _ _ e]
      intro b p o hbo
      rw [hok.keep b ((I.agree j).lt hbo) fun hO=>by rw [I.excl i j (Ne.symm e) b hO]at hbo;cases hbo]
      exact I.agree j b p o hbo
  · by_cases e:j=i
    · subst e
      rw [upd_same]at hO
      rw [upd_ne _ _ (Ne.symm hjk)]
      rcases hok.own b hO with x|x
      · exact I.excl j k hjk b x
      · apply Classical.byContradiction
        intro h
        have:=hlow k b h;omega
    · rw [upd_ne _ _ e]at hO
      by_cases e2:k=i
      · subst e2
        rw [upd_same]
        apply Classical.byContradiction
        intro h
        rcases hdom' b h with x|x
        · exact x (I.excl j k hjk b hO)
        · obtain⟨o,ho⟩:=hO
          have:=(I.agree j).lt ho;omega
      · rw [upd_ne _ _ e2];exact I.excl j k hjk b hO
  · by_cases e:j=i
    · subst e
      rw [upd_same]
      apply Classical.byContradiction
      intro h
      simp only [not_or]at h
      rcases hdom' b h.1 with x|x
      · exact(I.disj j b).elim x h.2
      · have:=hshlow b h.2;omega
    · rw [upd_ne _ _ e];exact I.disj j b
  · have e:j≠i:=fun e=>by subst e;rw [hth]at hn;cases hn
    rw [upd_ne _ _ e];exact I.nov j hn
  · obtain⟨h1,h2,h3⟩:=I.shun b hS
    refine⟨fun j=>?_,h2,Nat.lt_of_lt_of_le h3 hok.size⟩
    by_cases e:j=i
    · subst e
      rw [upd_same]
      apply Classical.byContradiction
      intro h
      rcases hdom' b h with x|x
      · exact x (h1 j)
      · omega
    · rw [upd_ne _ _ e];exact h1 j
  · exact I.ti.ownStep (L.lt I.ok hth) hth (fun _=>hrel) (fun h1 _=>(L.tokR I.ok hth h1).resolve_right (by simp [hrel])) hok.size hok.ev hok.dom hok.own hlow
      (fun j hj b hO=>I.excl i j (Ne.symm hj) b hO) (fun j hj b hO=>I.excl j i hj b hO) (fun b hS=>⟨(I.disj i b).resolve_right hS,hshlow b hS⟩) (fun b hA=>⟨(I.disj i b).resolve_right (L.atbS I.ok hA),hshlow b (L.atbS I.ok hA)⟩)
  · rw [hok.keep b (Nat.lt_of_lt_of_le hlt I.heap) fun hO=>by
      rcases I.own i b hO with x|x
      · exact hn x
      · omega]
    exact I.keep b hlt hn
  · by_cases e:j=i
    · subst e
      rw [upd_same]at hne
      rcases hdom' b hne with x|x
      · exact I.dom j b x
      · exact .inr (Nat.le_trans I.heap x)
    · rw [upd_ne _ _ e]at hne;exact I.dom j b hne
  · by_cases e:j=i
    · subst e
      rw [upd_same]at hO
      rcases hok.own b hO with x|x
      · exact I.own j b x
      · exact .inr (Nat.le_trans I.heap x)
    · rw [upd_ne _ _ e]at hO;exact I.own j b hO
theorem PInv.syncStep(hb:0<base)(L:Laws Pr base)(I:PInv P Pr base K S v0 w0 γ vs Ts ns gs w t){i:Nat}{g g':Goroutine}{τ:Pr.T}{u:View}{w':World}{es:Array Event}{v':View}{T:Tree}{n:Nat}(hi:gs[i]?=some g)(hth:Pr.th γ i=some τ)(hu:u.Le (vs i))(hA:Pr.wakes τ=true→mayWake P g=true)(hrun:g'.status = .running)
    (hS:SS Pr base i γ τ u w γ' v' w' es)(hn:Pr.rank γ'≤n)
    (hT:(∃τ',Pr.th γ' i=some τ'∧Sit P Pr base K i τ' n T v' g' γ')∨(i≠0∧Pr.th γ' i=none∧v'=noView∧∃q,T=Tree.ofNat q∧QuitsD P q (deafBehind (Pr.deaf τ) es) g')) :
    PInv P Pr base K S v0 w0 γ' (upd vs i v') (upd Ts i T) (upd ns i n) ((gs.map (woken P g g' w')).setIfInBounds i g') w' (t++MemOp.ofEvents i g.frame.fn g.frame.place es):=by
  have hok':=L.ok I.ok hS.tr
  have hrank:=L.rank I.ok hS.tr
  have hoth:∀j,j≠i→Pr.th γ' j=Pr.th γ j:=fun j hj=>by
    by_cases e:j=Pr.size γ
    · subst e
      have h1:Pr.th γ' (Pr.size γ)=none:=by
        cases h:Pr.th γ' (Pr.size γ)with
        | none=>rfl
        | some σ => rcases L.lt hok' h with x|⟨_,x⟩
                    · have:=L.baseLe I.ok;omega
                    · rw [hS.size]at x;omega
      have h2:Pr.th γ (Pr.size γ)=none:=by
        cases h:Pr.th γ (Pr.size γ)with
        | none=>rfl
        | some σ => rcases L.lt I.ok h with x|⟨_,x⟩
                    · have:=L.baseLe I.ok;omega
                    · omega
      rw [h1,h2]
    · exact L.oth I.ok hS.tr j hj e
  have hlow:∀j b,vs j b≠none→b<w.heap.size:=fun j b hb'=>by
    cases h:vs j b with
    | none=>exact absurd h hb'
    | some x=>exact(I.agree j).lt h
  have hshlow:∀b,Pr.sh γ b≠none→b<w.heap.size:=fun b hb'=>by
    cases h:Pr.sh γ b with
    | none=>exact absurd h hb'
    | some x=>exact I.agreeS.lt h
  have huO:∀b,u.Owns b→(vs i).Owns b:=fun b ⟨o,ho⟩=>⟨o,hu _ _ ho⟩
  have hun:∀b,u b≠none→vs i b≠none:=fun b hb'=>by
    cases h:u b with
    | none=>exact absurd h hb'
    | some x=>rw [hu _ _ h];simp
  have hatn:∀j b,Pr.atb γ b→vs j b=none:=fun j b hA=>(I.disj j b).resolve_right (L.atbS I.ok hA)
  have hatv:∀b,Pr.atb γ b→v' b=none:=fun b hA=>(hS.disj b).resolve_right (L.atbS hok' (hS.atm b hA))
  have hv'dom:∀b,v' b≠none→vs i b≠none∨Pr.sh γ b≠none:=fun b h=>(hS.gain b h).imp (hun b) fun x=>x.2.2.1
  have hv'own:∀b,v'.Owns b→(vs i).Owns b∨Pr.sh γ b≠none:=fun b h=>(hS.own b h).imp (huO b) fun x=>x.2.2.1
  have hlose:∀b,Pr.sh γ' b≠none→Pr.sh γ b≠none∨(vs i).Owns b:=fun b h=>(hS.lose b h).imp id fun x=>huO b x.1
  have hkeep:∀b,¬(vs i).Owns b→Pr.sh γ b=none→w'.heap[b]?=w.heap[b]?:=fun b h1 h2=>hS.keep b (fun h=>h1 (huO b h)) h2
  obtain⟨s,hch⟩:=L.chS hok'
  have hc:=hS.agreeS _ _ _ hch
  refine⟨by rw [hS.size];simpa using I.size,hok',fun j=>?_,fun j x σ hx hσ=>?_,fun j x hx hn=>?_,meet_go hi hrun I.meet,fun j hj=>?_,fun j=>?_,hS.agreeS,fun j k hjk b hO=>?_,fun j b=>?_,fun j hn=>?_,fun b hSb=>?_,?_,by rw [hS.tape];exact I.calm,hS.tape.trans I.tape,hS.output.trans I.output,I.os.trans hS.os,by rw [hS.heap];exact I.heap,fun b hlt hn=>?_,fun j b hne=>?_,fun j b hO=>?_,fun b hne=>?_⟩
  · by_cases e:j=i
    · subst e;rw [upd_same];exact hn
    · rw [upd_ne _ _ e];have:=I.lev j;omega
  · by_cases e:j=i
    · subst e
      rw [upd_same,upd_same,upd_same,get_self hi hx]
      rcases hT with ⟨τ',h1,h2⟩|⟨_,h1,_⟩
      · rw [h1]at hσ;cases hσ;exact h2
      · rw [h1]at hσ;cases hσ
    · obtain⟨y,hy,rfl⟩:=get_other e hx
      rw [upd_ne _ _ e,upd_ne _ _ e,upd_ne _ _ e]
      exact(I.sit j y σ hy (by rw [←hoth j e];exact hσ)).other (fun a b=>⟨hA (L.wake I.ok hth hS.tr e a b),hrun⟩) hc (fun h=>L.noSnd hok' h hσ) (fun h=>(L.rcvR hok' hσ h).1) fun a b=>⟨hA (L.shutW I.ok hth hS.tr a b),hrun⟩
  · by_cases e:j=i
    · subst e
      rw [upd_same,get_self hi hx]
      rcases hT with ⟨τ',h1,_⟩|⟨_,_,_,q,h2,h3⟩
      · rw [h1]at hn;cases hn
      · rw [Deaf_own,I.ti.deaf j τ hth]
        exact⟨q,h2,h3⟩
    · obtain⟨y,hy,rfl⟩:=get_other e hx
      obtain⟨q,h1,h2⟩:=I.gone j y hy (by rw [←hoth j e];exact hn)
      rw [upd_ne _ _ e,woken_quitsD h2,Deaf_other t (g':=i) (Ne.symm e) _ opsG]
      exact⟨q,h1,h2⟩
  · have hji:j≠i:=fun e=>by
      subst e
      have:=(Array.getElem?_eq_some_iff.1 hi).1
      simp at hj;omega
    rw [Deaf_other t (g':=i) (Ne.symm hji) _ opsG]
    exact I.above j (by simpa using hj)
  · by_cases e:j=i
    · subst e;rw [upd_same];exact hS.agree
    · rw [upd_ne _ _ e]
      intro b p o hbo
      rw [hkeep b (fun hO=>by rw [I.excl i j (Ne.symm e) b hO]at hbo;cases hbo) ((I.disj j b).resolve_left (by rw [hbo];simp))]
      exact I.agree j b p o hbo
  · by_cases e:j=i
    · subst e
      rw [upd_same]at hO
      rw [upd_ne _ _ (Ne.symm hjk)]
      rcases hv'own b hO with x|x
      · exact I.excl j k hjk b x
      · exact(I.disj k b).resolve_right x
    · rw [upd_ne _ _ e]at hO
      by_cases e2:k=i
      · subst e2
        rw [upd_same]
        apply Classical.byContradiction
        intro h
        rcases hv'dom b h with x|x
        · exact x (I.excl j k hjk b hO)
        · obtain⟨o,ho⟩:=hO
          exact(I.disj j b).elim (fun z=>by rw [z]at ho;cases ho) x
      · rw [upd_ne _ _ e2];exact I.excl j k hjk b hO
  · by_cases e:j=i
    · subst e;rw [upd_same];exact hS.disj b
    · rw [upd_ne _ _ e]
      apply Classical.byContradiction
      intro h
      simp only [not_or]at h
      rcases hlose b h.2 with x|x
      · exact(I.disj j b).elim h.1 x
      · exact h.1 (I.excl i j (Ne.symm e) b x)
  · by_cases e:j=i
    · subst e
      rw [upd_same]
      rcases hT with ⟨τ',h1,_⟩|⟨_,_,h2,_⟩
      · rw [h1]at hn;cases hn
      · exact h2
    · rw [upd_ne _ _ e];exact I.nov j (by rw [←hoth j e];exact hn)
  · obtain⟨h1,h2,h3⟩:=I.shun b hSb
    refine⟨fun j=>?_,?_,by rw [hS.heap];exact h3⟩
    · by_cases e:j=i
      · subst e
        rw [upd_same]
        apply Classical.byContradiction
        intro h
        exact(hv'dom b h).elim (fun x=>x (h1 j)) (fun x=>x h2)
      · rw [upd_ne _ _ e];exact h1 j
    · apply Classical.byContradiction
      intro h
      rcases hlose b h with x|x
      · exact x h2
      · obtain⟨o,ho⟩:=x
        rw [h1 i]at ho;cases ho
  · rw [hS.heap]
    refine I.ti.syncStep (L.lt I.ok hth) hth hoth hS.size hS.ev hS.deaf (fun b h=>(hS.gain b h).imp (hun b) id) (fun b h=>(hS.own b h).imp (huO b) id)
      (fun b h hna=>(hS.lose b h).imp id fun x=>by
        rcases x.2 with y|y
        · exact absurd y hna
        · exact⟨y.1,y.2,huO b x.1⟩)
      hS.atm (fun b h=>(hS.atn b h).imp id (huO b)) (fun b j h=>(hS.usr b j h).imp id fun x=>⟨huO b x.1,x.2⟩) hS.say (fun b hA=>⟨fun j=>hatn j b hA,hatv b hA⟩) (I.disj i) (fun b j=>L.usrS I.ok) hS.obj hS.mute hS.mv
  · rw [hkeep b (fun hO=>by
      rcases I.own i b hO with x|x
      · exact hn x
      · omega) (by
      apply Classical.byContradiction
      intro h
      rcases I.ownS b h with x|x
      · exact hn x
      · omega)]
    exact I.keep b hlt hn
  · by_cases e:j=i
    · subst e
      rw [upd_same]at hne
      rcases hv'dom b hne with x|x
      · exact I.dom j b x
      · exact(I.ownS b x).imp (fun⟨o,ho⟩=>by rw [ho];simp) id
    · rw [upd_ne _ _ e]at hne;exact I.dom j b hne
  · by_cases e:j=i
    · subst e
      rw [upd_same]at hO
      rcases hv'own b hO with x|x
      · exact I.own j b x
      · exact I.ownS b x
    · rw [upd_ne _ _ e]at hO;exact I.own j b hO
  · rcases hlose b hne with x|x
    · exact I.ownS b x
    · exact I.own i b x
end
section
variable{P:Program}{Pr:Proto}{base:Nat}{K:View→Goroutine→Prop}{S:Nat→Prop}{v0:View}{w0:World}{γ γ':Pr.G}{vs:Nat→View}{Ts:Nat→Tree}{ns:Nat→Nat}{gs:Array Goroutine}{w:World}{t:Trace}
theorem Sit.same{j:Nat}{τ:Pr.T}{n:Nat}{T:Tree}{v:View}{x:Goroutine}(h:Sit P Pr base K j τ n T v x γ)(hb:Pr.blocks γ j→Pr.blocks γ' j)(hs:Pr.shut γ'=Pr.shut γ):Sit P Pr base K j τ n T v x γ':=by
 cases h with
 | run h1 h2=>exact .run h1 h2
 | still h1 h2 h3=>exact .still h1 h2 h3
 | wait hT h u g₀ hl hg h1 h2 hA hv=>exact .wait hT (hb h) u g₀ hl hg h1 h2 hA hv
 | put hT u g₀ y z hl hg hA=>exact .put hT u g₀ y z hl hg hA
 | take hT u g₀ z hl hg ho hA=>exact .take hT u g₀ z hl hg (hs.trans ho) hA
theorem A7w{n i:Nat}{τ:Pr.T}{v:View}{g:Goroutine}(h:Job P Pr base K (n+1) i τ v g)(γ:Pr.G):∃T,Sit P Pr base K i τ n T v g γ:=by
 rcases h with ⟨h1,h2⟩|⟨h1,h2,h3⟩
 ·obtain⟨T,hT⟩:=runT_of h2
  exact⟨T,.run h1 hT⟩
 ·obtain⟨T,hT⟩:=runM_of h3
  exact⟨T,.still h1 h2 hT⟩
theorem A3n{n i:Nat}{τ:Pr.T}{v:View}{g:Goroutine}(h:Job P Pr base K (n+1) i τ v g):g.status = .running:=by
 rcases h with ⟨_,h2⟩|⟨_,_,h3⟩
 ·obtain⟨T,hT⟩:=runT_of h2
  exact hT.running fun _ _ x=>AtX.running x
 ·obtain⟨T,hT⟩:=runM_of h3
  exact hT.running fun _ x=>x.1
theorem meet_run{gs':Array Goroutine}{c:Nat}(h:∀(i:Nat) (g:Goroutine),gs[i]?=some g→offersAt g c true≠[]→∀(j:Nat) (g':Goroutine),gs[j]?=some g'→offersAt g' c false=[])
  (hg:∀(j:Nat) (x:Goroutine),gs'[j]?=some x→gs[j]?=some x∨x.status = .running):∀(i:Nat) (g:Goroutine),gs'[i]?=some g→offersAt g c true≠[]→∀(j:Nat) (g':Goroutine),gs'[j]?=some g'→offersAt g' c false=[]:=fun i g hi ho j g' hj=>by
 rcases hg i g hi with x|x
 ·rcases hg j g' hj with y|y
  ·exact h i g x ho j g' y
  ·exact A2v y _ _
 ·exact absurd (A2v x _ _) ho
theorem PInv.spawn(L:Laws Pr base)(I:PInv P Pr base K S v0 w0 γ vs Ts ns gs w t){i:Nat}{g g' child:Goroutine}{τ σ0 σc:Pr.T}{u v' vc:View}{T Tc:Tree}{n:Nat}(hi:gs[i]?=some g)(hth:Pr.th γ i=some τ)(hu:u.Le (vs i))
    (htr:Pr.tr γ i γ')(hsz:Pr.size γ'=Pr.size γ+1)(ht:Pr.th γ' i=some σ0)(hc:Pr.th γ' (Pr.size γ)=some σc)
    (hd:Pr.deaf τ=0)(hd':Pr.deaf σ0=0)(hdc:Pr.deaf σc=0)(hr:Pr.rel τ=false)(hr':Pr.rel σ0=false)(hrel:Pr.rel σc=false)(hsh:Pr.sh γ'=Pr.sh γ)(hatb:Pr.atb γ'=Pr.atb γ)
    (hus:∀b j,Pr.usr γ' b j→Pr.usr γ b j∨(j=Pr.size γ∧Pr.usr γ b i))(hsay:∀b,Pr.say γ' b=Pr.say γ b∨(Pr.say γ b=i∧Pr.say γ' b=Pr.size γ))
    (htk:∀j,j≠Pr.size γ→Pr.tok γ' j=Pr.tok γ j)(htc:Pr.tok γ' (Pr.size γ) = .own)
    (hv':v'.Le u)(hvc:∀b x,vc b=some x→∃p,u b=some (p,x.2)∧(x.1=true→p=true))(hex:∀b,(v'.Owns b→vc b=none)∧(vc.Owns b→v' b=none))
    (hn:Pr.rank γ'≤n)(hT:Sit P Pr base K i σ0 n T v' g' γ')(hTc:Sit P Pr base K (Pr.size γ) σc n Tc vc child γ')(hg':g'.status = .running)(hch:child.status = .running)
    (hnw:∀j,j≠i→Pr.blocks γ j→Pr.blocks γ' j)(hso:Pr.shut γ'=Pr.shut γ)(fn₁ fn₂:FuncId)(pos₁ pos₂:String) :
    PInv P Pr base K S v0 w0 γ' (upd (upd vs i v') (Pr.size γ) vc) (upd (upd Ts i T) (Pr.size γ) Tc) (upd (upd ns i n) (Pr.size γ) n) ((gs.setIfInBounds i g').push child) w (t++#[{g:=i,fn:=fn₁,pos:=pos₁,act:=.go (Pr.size γ) },{g:=Pr.size γ,fn:=fn₂,pos:=pos₂,act:=.start }]):=by
  have hok':=L.ok I.ok htr
  have hrank:=L.rank I.ok htr
  have hbl:=L.baseLe I.ok
  have hs:=I.size
  obtain⟨hilt,_⟩:=Array.getElem?_eq_some_iff.1 hi
  have hic:i≠Pr.size γ:=oM
  have hoth:∀j,j≠i→j≠Pr.size γ→Pr.th γ' j=Pr.th γ j:=fun j h1 h2=>L.oth I.ok htr j h1 h2
  have hnone:Pr.th γ (Pr.size γ)=none:=by
    cases h:Pr.th γ (Pr.size γ)with
    | none=>rfl
    | some σ=>
      rcases L.lt I.ok h with x|⟨_,x⟩
      · omega
      · omega
  have hdeaf:∀j,Deaf (t++#[({g:=i,fn:=fn₁,pos:=pos₁,act:=.go (Pr.size γ) }:MemOp),{g:=Pr.size γ,fn:=fn₂,pos:=pos₂,act:=.start }]) j=Deaf t j:=fun j=>by
    have:t++#[({g:=i,fn:=fn₁,pos:=pos₁,act:=.go (Pr.size γ) }:MemOp),{g:=Pr.size γ,fn:=fn₂,pos:=pos₂,act:=.start }]=(t++#[({g:=i,fn:=fn₁,pos:=pos₁,act:=.go (Pr.size γ) }:MemOp)])++#[({g:=Pr.size γ,fn:=fn₂,pos:=pos₂,act:=.start }:MemOp)]:=by apply Array.ext';simp
    rw [this,Deaf_push,Deaf_push]
    simp only [deafStep]
  have hvd:∀b,v' b≠none→vs i b≠none:=fun b h=>by
    cases h':v' b with
    | none=>exact absurd h' h
    | some x=>rw [hu _ _ (hv' _ _ h')];simp
  have hvo:∀b,v'.Owns b→(vs i).Owns b:=fun b ⟨o,ho⟩=>⟨o,hu _ _ (hv' _ _ ho)⟩
  have hcd:∀b,vc b≠none→vs i b≠none:=fun b h=>by
    cases h':vc b with
    | none=>exact absurd h' h
    | some x=>
      obtain⟨p,hp,_⟩:=hvc b x h'
      rw [hu _ _ hp];simp
  have hco:∀b,vc.Owns b→(vs i).Owns b:=fun b ⟨o,ho⟩=>by
    obtain⟨p,hp,hp'⟩:=hvc b _ ho
    obtain rfl:=hp' rfl
    exact⟨o,hu _ _ hp⟩
  have hgs:∀j x,((gs.setIfInBounds i g').push child)[j]?=some x→(j=Pr.size γ∧x=child)∨(j=i∧x=g')∨(j≠i∧j≠Pr.size γ∧gs[j]?=some x):=fun j x hx=>by
    rw [Array.getElem?_push]at hx
    simp only [Array.size_setIfInBounds]at hx
    split at hx
    · rename_i e
      exact .inl ⟨oM,(Option.some.inj hx).symm⟩
    · rename_i e
      by_cases h0:j=i
      · subst h0
        rw [Array.getElem?_setIfInBounds_self_of_lt hilt]at hx
        exact .inr (.inl ⟨Y,(Option.some.inj hx).symm⟩)
      · rw [Array.getElem?_setIfInBounds_ne (Ne.symm h0)]at hx
        exact .inr (.inr ⟨h0,oM,hx⟩)
  have hcase:∀j,(j=Pr.size γ∧(upd (upd vs i v') (Pr.size γ) vc) j=vc)∨(j=i∧(upd (upd vs i v') (Pr.size γ) vc) j=v')∨(j≠i∧j≠Pr.size γ∧(upd (upd vs i v') (Pr.size γ) vc) j=vs j):=fun j=>by
    by_cases e:j=Pr.size γ
    · subst e;exact .inl ⟨rfl,upd_same _ _ _⟩
    · by_cases e0:j=i
      · subst e0;exact .inr (.inl ⟨rfl,by rw [upd_ne _ _ e,upd_same]⟩)
      · exact .inr (.inr ⟨e0,e,by rw [upd_ne _ _ e,upd_ne _ _ e0]⟩)
  have hvsc:vs (Pr.size γ)=noView:=I.nov _ hnone
  have hnewd:∀j b,(upd (upd vs i v') (Pr.size γ) vc) j b≠none→vs i b≠none∨vs j b≠none:=fun j b h=>by
    rcases hcase j with ⟨_,e⟩|⟨_,e⟩|⟨_,_,e⟩<;>rw [e]at h
    · exact .inl (hcd b h)
    · exact .inl (hvd b h)
    · exact .inr h
  have hnewo:∀j b,((upd (upd vs i v') (Pr.size γ) vc) j).Owns b→(vs i).Owns b∨(vs j).Owns b:=fun j b h=>by
    rcases hcase j with ⟨_,e⟩|⟨_,e⟩|⟨_,_,e⟩<;>rw [e]at h
    · exact .inl (hco b h)
    · exact .inl (hvo b h)
    · exact .inr h
  refine⟨by simp [hsz,hs],hok',fun j=>?_,fun j x σ hx hσ=>?_,fun j x hx hnn=>?_,meet_run I.meet (fun j x hx=>?_),fun j hj=>?_,fun j=>?_,by rw [hsh];exact I.agreeS,fun j k hjk b hO=>?_,fun j b=>?_,fun j hnn=>?_,fun b hSb=>?_,?_,I.calm,I.tape,I.output,I.os,I.heap,I.keep,fun j b hne=>?_,fun j b hO=>?_,by rw [hsh];exact I.ownS⟩
  · by_cases e:j=Pr.size γ
    · subst e;rw [upd_same];exact hn
    · rw [upd_ne _ _ e]
      by_cases e0:j=i
      · subst e0;rw [upd_same];exact hn
      · rw [upd_ne _ _ e0];have:=I.lev j;omega
  · rcases hgs j x hx with ⟨rfl,rfl⟩|⟨rfl,rfl⟩|⟨h1,h2,h3⟩
    · rw [upd_same,upd_same,upd_same]
      rw [hc]at hσ;cases hσ;exact hTc
    · rw [upd_ne _ _ hic,upd_ne _ _ hic,upd_ne _ _ hic,upd_same,upd_same,upd_same]
      rw [ht]at hσ;cases hσ;exact hT
    · rw [upd_ne _ _ h2,upd_ne _ _ h2,upd_ne _ _ h2,upd_ne _ _ h1,upd_ne _ _ h1,upd_ne _ _ h1]
      rw [hoth j h1 h2]at hσ
      exact(I.sit j x σ h3 hσ).same (hnw j h1) hso
  · rcases hgs j x hx with ⟨rfl,rfl⟩|⟨rfl,rfl⟩|⟨h1,h2,h3⟩
    · rw [hc]at hnn;cases hnn
    · rw [ht]at hnn;cases hnn
    · rw [hoth j h1 h2]at hnn
      obtain⟨q,h4,h5⟩:=I.gone j x h3 hnn
      rw [upd_ne _ _ h2,upd_ne _ _ h1,hdeaf]
      exact⟨q,h4,h5⟩
  · rcases hgs j x hx with ⟨rfl,rfl⟩|⟨rfl,rfl⟩|⟨h1,h2,h3⟩
    · exact .inr hch
    · exact .inr hg'
    · exact .inl h3
  · rw [hdeaf]
    refine I.above j ?_
    simp at hj;omega
  · rcases hcase j with ⟨_,e⟩|⟨_,e⟩|⟨_,_,e⟩<;>rw [e]
    · intro b p o hbo
      obtain⟨p',hp,_⟩:=hvc b _ hbo
      exact I.agree i b p' o (hu _ _ hp)
    · exact(I.agree i).le (hv'.trans hu)
    · exact I.agree j
  · rcases hcase j with ⟨e1,e⟩|⟨e1,e⟩|⟨e1,e1',e⟩<;>rcases hcase k with ⟨e2,f⟩|⟨e2,f⟩|⟨e2,e2',f⟩<;>rw [e]at hO<;>rw [f]
    · exact absurd (e1.trans e2.symm) hjk
    · exact(hex b).2 hO
    · exact I.excl i k (Ne.symm e2) b (hco b hO)
    · exact(hex b).1 hO
    · exact absurd (e1.trans e2.symm) hjk
    · exact I.excl i k (Ne.symm e2) b (hvo b hO)
    · apply Classical.byContradiction
      intro h
      exact hcd b h (I.excl j i e1 b hO)
    · apply Classical.byContradiction
      intro h
      exact hvd b h (I.excl j i e1 b hO)
    · exact I.excl j k hjk b hO
  · rw [hsh]
    apply Classical.byContradiction
    intro h
    simp only [not_or]at h
    rcases hnewd j b h.1 with x|x
    · exact(I.disj i b).elim x h.2
    · exact(I.disj j b).elim x h.2
  · rcases hcase j with ⟨rfl,_⟩|⟨rfl,_⟩|⟨e1,e1',e⟩
    · rw [hc]at hnn;cases hnn
    · rw [ht]at hnn;cases hnn
    · rw [e];exact I.nov j (by rw [←hoth j e1 e1'];exact hnn)
  · obtain⟨h1,h2,h3⟩:=I.shun b hSb
    refine⟨fun j=>?_,by rw [hsh];exact h2,h3⟩
    apply Classical.byContradiction
    intro h
    exact(hnewd j b h).elim (fun x=>x (h1 i)) (fun x=>x (h1 j))
  · exact I.ti.spawn hbl hic hth hd (I.above _ (by rw [I.size];exact Nat.le_refl _)) hvsc ht hc hoth hsz hd' hdc hrel (fun b h=>by rw [hsh]at h;exact h) (fun b=>by rw [hatb]) hus hsay htk htc (hr'.trans hr.symm) hvd hvo hcd hco fn₁ fn₂ pos₁ pos₂
  · rcases hnewd j b hne with x|x
    · exact I.dom i b x
    · exact I.dom j b x
  · rcases hnewo j b hO with x|x
    · exact I.own i b x
    · exact I.own j b x
theorem PInv.turn(I:PInv P Pr base K S v0 w0 γ vs Ts ns gs w t){i:Nat}{g x:Goroutine}{τ:Pr.T}{T:Tree}{gs':Array Goroutine}(hi:gs[i]?=some g)(hth:Pr.th γ i=some τ)(hS:Sit P Pr base K i τ (ns i) T (vs i) x γ)
    (hsz:gs'.size=gs.size)(hx:gs'[i]?=some x)(hoth:∀j,j≠i→gs'[j]?=gs[j]?)
    (hm:∀(a:Nat) (y:Goroutine),gs'[a]?=some y→offersAt y Pr.ch true≠[]→∀(j:Nat) (z:Goroutine),gs'[j]?=some z→offersAt z Pr.ch false=[]) :
    PInv P Pr base K S v0 w0 γ vs (upd Ts i T) ns gs' w t:=by
  refine {I with size:=hsz.trans I.size,meet:=hm,sit:=fun j y σ hy hσ=>?_,gone:=fun j y hy hn=>?_,above:=fun j hj=>I.above j oM }
  · by_cases e:j=i
    · subst e
      rw [hth]at hσ;cases hσ
      rw [hx]at hy;cases hy
      rw [upd_same];exact hS
    · rw [hoth j e]at hy
      rw [upd_ne _ _ e]
      exact I.sit j y σ hy hσ
  · have e:j≠i:=fun e=>by subst e;rw [hth]at hn;cases hn
    rw [hoth j e]at hy
    rw [upd_ne _ _ e]
    exact I.gone j y hy hn
theorem PInv.block(I:PInv P Pr base K S v0 w0 γ vs Ts ns gs w t){i:Nat}{g:Goroutine}{τ:Pr.T}{u:View}(hi:gs[i]?=some g)(hth:Pr.th γ i=some τ)(hT:Ts i = .leaf)(hu:u.Le (vs i))(hs:Pr.snd τ=none)(hr:Pr.rcv τ=false)(hA:AtF P Pr base K (Job P Pr base K (ns i)) i τ u g)(hv:Pr.rel τ=true→vs i=noView)(hbl:Pr.blocks γ i) :
  PInv P Pr base K S v0 w0 γ vs Ts ns ((gs.map (woken P g {g with status:=.blocked } w)).setIfInBounds i {g with status:=.blocked }) w t:=by
 obtain⟨hlt,_⟩:=Array.getElem?_eq_some_iff.1 hi
 have hmap:gs.map (woken P g {g with status:=.blocked } w)=gs:=by
  have:woken P g {g with status:=.blocked } w=id:=by funext x;unfold woken;simp
  rw [this,Array.map_id]
 rw [hmap]
 have hg:∀j x,(gs.setIfInBounds i {g with status:=.blocked })[j]?=some x→gs[j]?=some x∨x={g with status:=.blocked }:=fun j x hx=>by
  by_cases e:j=i
  ·subst e
   rw [Array.getElem?_setIfInBounds_self_of_lt hlt]at hx
   exact .inr (Option.some.inj hx).symm
  ·rw [Array.getElem?_setIfInBounds_ne (Ne.symm e)]at hx
   exact .inl hx
 have hno:∀b,offersAt {g with status:=.blocked } Pr.ch b=[]:=fun b=>by
  unfold offersAt
  simp [hA.2.1]
 have hTs:upd Ts i (.leaf)=Ts:=by
  funext j
  by_cases e:j=i
  ·subst e;rw [upd_same,hT]
  ·rw [upd_ne _ _ e]
 rw [←hTs]
 refine I.turn hi hth (.wait Y hbl u g hu Y hs hr hA hv) sM (Array.getElem?_setIfInBounds_self_of_lt hlt) (fun j hj=>Array.getElem?_setIfInBounds_ne (Ne.symm hj)) fun a y hy ho j z hz=>?_
 rcases hg a y hy with x|rfl
 ·rcases hg j z hz with x'|rfl
  ·exact I.meet a y x ho j z x'
  ·exact hno _
 ·exact absurd (hno _) ho
theorem PInv.muteStep(L:Laws Pr base)(I:PInv P Pr base K S v0 w0 γ vs Ts ns gs w t){i:Nat}{g g':Goroutine}{τ:Pr.T}{T:Tree}(hi:gs[i]?=some g)(hth:Pr.th γ i=some τ)(hT:Sit P Pr base K i τ (ns i) T (vs i) g' γ)(hr:g'.status = .running) :
    PInv P Pr base K S v0 w0 γ vs (upd Ts i T) ns ((gs.map (woken P g g' w)).setIfInBounds i g') w t:=by
  obtain⟨s,hc⟩:=I.chan L
  refine {I with size:=by simpa using I.size,meet:=meet_go hi hr I.meet,sit:=fun j x σ hx hσ=>?_,gone:=fun j x hx hn=>?_,above:=fun j hj=>I.above j (by simpa using hj) }
  · by_cases e:j=i
    · subst e
      rw [hth]at hσ;cases hσ
      rw [get_self hi hx,upd_same]
      exact hT
    · obtain⟨y,hy,rfl⟩:=get_other e hx
      rw [upd_ne _ _ e]
      exact(I.sit j y σ hy hσ).other (fun a b=>absurd a b) hc (fun h=>L.noSnd I.ok h hσ) (fun h=>(L.rcvR I.ok hσ h).1) fun a b=>by rw [a]at b;cases b
  · have e:j≠i:=fun e=>by subst e;rw [hth]at hn;cases hn
    obtain⟨y,hy,rfl⟩:=get_other e hx
    obtain⟨q,h1,h2⟩:=I.gone j y hy hn
    rw [upd_ne _ _ e,woken_quitsD h2]
    exact⟨q,h1,h2⟩
theorem PInv.slip(L:Laws Pr base)(I:PInv P Pr base K S v0 w0 γ vs Ts ns gs w t){i k:Nat}{g g':Goroutine}{es:Array Event}(hi:gs[i]?=some g)(hth:Pr.th γ i=none)(hm:∀e∈es,e.mute=true)(hq:QuitsD P k (deafBehind (Deaf t i) es) g') :
    PInv P Pr base K S v0 w0 γ vs (upd Ts i (Tree.ofNat k)) ns ((gs.map (woken P g g' w)).setIfInBounds i g') w (t++MemOp.ofEvents i g.frame.fn g.frame.place es):=by
  obtain⟨s,hc⟩:=I.chan L
  have hi0:i≠0:=fun e=>by
    obtain⟨τ,h,_⟩:=L.main I.ok
    rw [e,h]at hth;cases hth
  have hmt:∀(a:Nat) (y:Goroutine),((gs.map (woken P g g' w)).setIfInBounds i g')[a]?=some y→offersAt y Pr.ch true≠[]→∀(j:Nat) (z:Goroutine),((gs.map (woken P g g' w)).setIfInBounds i g')[j]?=some z→offersAt z Pr.ch false=[]:=by
    rcases hq.status with h|h
    · exact meet_go hi h I.meet
    · intro a x hx ho j x' hx'
      have key:∀{a x b},((gs.map (woken P g g' w)).setIfInBounds i g')[a]?=some x→offersAt x Pr.ch b≠[]→∃y,gs[a]?=some y∧offersAt y Pr.ch b≠[]:=fun {a x b} hx ho=>by
        by_cases e:a=i
        · subst e
          rw [get_self hi hx]at ho
          exact absurd (offersAt_of_not_blocked (by rw [h];simp) _ _) ho
        · obtain⟨z,hz,rfl⟩:=get_other e hx
          exact⟨z,hz,B0j ho⟩
      obtain⟨z,hz,hzo⟩:=key hx ho
      apply Classical.byContradiction
      intro hne
      obtain⟨z',hz',hzo'⟩:=key hx' hne
      exact hzo' (I.meet a z hz hzo j z' hz')
  refine {I with size:=by simpa using I.size,meet:=hmt,sit:=fun j x σ hx hσ=>?_,gone:=fun j x hx hn=>?_,above:=fun j hj=>?_,ti:=I.ti.slip hth hi0 hm }
  · have e:j≠i:=fun e=>by subst e;rw [hth]at hσ;cases hσ
    obtain⟨y,hy,rfl⟩:=get_other e hx
    rw [upd_ne _ _ e]
    exact(I.sit j y σ hy hσ).other (fun a b=>absurd a b) hc (fun h=>L.noSnd I.ok h hσ) (fun h=>(L.rcvR I.ok hσ h).1) fun a b=>by rw [a]at b;cases b
  · by_cases e:j=i
    · subst e
      rw [get_self hi hx,upd_same,Deaf_own]
      exact⟨k,Y,hq⟩
    · obtain⟨y,hy,rfl⟩:=get_other e hx
      obtain⟨q,h1,h2⟩:=I.gone j y hy hn
      rw [upd_ne _ _ e,woken_quitsD h2,Deaf_other t (g':=i) (Ne.symm e) _ opsG]
      exact⟨q,h1,h2⟩
  · have hji:j≠i:=fun e=>by
      subst e
      have:=(Array.getElem?_eq_some_iff.1 hi).1
      simp at hj;omega
    rw [Deaf_other t (g':=i) (Ne.symm hji) _ opsG]
    exact I.above j (by simpa using hj)
end
section
variable{P:Program}{Pr:Proto}{base:Nat}{K:View→Goroutine→Prop}{S:Nat→Prop}{v0:View}{w0:World}{γ γ':Pr.G}{vs:Nat→View}{Ts:Nat→Tree}{ns:Nat→Nat}{gs:Array Goroutine}{w:World}{t:Trace}
theorem get_two{gs:Array Goroutine}{a b:Nat}{x y:Goroutine}(hab:a≠b)(ha:a<gs.size)(hb:b<gs.size) :
  ((gs.setIfInBounds a x).setIfInBounds b y).size=gs.size∧((gs.setIfInBounds a x).setIfInBounds b y)[a]?=some x∧((gs.setIfInBounds a x).setIfInBounds b y)[b]?=some y∧∀j,j≠a→j≠b→((gs.setIfInBounds a x).setIfInBounds b y)[j]?=gs[j]?:=by
 refine⟨by simp,?_,?_,fun j h1 h2=>?_⟩
 ·rw [Array.getElem?_setIfInBounds_ne (Ne.symm hab),Array.getElem?_setIfInBounds_self_of_lt ha]
 ·rw [Array.getElem?_setIfInBounds_self_of_lt (by simpa using hb)]
 ·rw [Array.getElem?_setIfInBounds_ne (Ne.symm h2),Array.getElem?_setIfInBounds_ne (Ne.symm h1)]
theorem PInv.comm(L:Laws Pr base)(I:PInv P Pr base K S v0 w0 γ vs Ts ns gs w t){a b:Nat}(hab:a≠b){ga gb:Goroutine}{τa τb:Pr.T}{x z z':Value}{ua ub:View}
    (hta:Pr.th γ a=some τa)(htb:Pr.th γ b=some τb)(hla:a<gs.size)(hlb:b<gs.size)(hua:ua.Le (vs a))(hub:ub.Le (vs b))(hA:AtS P Pr (Job P Pr base K (ns a)) a τa ua ga x z)(hB:AtR P Pr (Job P Pr base K (ns b)) b τb ub gb z')
    {s:Nat}(hch:Pr.sh γ Pr.ch=some (true,.chan 0 #[] false s s false)){gs':Array Goroutine}(hsz:gs'.size=gs.size)(hga:gs'[a]?=some (Go.Conc.served ga undef))(hgb:gs'[b]?=some (Go.Conc.served gb (.tuple #[x,.bool true])))
    (hoth:∀j,j≠a→j≠b→gs'[j]?=gs[j]?)(fa fb:FuncId)(pa pb:String) :
    ∃va vb Ta Tb na nb,Pr.rank (Pr.cmm γ a b)<Pr.rank γ∧PInv P Pr base K S v0 w0 (Pr.cmm γ a b) (upd (upd vs a va) b vb) (upd (upd Ts a Ta) b Tb) (upd (upd ns a na) b nb) gs' (w.setChan Pr.ch 0 #[] false (s+1) (s+1) false) (t++met a b fa pa fb pb Pr.ch s 0):=by
  obtain⟨m,u0,ux,hsn,hmsg,hux,hle0,hlex,_,hXa⟩:=hA
  obtain⟨hrc,_,hXb,_⟩:=hB
  obtain⟨c1,c2,c3,c4,c5,c6,c7,c8,c9,c10,c11,c12⟩:=L.cm I.ok hta hsn htb hrc hch
  obtain⟨r1,r2,r3,r4⟩:=L.cmR I.ok hta hsn htb hrc
  obtain⟨_,_,d1⟩:=L.sndR I.ok hta (by rw [hsn];simp)
  obtain⟨_,d2⟩:=L.rcvR I.ok htb hrc
  have hso:Pr.shut γ=false:=by
    obtain⟨s',h'⟩:=L.chS I.ok
    rw [hch]at h'
    simp only [Option.some.injEq,Prod.mk.injEq,Obj.chan.injEq]at h'
    exact h'.2.2.2.1.symm
  have hso':Pr.shut (Pr.cmm γ a b)=false:=by
    obtain⟨s',h'⟩:=L.chS c1
    rw [c7]at h'
    unfold View.set at h'
    rw [if_pos rfl]at h'
    simp only [Option.some.injEq,Prod.mk.injEq,Obj.chan.injEq]at h'
    exact h'.2.2.2.1.symm
  have hlea:u0.Le (vs a):=hle0.trans hua
  have hlex':ux.Le (vs a):=hlex.trans hua
  have hxo:∀c,ux c≠none→(vs a).Owns c:=fun c hc=>by
    obtain⟨o,ho⟩:=(hux c hc).1
    exact⟨o,hlex' _ _ ho⟩
  have hdis:Disj ub ux:=fun c=>by
    cases hc:ux c with
    | none=>exact .inr rfl
    | some y=>
      left
      cases hub':ub c with
      | none=>rfl
      | some q=>
        have:=I.excl a b hab c (hxo c (by rw [hc];simp))
        rw [hub _ _ hub']at this;cases this
  have hXb':=hXb m x ux hmsg ⟨_,c1,c5⟩ (fun c hc=>(hux c hc).1) hdis
  have la:=I.lev a
  have lb:=I.lev b
  obtain⟨na,hna⟩:∃n,ns a=n+1:=⟨ns a-1,oM⟩
  obtain⟨nb,hnb⟩:∃n,ns b=n+1:=⟨ns b-1,oM⟩
  rw [hna]at hXa
  rw [hnb]at hXb'
  obtain⟨Ta,hTa⟩:=A7w hXa (Pr.cmm γ a b)
  obtain⟨Tb,hTb⟩:=A7w hXb' (Pr.cmm γ a b)
  have hra:=A3n hXa
  have hrb:=A3n hXb'
  refine⟨u0,ub.union ux,Ta,Tb,na,nb,c2,?_⟩
  have hchw:=I.agreeS _ _ _ hch
  have hclt:Pr.ch<w.heap.size:=(Array.getElem?_eq_some_iff.1 hchw).1
  have hvch:∀j,vs j Pr.ch=none:=fun j=>(I.disj j Pr.ch).resolve_right (by rw [hch];simp)
  have hne:∀c,c≠Pr.ch→(w.setChan Pr.ch 0 #[] false (s+1) (s+1) false).heap[c]?=w.heap[c]?:=fun c hc=>by
    simp [World.setChan,Array.getElem?_setIfInBounds_ne (Ne.symm hc)]
  have heq:(w.setChan Pr.ch 0 #[] false (s+1) (s+1) false).heap[Pr.ch]?=some (.chan 0 #[] false (s+1) (s+1) false):=by simp [World.setChan,hclt]
  have hws:(w.setChan Pr.ch 0 #[] false (s+1) (s+1) false).heap.size=w.heap.size:=by simp [World.setChan]
  have hsh:∀c,Pr.sh (Pr.cmm γ a b) c≠none→Pr.sh γ c≠none:=fun c h=>by
    rw [c7]at h
    unfold View.set at h
    split at h
    · rename_i e;rw [e,hch];simp
    · exact h
  have hubx:∀c y,(ub.union ux) c=some y→vs b c=some y∨(ux c=some y∧vs a c=some y):=fun c y e=>by
    unfold View.union at e
    split at e
    · rename_i q hq;cases e;exact .inl (hub _ _ hq)
    · exact .inr ⟨e,hlex' _ _ e⟩
  have hcase:∀j,(j=b∧(upd (upd vs a u0) b (ub.union ux)) j=ub.union ux)∨(j=a∧(upd (upd vs a u0) b (ub.union ux)) j=u0)∨(j≠a∧j≠b∧(upd (upd vs a u0) b (ub.union ux)) j=vs j):=fun j=>by
    by_cases e:j=b
    · subst e;exact .inl ⟨rfl,upd_same _ _ _⟩
    · by_cases e0:j=a
      · subst e0;exact .inr (.inl ⟨rfl,by rw [upd_ne _ _ e,upd_same]⟩)
      · exact .inr (.inr ⟨e0,e,by rw [upd_ne _ _ e,upd_ne _ _ e0]⟩)
  have hfrom:∀j c y,(upd (upd vs a u0) b (ub.union ux)) j c=some y→vs a c=some y∨vs b c=some y∨(j≠a∧j≠b∧vs j c=some y):=fun j c y h=>by
    rcases hcase j with ⟨_,e⟩|⟨_,e⟩|⟨h1,h2,e⟩<;>rw [e]at h
    · rcases hubx c y h with q|⟨_,q⟩
      · exact .inr (.inl q)
      · exact .inl q
    · exact .inl (hlea _ _ h)
    · exact .inr (.inr ⟨h1,h2,h⟩)
  have hold:∀j c y,(upd (upd vs a u0) b (ub.union ux)) j c=some y→∃i,vs i c=some y:=fun j c y h=>by
    rcases hfrom j c y h with q|q|⟨_,_,q⟩
    · exact⟨a,q⟩
    · exact⟨b,q⟩
    · exact⟨j,q⟩
  refine⟨hsz.trans (I.size.trans c3.symm),c1,fun j=>?_,fun j y σ hy hσ=>?_,fun j y hy hn=>?_,meet_run I.meet (fun j y hy=>?_),fun j hj=>?_,fun j c p o h=>?_,fun c p o h=>?_,fun j k hjk c hO=>?_,fun j c=>?_,fun j hn=>?_,fun c hSc=>?_,?_,I.calm,I.tape,I.output,I.os,by rw [hws];exact I.heap,fun c hlt hn=>?_,fun j c h=>?_,fun j c hO=>?_,fun c h=>I.ownS c (hsh c h)⟩
  · have:=I.lev j
    by_cases e:j=b
    · subst e;rw [upd_same];omega
    · rw [upd_ne _ _ e]
      by_cases e0:j=a
      · subst e0;rw [upd_same];omega
      · rw [upd_ne _ _ e0];omega
  · by_cases e:j=b
    · subst e
      rw [c5]at hσ;cases hσ
      rw [hgb]at hy;cases hy
      rw [upd_same,upd_same,upd_same]
      exact hTb
    · by_cases e0:j=a
      · subst e0
        rw [c4]at hσ;cases hσ
        rw [hga]at hy;cases hy
        rw [upd_ne _ _ e,upd_ne _ _ e,upd_ne _ _ e,upd_same,upd_same,upd_same]
        exact hTa
      · rw [hoth j e0 e]at hy
        rw [c6 j e0 e]at hσ
        rw [upd_ne _ _ e,upd_ne _ _ e,upd_ne _ _ e,upd_ne _ _ e0,upd_ne _ _ e0,upd_ne _ _ e0]
        exact(I.sit j y σ hy hσ).same (c12 j) (hso'.trans hso.symm)
  · have e:j≠b:=fun e=>by subst e;rw [c5]at hn;cases hn
    have e0:j≠a:=fun e=>by subst e;rw [c4]at hn;cases hn
    rw [hoth j e0 e]at hy
    rw [c6 j e0 e]at hn
    obtain⟨q,h1,h2⟩:=I.gone j y hy hn
    rw [upd_ne _ _ e,upd_ne _ _ e0,Deaf_quiet (met_quiet a b fa pa fb pb Pr.ch s 0 j)]
    exact⟨q,h1,h2⟩
  · by_cases e:j=b
    · subst e;rw [hgb]at hy;cases hy;exact .inr hrb
    · by_cases e0:j=a
      · subst e0;rw [hga]at hy;cases hy;exact .inr hra
      · rw [hoth j e0 e]at hy;exact .inl hy
  · rw [Deaf_quiet (met_quiet a b fa pa fb pb Pr.ch s 0 j)]
    exact I.above j oM
  · obtain⟨i,q⟩:=hold j c _ h
    have hcc:c≠Pr.ch:=fun e=>by rw [e,hvch]at q;cases q
    rw [hne c hcc]
    exact I.agree i c p o q
  · rw [c7]at h
    unfold View.set at h
    split at h
    · rename_i e;subst e;cases h;exact heq
    · rename_i e
      rw [hne c e]
      exact I.agreeS c p o h
  · apply Classical.byContradiction
    intro hk
    obtain⟨o,ho⟩:=hO
    cases hy:(upd (upd vs a u0) b (ub.union ux)) k c with
    | none=>exact hk hy
    | some y=>
      -- who had it
      have ho':∃i,(vs i).Owns c∧(i=j∨(i=a∧j=b∧ux c≠none)):=by
        rcases hcase j with ⟨rfl,e⟩|⟨rfl,e⟩|⟨_,_,e⟩<;>rw [e]at ho
        · rcases hubx c _ ho with q|⟨q1,q⟩
          · exact⟨j,⟨o,q⟩,.inl Y⟩
          · exact⟨a,⟨o,q⟩,.inr ⟨Y,Y,by rw [q1];simp⟩⟩
        · exact⟨j,⟨o,hlea _ _ ho⟩,.inl Y⟩
        · exact⟨j,⟨o,ho⟩,.inl Y⟩
      have hy':∃i,vs i c≠none∧(i=k∨(i=a∧k=b∧ux c≠none)):=by
        rcases hcase k with ⟨rfl,e⟩|⟨rfl,e⟩|⟨_,_,e⟩<;>rw [e]at hy
        · rcases hubx c _ hy with q|⟨q1,q⟩
          · exact⟨k,by rw [q];simp,.inl Y⟩
          · exact⟨a,by rw [q];simp,.inr ⟨Y,Y,by rw [q1];simp⟩⟩
        · exact⟨k,by rw [hlea _ _ hy];simp,.inl Y⟩
        · exact⟨k,by rw [hy];simp,.inl Y⟩
      obtain⟨i,hi1,hi2⟩:=ho'
      obtain⟨i',hi1',hi2'⟩:=hy'
      have hii:i=i':=Classical.byContradiction fun hne'=>hi1' (I.excl i i' hne' c hi1)
      subst hii
      have hu0:ux c≠none→u0 c=none:=fun h=>(hux c h).2
      rcases hi2 with rfl|⟨rfl,rfl,h1⟩<;>rcases hi2' with rfl|⟨h2,rfl,h3⟩
      · exact hjk Y
      · -- j=a keeps it,k=b got it
        subst h2
        rcases hcase i with ⟨e1,e⟩|⟨_,e⟩|⟨e1,_,e⟩
        · exact hab e1
        · rw [e,hu0 h3]at ho;cases ho
        · exact e1 Y
      · rcases hcase i with ⟨e1,e⟩|⟨_,e⟩|⟨e1,_,e⟩
        · exact hab e1
        · rw [e,hu0 h1]at hy;cases hy
        · exact e1 Y
      · exact hjk Y
  · apply Classical.byContradiction
    intro h
    simp only [not_or]at h
    cases hy:(upd (upd vs a u0) b (ub.union ux)) j c with
    | none=>exact h.1 hy
    | some y=>
      obtain⟨i,q⟩:=hold j c y hy
      exact(I.disj i c).elim (fun e=>by rw [e]at q;cases q) (hsh c h.2)
  · have e:j≠b:=fun e=>by subst e;rw [c5]at hn;cases hn
    have e0:j≠a:=fun e=>by subst e;rw [c4]at hn;cases hn
    rw [upd_ne _ _ e,upd_ne _ _ e0]
    exact I.nov j (by rw [←c6 j e0 e];exact hn)
  · obtain⟨h1,h2,h3⟩:=I.shun c hSc
    refine⟨fun j=>?_,Classical.byContradiction fun h=>hsh c h h2,by rw [hws];exact h3⟩
    cases hy:(upd (upd vs a u0) b (ub.union ux)) j c with
    | none=>rfl
    | some y=>
      obtain⟨i,q⟩:=hold j c y hy
      rw [h1 i]at q;cases q
  · rw [hws]
    exact I.ti.comm hab hta htb d1 d2 c4 c5 r2 r4 r1 r3 c6 c3 hsh c8 c9 c10 c11 hlea hlex' hub fa pa fb pb hclt
  · have hcc:c≠Pr.ch:=fun e=>by
      rcases I.ownS Pr.ch (by rw [hch];simp)with q|q
      · exact hn (e ▸ q)
      · omega
    rw [hne c hcc]
    exact I.keep c hlt hn
  · cases hy:(upd (upd vs a u0) b (ub.union ux)) j c with
    | none=>exact absurd hy h
    | some y=>
      obtain⟨i,q⟩:=hold j c y hy
      exact I.dom i c (by rw [q];simp)
  · obtain⟨o,ho⟩:=hO
    obtain⟨i,q⟩:=hold j c _ ho
    exact I.own i c ⟨o,q⟩
theorem PInv.found(L:Laws Pr base)(I:PInv P Pr base K S v0 w0 γ vs Ts ns gs w t){b:Nat}{gb:Goroutine}{τb:Pr.T}{z:Value}{ub:View}(htb:Pr.th γ b=some τb)(hlb:b<gs.size)(hub:ub.Le (vs b))(hB:AtR P Pr (Job P Pr base K (ns b)) b τb ub gb z)(hso:Pr.shut γ=true)(fb:FuncId)(pb:String) :
  ∃Tb nb,Pr.rank (Pr.fnd γ b)<Pr.rank γ∧PInv P Pr base K S v0 w0 (Pr.fnd γ b) (upd vs b ub) (upd Ts b Tb) (upd ns b nb) (gs.setIfInBounds b (Go.Conc.served gb (.tuple #[z,.bool false]))) w (t++#[{g:=b,fn:=fb,pos:=pb,act:=.recvClosed Pr.ch }]):=by
 obtain⟨hrc,_,_,hXb⟩:=hB
 obtain⟨c1,c2,c3,c4,c5,c6,c7,c8,c9,c10,c11,c12⟩:=L.fd I.ok htb hrc hso
 obtain⟨r1,r2⟩:=L.fdR I.ok htb hrc
 obtain⟨_,d2⟩:=L.rcvR I.ok htb hrc
 have lb:=I.lev b
 obtain⟨nb,hnb⟩:∃n,ns b=n+1:=⟨ns b-1,oM⟩
 rw [hnb]at hXb
 obtain⟨Tb,hTb⟩:=A7w hXb (Pr.fnd γ b)
 have hrb:=A3n hXb
 refine⟨Tb,nb,c2,?_⟩
 obtain⟨s,hch⟩:=L.chS I.ok
 have hchw:=I.agreeS _ _ _ hch
 have hclt:Pr.ch<w.heap.size:=(Array.getElem?_eq_some_iff.1 hchw).1
 have hq:∀g,∀op∈(#[{g:=b,fn:=fb,pos:=pb,act:=.recvClosed Pr.ch }]:Trace),∀d,deafStep g d op=d:=by
  intro g op hop d
  simp only [List.mem_toArray,List.mem_cons,List.not_mem_nil,or_false]at hop
  subst hop;rfl
 have hge:∀j x,(gs.setIfInBounds b (Go.Conc.served gb (.tuple #[z,.bool false])))[j]?=some x→(j=b∧x=Go.Conc.served gb (.tuple #[z,.bool false]))∨(j≠b∧gs[j]?=some x):=fun j x hx=>by
  by_cases e:j=b
  ·subst e
   rw [Array.getElem?_setIfInBounds_self_of_lt hlb]at hx
   exact .inl ⟨Y,(Option.some.inj hx).symm⟩
  ·rw [Array.getElem?_setIfInBounds_ne (Ne.symm e)]at hx
   exact .inr ⟨e,hx⟩
 have hold:∀j c y,upd vs b ub j c=some y→vs j c=some y:=fun j c y h=>by
  by_cases e:j=b
  ·subst e;rw [upd_same]at h;exact hub _ _ h
  ·rw [upd_ne _ _ e]at h;exact h
 have holdn:∀j c,upd vs b ub j c≠none→vs j c≠none:=fun j c h=>by
  cases hy:upd vs b ub j c with
  | none=>exact absurd hy h
  | some y=>rw [hold j c y hy];simp
 refine⟨by simpa [c3]using I.size,c1,fun j=>?_,fun j y σ hy hσ=>?_,fun j y hy hn=>?_,meet_run I.meet (fun j y hy=>?_),fun j hj=>?_,fun j c p o h=>I.agree j c p o (hold j c _ h),by rw [c6];exact I.agreeS,fun j k hjk c hO=>?_,fun j c=>?_,fun j hn=>?_,fun c hSc=>?_,?_,I.calm,I.tape,I.output,I.os,I.heap,I.keep,fun j c h=>I.dom j c (holdn j c h),fun j c ⟨o,ho⟩=>I.own j c ⟨o,hold j c _ ho⟩,by rw [c6];exact I.ownS⟩
 ·have:=I.lev j
  by_cases e:j=b
  ·subst e;rw [upd_same];omega
  ·rw [upd_ne _ _ e];omega
 ·rcases hge j y hy with ⟨rfl,rfl⟩|⟨e,h⟩
  ·rw [c4]at hσ;cases hσ
   rw [upd_same,upd_same,upd_same]
   exact hTb
  ·rw [c5 j e]at hσ
   rw [upd_ne _ _ e,upd_ne _ _ e,upd_ne _ _ e]
   exact(I.sit j y σ h hσ).same (c11 j) (c12.trans hso.symm)
 ·rcases hge j y hy with ⟨rfl,rfl⟩|⟨e,h⟩
  ·rw [c4]at hn;cases hn
  ·rw [c5 j e]at hn
   obtain⟨q,h1,h2⟩:=I.gone j y h hn
   rw [upd_ne _ _ e,Deaf_quiet (hq j)]
   exact⟨q,h1,h2⟩
 ·rcases hge j y hy with ⟨rfl,rfl⟩|⟨e,h⟩
  ·exact .inr hrb
  ·exact .inl h
 ·rw [Deaf_quiet (hq j)]
  exact I.above j (by simpa using hj)
 ·obtain⟨o,ho⟩:=hO
  have:=I.excl j k hjk c ⟨o,hold j c _ ho⟩
  apply Classical.byContradiction
  intro h
  exact holdn k c h this
 ·rw [c6]
  apply Classical.byContradiction
  intro h
  simp only [not_or]at h
  exact(I.disj j c).elim (holdn j c h.1) h.2
 ·have e:j≠b:=fun e=>by subst e;rw [c4]at hn;cases hn
  rw [upd_ne _ _ e]
  exact I.nov j (by rw [←c5 j e];exact hn)
 ·obtain⟨h1,h2,h3⟩:=I.shun c hSc
  refine⟨fun j=>Classical.byContradiction fun h=>holdn j c h (h1 j),by rw [c6];exact h2,h3⟩
 ·exact I.ti.found htb d2 c4 r2 r1 c5 c3 (fun c h=>by rw [c6]at h;exact h) c7 c8 c9 c10 hub fb pb hclt
end
end Go.Pal.K
end
