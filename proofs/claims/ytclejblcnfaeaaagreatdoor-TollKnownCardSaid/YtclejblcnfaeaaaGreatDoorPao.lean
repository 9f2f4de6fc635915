/- Part 15. -/
import Derived.Test.YtclejblcnfaeaaaGreatDoorPan
set_option linter.all false
section
namespace Go.Pal.K
open Go Go.Conc Go.Pal View
open Go.ConcN (sumTo upd sumTo_upd upd_ne upd_same sumTo_congr)
section
variable{P:Program}{Pr:Proto}{base:Nat}{K:View→Goroutine→Prop}{S:Nat→Prop}{v0:View}{w0:World}{γ γ':Pr.G}{vs:Nat→View}{Ts:Nat→Tree}{ns:Nat→Nat}{gs:Array Goroutine}{w:World}{t:Trace}
def AtOver(P:Program)(Pr:Proto)(base:Nat)(K:View→Goroutine→Prop)(S:Nat→Prop)(v0:View)(w0:World)(m:Machine)(t:Trace):Prop:=
 ∃(γ:Pr.G) (vs:Nat→View) (Ts:Nat→Tree) (ns:Nat→Nat) (gs:Array Goroutine) (w:World) (sl:Option (Nat×Nat)) (u:View) (g:Goroutine),m=crowd gs w sl∧PInv P Pr base K S v0 w0 γ vs Ts ns gs w t∧gs[0]?=some g∧Pr.over γ∧u.Le (vs 0)∧K (u.union (Proto.rest Pr γ)) g
theorem runs_set{i:Nat}{g x:Goroutine}(hi:gs[i]?=some g)(hr:g.status = .running)(hx:x.status = .blocked):A6w (gs.setIfInBounds i x)<A6w gs:=by
 obtain⟨hlt,_⟩:=Array.getElem?_eq_some_iff.1 hi
 unfold A6w
 simp only [Array.size_setIfInBounds]
 let f:Nat→Nat:=fun j=>runB gs[j]?
 have h1:=sumTo_upd f 0 id hlt
 have h2:f i=1:=by simp [f,hi,hr,runB]
 have h3:sumTo gs.size (fun j=>runB (gs.setIfInBounds i x)[j]?)=sumTo gs.size (fun a=>id (upd f i 0 a)):=by
  refine sumTo_congr fun j _=>?_
  by_cases e:j=i
  ·subst e
   rw [upd_same,Array.getElem?_setIfInBounds_self_of_lt hlt]
   simp [runB,hx]
  ·rw [upd_ne f 0 e,Array.getElem?_setIfInBounds_ne (Ne.symm e)]
   rfl
 rw [h3]
 simp only [id]at h1⊢
 rw [h2]at h1
 show sumTo gs.size (fun a=>upd f i 0 a)<sumTo gs.size (fun a=>f a)
 omega
theorem pinv_awake(I:PInv P Pr base K S v0 w0 γ vs Ts ns gs w t):∀x∈gs,awake x:=by
 intro x hx
 obtain⟨j,hj,rfl⟩:=Array.mem_iff_getElem.1 hx
 cases h:Pr.th γ j with
 | some τ=>
  rcases (I.sit j gs[j] τ (Array.getElem?_eq_getElem hj) h).status with e|e<;>intro y<;>rw [e]<;>simp
 | none=>
  obtain⟨q,_,h2⟩:=I.gone j gs[j] (Array.getElem?_eq_getElem hj) h
  rcases h2.status with e|e<;>intro y<;>rw [e]<;>simp
theorem A9q(I:PInv P Pr base K S v0 w0 γ vs Ts ns gs w t){j:Nat}{x:Goroutine}(hj:gs[j]?=some x)(ho:offersAt x Pr.ch true≠[]) :
  ∃(σ:Pr.T) (u:View) (g₀:Goroutine) (y z:Value),Pr.th γ j=some σ∧u.Le (vs j)∧Ts j = .leaf∧x=parked g₀ #[scase Pr.ch y z] .send∧AtS P Pr (Job P Pr base K (ns j)) j σ u g₀ y z:=by
 cases h:Pr.th γ j with
 | none=>
  obtain⟨q,_,h2⟩:=I.gone j x hj h
  exact absurd (offersAt_of_not_blocked (by rcases h2.status with e|e<;>rw [e]<;>simp) _ _) ho
 | some σ=>
  cases I.sit j x σ hj h with
  | run h1 h2=>exact absurd (A2v (h2.running fun _ _ x=>AtX.running x) _ _) ho
  | still h1 h2 h3=>exact absurd (A2v (h3.running fun _ x=>x.1) _ _) ho
  | wait hT hb u g₀ hl hg h1 h2 hA hv=>
   subst hg
   refine absurd ?_ ho
   unfold offersAt
   simp [hA.2.1]
  | put hT u g₀ y z hl hg hA=>exact⟨σ,u,g₀,y,z,rfl,hl,hT,hg,hA⟩
  | take hT u g₀ z hl hg hso hA=>subst hg;exact absurd (offersAt_parked_recv' g₀ Pr.ch z _ Pr.ch) ho
theorem B1t(I:PInv P Pr base K S v0 w0 γ vs Ts ns gs w t){j:Nat}{x:Goroutine}(hj:gs[j]?=some x)(ho:offersAt x Pr.ch false≠[]) :
  ∃(σ:Pr.T) (u:View) (g₀:Goroutine) (z:Value),Pr.th γ j=some σ∧u.Le (vs j)∧Ts j = .leaf∧x=parked g₀ #[rcase Pr.ch z] (.recv true)∧Pr.shut γ=false∧AtR P Pr (Job P Pr base K (ns j)) j σ u g₀ z:=by
 cases h:Pr.th γ j with
 | none=>
  obtain⟨q,_,h2⟩:=I.gone j x hj h
  exact absurd (offersAt_of_not_blocked (by rcases h2.status with e|e<;>rw [e]<;>simp) _ _) ho
 | some σ=>
  cases I.sit j x σ hj h with
  | run h1 h2=>exact absurd (A2v (h2.running fun _ _ x=>AtX.running x) _ _) ho
  | still h1 h2 h3=>exact absurd (A2v (h3.running fun _ x=>x.1) _ _) ho
  | wait hT hb u g₀ hl hg h1 h2 hA hv=>
   subst hg
   refine absurd ?_ ho
   unfold offersAt
   simp [hA.2.1]
  | put hT u g₀ y z hl hg hA=>subst hg;exact absurd (offersAt_parked_send' g₀ Pr.ch y z _ Pr.ch) ho
  | take hT u g₀ z hl hg hso hA=>exact⟨σ,u,g₀,z,rfl,hl,hT,hg,hso,hA⟩
theorem some_runs(hb:0<base)(L:Laws Pr base)(I:PInv P Pr base K S v0 w0 γ vs Ts ns gs w t):∃(i:Nat) (g:Goroutine),gs[i]?=some g∧g.status = .running:=by
 have hin:∀{j τ},Pr.th γ j=some τ→j<gs.size:=fun {j τ} h=>by
  rw [I.size]
  rcases L.lt I.ok h with x|x
  ·have:=L.baseLe I.ok;omega
  ·exact x.2
 obtain⟨i,τ,h1,h2⟩:=L.live I.ok
 have hi:=Array.getElem?_eq_getElem (hin h1)
 have hs:=I.sit i _ τ hi h1
 rcases h2 with ⟨h2,h3,h4⟩|⟨h2,h3⟩
 ·refine⟨i,_,hi,?_⟩
  cases hs with
  | run _ h=>exact h.running fun _ _ x=>AtX.running x
  | still _ _ h=>exact h.running fun _ x=>x.1
  | wait _ hb=>exact absurd hb h4
  | put _ _ _ _ _ _ _ hA=>obtain⟨m,u0,ux,e,_⟩:=hA;rw [h2]at e;cases e
  | take _ _ _ _ _ _ _ hA=>rw [hA.1]at h3;cases h3
 ·cases hs with
  | run _ h=>exact⟨i,_,hi,h.running fun _ _ x=>AtX.running x⟩
  | still _ _ h=>exact⟨i,_,hi,h.running fun _ x=>x.1⟩
  | wait _ _ _ _ _ _ _ hr=>rw [h2]at hr;cases hr
  | put _ _ _ _ _ _ _ hA=>
   obtain⟨m,u0,ux,e,_⟩:=hA
   rw [(L.sndR I.ok h1 (by rw [e];simp)).1]at h2;cases h2
  | take hT u g₀ z hl hg ho hA=>
   rcases h3 with h3|⟨j,σ,h3,h4⟩
   ·rw [ho]at h3;cases h3
   ·have hj:=Array.getElem?_eq_getElem (hin h3)
    refine⟨j,_,hj,?_⟩
    cases I.sit j _ σ hj h3 with
    | run _ h=>exact h.running fun _ _ x=>AtX.running x
    | still _ _ h=>exact h.running fun _ x=>x.1
    | wait _ _ _ _ _ _ hs=>exact absurd hs h4
    | put _ _ g₁ y z' _ hg'=>
     exfalso
     have e1:offersAt (gs[j]'(hin h3)) Pr.ch true≠[]:=by rw [hg',offersAt_parked_send,if_pos rfl];simp
     have e2:offersAt (gs[i]'(hin h1)) Pr.ch false≠[]:=by rw [hg,offersAt_parked_recv,if_pos rfl];simp
     exact e2 (I.meet j _ hj e1 i _ hi)
    | take _ _ _ _ _ _ _ hA'=>
     exfalso
     have:=hA'.1
     rw [(L.sndR I.ok h3 h4).1]at this
     cases this
theorem A7v{i j:Nat}{x:Goroutine}(h:(gs.setIfInBounds i ph)[j]?=some x)(r:Nat)(b:Bool)(ho:offersAt x r b≠[]):j≠i∧gs[j]?=some x:=by
 rcases getElem?_stand gs i j x h with ⟨_,rfl⟩|h
 ·exact absurd (offersAt_ph r b) ho
 ·exact h
theorem A8h{g g₀:Goroutine}{cs cs':Array CommCase}{sh sh':CommShape}(h:parked g cs sh=parked g₀ cs' sh')(y:Value):Go.Conc.served g y=Go.Conc.served g₀ y:=
 show Go.Conc.served (parked g cs sh) y=Go.Conc.served (parked g₀ cs' sh') y from by rw [h]
theorem B0i{g g₀:Goroutine}{cs cs':Array CommCase}{sh sh':CommShape}(h:parked g cs sh=parked g₀ cs' sh'):cs=cs'∧sh=sh':=by
 have:=congrArg Goroutine.offers h
 simp only [parked,Option.some.injEq,Prod.mk.injEq]at this
 exact this
theorem upd_id{α:Type}{f:Nat→α}{i:Nat}{x:α}(h:f i=x):upd f i x=f:=by
 funext j
 by_cases e:j=i
 ·subst e;rw [upd_same,h]
 ·rw [upd_ne _ _ e]
theorem pinv_step(hb:0<base)(L:Laws Pr base)(hwk:∀{γ i γ'},Pr.ok γ→Pr.tr γ i γ'→Pr.size γ'=Pr.size γ+1→(∀j,j≠i→Pr.blocks γ j→Pr.blocks γ' j)∧Pr.shut γ'=Pr.shut γ)(sl:Option (Nat×Nat))(I:PInv P Pr base K S v0 w0 γ vs Ts ns gs w t) :
  AtOver P Pr base K S v0 w0 (crowd gs w sl) t∨∃γ' vs' Ts' ns' gs' w' sl' ops,stepT P (crowd gs w sl)=(.next (crowd gs' w' sl'),ops)∧PInv P Pr base K S v0 w0 γ' vs' Ts' ns' gs' w' (t++ops)∧
   Below (Pr.rank γ',rowT gs'.size Ts',A6w gs') (Pr.rank γ,rowT gs.size Ts,A6w gs):=by
 obtain⟨i,g,d,sl',hi,hg,hst⟩:=crowd_pick (P:=P) (w:=w) (sl:=sl) (pinv_awake I) (some_runs hb L I)
 have Id:=I.at d
 have hilt:i<gs.size:=(Array.getElem?_eq_some_iff.1 hi).1
 cases hth:Pr.th γ i with
 | none=>
  obtain⟨q,hq1,hq2⟩:=I.gone i g hi hth
  have hi0:i≠0:=fun e=>by
   obtain⟨τ,h,_⟩:=L.main I.ok
   rw [e,h]at hth;cases hth
  cases q with
  | zero=>rw [hq2.1]at hg;cases hg
  | succ k=>
   rcases hq2 with ⟨hf,_⟩|⟨_,g',es,hm,hstp,hq'⟩
   ·rw [hf]at hg;cases hg
   have hrunT:=runT_crowd_go (P:=P) (sl:=sl') (i:=i) hi (by rw [show(i==0)=false by simpa using hi0];exact hstp (w.at d))
   refine .inr ⟨γ,vs,_,ns,_,_,sl',_,hst.trans hrunT,Id.slip L hi hth hm hq',.inr ⟨Y,.inl ?_⟩⟩
   simp only [Array.size_setIfInBounds,Array.size_map]
   refine LL.upd ?_ hilt
   rw [hq1]
   exact .sub (fun _=>Tree.ofNat k) (w.at d)
 | some τ=>
  -- at a stop on what is shared
  have atStop:∀u,u.Le (vs i)→Ts i = .leaf→(Pr.rel τ=true→vs i=noView)→Pr.snd τ=none→Pr.rcv τ=false→AtF P Pr base K (Job P Pr base K (ns i)) i τ u g→
    AtOver P Pr base K S v0 w0 (crowd gs w sl) t∨∃γ' vs' Ts' ns' gs' w' sl' ops,stepT P (crowd gs w sl)=(.next (crowd gs' w' sl'),ops)∧PInv P Pr base K S v0 w0 γ' vs' Ts' ns' gs' w' (t++ops)∧
     Below (Pr.rank γ',rowT gs'.size Ts',A6w gs') (Pr.rank γ,rowT gs.size Ts,A6w gs):=by
   intro u hu hT hv hsn hrc hA
   obtain⟨_,hoff,hwake,hstop⟩:=hA
   have hdisj:Disj u (Pr.sh γ):=fun b=>(I.disj i b).imp (fun e=>by
    cases hub:u b with
    | none=>rfl
    | some x=>rw [hu _ _ hub]at e;cases e) id
   obtain⟨hblk,hgo⟩:=hstop γ (w.at d) I.ok hth ((Id.agree i).le hu) Id.agreeS hdisj Id.calm
   by_cases hbl:Pr.blocks γ i
   ·have hrunT:=runT_crowd_go (P:=P) (sl:=sl') (i:=i) hi (hblk hbl)
    have hI:=Id.block hi hth hT hu hsn hrc ⟨hg,hoff,hwake,hstop⟩ hv hbl
    refine .inr ⟨γ,vs,Ts,ns,_,_,sl',_,hst.trans hrunT,?_,.inr ⟨Y,.inr ⟨?_,?_⟩⟩⟩
    ·rw [ofEvents_none,Array.append_empty];exact hI
    ·simp
    ·exact runs_block hi hg Y fun x=>by unfold woken;simp
   ·cases hgo hbl with
    | on γ' τ' u' g' w' es h hS ht hr hx=>
     have hrk:=L.rank I.ok hS.tr
     have hns:=I.lev i
     obtain⟨m,hm⟩:∃m,ns i=m+1:=⟨ns i-1,oM⟩
     rw [hm]at hx
     obtain⟨T,hSit⟩:=A7w hx γ'
     have hrunT:=runT_crowd_go (P:=P) (sl:=sl') (i:=i) hi h
     exact .inr ⟨γ',_,_,_,_,_,sl',_,hst.trans hrunT,Id.syncStep hb L hi hth hu hwake (A3n hx) hS (n:=m) oM (.inl ⟨τ',ht,hSit⟩),.inl hrk⟩
    | quit γ' g' w' es q hi0 h hs hS ht hq=>
     have hrk:=L.rank I.ok hS.tr
     have hns:=I.lev i
     have hrunT:=runT_crowd_go (P:=P) (sl:=sl') (i:=i) hi (by rw [show(i==0)=false by simpa using hi0];exact h)
     exact .inr ⟨γ',_,_,_,_,_,sl',_,hst.trans hrunT,Id.syncStep hb L hi hth hu hwake hs hS (n:=ns i) oM (.inr ⟨hi0,ht,Y,q,Y,hq⟩),.inl hrk⟩
    | spawn γ' τ' τc u' uc g' child h htr hsz ht hc hd hd' hdc hr hr' hrel hsh hatb hus hsay htk htc hu' huc hex hx hxc=>
     have hrk:=L.rank I.ok htr
     have hns:=I.lev i
     obtain⟨m,hm⟩:∃m,ns i=m+1:=⟨ns i-1,oM⟩
     rw [hm]at hx hxc
     obtain⟨T,hSit⟩:=A7w hx γ'
     obtain⟨Tc,hSitc⟩:=A7w hxc γ'
     obtain⟨hw1,hw2⟩:=hwk I.ok htr hsz
     have hrunT:=runT_crowd_spawn (P:=P) (sl:=sl') (i:=i) hi h
     refine .inr ⟨γ',upd (upd vs i u') (Pr.size γ) uc,upd (upd Ts i T) (Pr.size γ) Tc,upd (upd ns i m) (Pr.size γ) m,_,_,sl',_,hst.trans hrunT,?_,.inl hrk⟩
     have:=Id.spawn L hi hth hu htr hsz ht hc hd hd' hdc hr hr' hrel hsh hatb hus hsay htk htc hu' huc hex (n:=m) oM hSit hSitc (A3n hx) (A3n hxc) hw1 hw2 g.frame.fn child.frame.fn g.frame.place g.frame.place
     rw [ofEvents_none,I.size]
     exact this
    | over hi0 h hk=>
     subst hi0
     exact .inl ⟨γ,vs,Ts,ns,gs,w,sl,u,g,Y,I,hi,h,hu,hk⟩
  obtain⟨s,hch⟩:=L.chS I.ok
  have hchw:(w.at d).heap[Pr.ch]?=some (.chan 0 #[] (Pr.shut γ) s s false):=Id.agreeS _ _ _ hch
  cases I.sit i g τ hi hth with
  | run h1 h2=>
   cases hT:Ts i with
   | leaf=>
    rw [hT]at h2
    obtain⟨u,hu,hA⟩:=h2
    have hTs:upd Ts i .leaf=Ts:=upd_id hT
    rcases hA with ⟨e1,e2,hA⟩|⟨_,x,z,hA⟩|⟨_,z,hA⟩
    ·exact atStop u hu hT (fun e=>by rw [h1]at e;cases e) e1 e2 hA
    ·-- it sends
     have hso:Pr.shut γ=false:=by
      cases e:Pr.shut γ with
      | false=>rfl
      | true=>
       obtain⟨m,u0,ux,hsn,_⟩:=hA
       rw [L.noSnd I.ok e hth]at hsn;cases hsn
     rw [hso]at hchw hch
     have hstep:stepG P (i==0) g (w.at d) = .comm (core g) #[scase Pr.ch x z] true .send (w.at d) #[]:=by
      obtain⟨m,u0,ux,_,_,_,_,_,h,_⟩:=hA
      exact h _ ((Id.agree i).le hu)
     by_cases hp:partners (gs.setIfInBounds i ph) Pr.ch false=[]
     ·have hrunT:=crowd_waits (sl:=sl') hi hstep (fun cc hcc=>by
       simp only [List.mem_toArray,List.mem_singleton]at hcc
       subst hcc
       exact ways_send_none hchw (Nat.le_refl 0) hp)
      refine .inr ⟨γ,vs,Ts,ns,_,_,sl',_,hst.trans hrunT,?_,.inr ⟨Y,.inr ⟨by simp,runs_set hi hg Y⟩⟩⟩
      rw [ofEvents_none,Array.append_empty,←hTs]
      refine Id.turn hi hth (.put Y u g x z hu Y hA) sM (Array.getElem?_setIfInBounds_self_of_lt hilt) (fun j hj=>Array.getElem?_setIfInBounds_ne (Ne.symm hj)) fun a y hy ho j y' hy'=>?_
      by_cases e:j=i
      ·subst e
       rw [Array.getElem?_setIfInBounds_self_of_lt hilt]at hy'
       cases hy'
       exact offersAt_parked_send' (core g) Pr.ch x z _ Pr.ch
      ·rw [Array.getElem?_setIfInBounds_ne (Ne.symm e)]at hy'
       apply Classical.byContradiction
       intro hne
       obtain⟨k,hk⟩:=List.exists_mem_of_ne_nil _ hne
       have:(j,k)∈partners (gs.setIfInBounds i ph) Pr.ch false:=mem_partners.2 ⟨y',by rw [Array.getElem?_setIfInBounds_ne (Ne.symm e)];exact hy',hk⟩
       rw [hp]at this;cases this
     ·obtain⟨j,gj,zj,shj,d',hij,hj,hrunT⟩:=crowd_send_meets_some (sl:=sl') hi hstep hchw hp (fun j k hjk=>by
       obtain⟨y,hy,hk⟩:=mem_partners.1 hjk
       obtain⟨hji,hy⟩:=A7v hy Pr.ch false (List.ne_nil_of_mem hk)
       obtain⟨σ,u',g₀,z',_,_,_,rfl,_,_⟩:=B1t I hy (List.ne_nil_of_mem hk)
       rw [offersAt_parked_recv,if_pos rfl]at hk
       exact⟨by simpa using hk,hji,g₀,z',_,hy⟩)
      have hoj:offersAt (parked gj #[rcase Pr.ch zj] shj) Pr.ch false≠[]:=by rw [offersAt_parked_recv,if_pos rfl];simp
      obtain⟨σ,u',g₀,z',hσ,hu',hT',he,_,hB⟩:=B1t I hj hoj
      obtain⟨_,rfl⟩:=B0i he
      have hjlt:j<gs.size:=(Array.getElem?_eq_some_iff.1 hj).1
      obtain⟨q1,q2,q3,q4⟩:=get_two (x:=gj.finishComm P #[rcase Pr.ch zj] (.recv true) 0 x true) (y:=(core g).finishComm P #[scase Pr.ch x z] .send 0 undef false) hij hjlt hilt
      obtain⟨va,vb,Ta,Tb,na,nb,hrk,hI⟩:=(Id.at d').comm L (Ne.symm hij) hth hσ hilt hjlt hu hu' hA hB hch q1 q3 (by rw [q2,finishComm_recv];exact congrArg some (A8h he _)) (fun k h1 h2=>q4 k h2 h1) (core g).frame.fn gj.frame.fn (core g).frame.place gj.frame.place
      exact .inr ⟨_,_,_,_,_,_,sl',_,hst.trans hrunT,by rw [ofEvents_none,Array.empty_append];exact hI,.inl hrk⟩
    ·-- it takes
     have hstep:stepG P (i==0) g (w.at d) = .comm (core g) #[rcase Pr.ch z] true (.recv true) (w.at d) #[]:=hA.2.1 _ ((Id.agree i).le hu)
     cases hso:Pr.shut γ with
     | true=>
      rw [hso]at hchw
      have hrunT:=crowd_recv_closed (sl:=sl') hi hstep hchw (partners_nil fun j y hy=>by
       apply Classical.byContradiction
       intro hne
       obtain⟨hji,hy⟩:=A7v hy Pr.ch true hne
       obtain⟨σ,u',g₀,y',z',hσ,_,_,_,m,u0,ux,hsn,_⟩:=A9q I hy hne
       rw [L.noSnd I.ok hso hσ]at hsn;cases hsn)
      obtain⟨Tb,nb,hrk,hI⟩:=Id.found L hth hilt hu hA hso (core g).frame.fn (core g).frame.place
      exact .inr ⟨_,_,_,_,_,_,sl',_,hst.trans hrunT,by rw [ofEvents_none,Array.empty_append];exact hI,.inl hrk⟩
     | false=>
      rw [hso]at hchw hch
      by_cases hp:partners (gs.setIfInBounds i ph) Pr.ch true=[]
      ·have hrunT:=crowd_waits (sl:=sl') hi hstep (fun cc hcc=>by
        simp only [List.mem_toArray,List.mem_singleton]at hcc
        subst hcc
        exact ways_recv_none hchw hp)
       refine .inr ⟨γ,vs,Ts,ns,_,_,sl',_,hst.trans hrunT,?_,.inr ⟨Y,.inr ⟨by simp,runs_set hi hg Y⟩⟩⟩
       rw [ofEvents_none,Array.append_empty,←hTs]
       refine Id.turn hi hth (.take Y u g z hu Y hso hA) sM (Array.getElem?_setIfInBounds_self_of_lt hilt) (fun j hj=>Array.getElem?_setIfInBounds_ne (Ne.symm hj)) fun a y hy ho j y' hy'=>?_
       exfalso
       by_cases e:a=i
       ·subst e
        rw [Array.getElem?_setIfInBounds_self_of_lt hilt]at hy
        cases hy
        exact ho (offersAt_parked_recv' (core g) Pr.ch z _ Pr.ch)
       ·rw [Array.getElem?_setIfInBounds_ne (Ne.symm e)]at hy
        obtain⟨k,hk⟩:=List.exists_mem_of_ne_nil _ ho
        have:(a,k)∈partners (gs.setIfInBounds i ph) Pr.ch true:=mem_partners.2 ⟨y,by rw [Array.getElem?_setIfInBounds_ne (Ne.symm e)];exact hy,hk⟩
        rw [hp]at this;cases this
      ·obtain⟨j,gj,vj,zj,shj,d',hij,hj,hrunT⟩:=crowd_recv_meets_some (sl:=sl') hi hstep hchw hp (fun j k hjk=>by
        obtain⟨y,hy,hk⟩:=mem_partners.1 hjk
        obtain⟨hji,hy⟩:=A7v hy Pr.ch true (List.ne_nil_of_mem hk)
        obtain⟨σ,u',g₀,y',z',_,_,_,rfl,_⟩:=A9q I hy (List.ne_nil_of_mem hk)
        rw [offersAt_parked_send,if_pos rfl]at hk
        exact⟨by simpa using hk,hji,g₀,y',z',_,hy⟩)
       have hoj:offersAt (parked gj #[scase Pr.ch vj zj] shj) Pr.ch true≠[]:=by rw [offersAt_parked_send,if_pos rfl];simp
       obtain⟨σ,u',g₀,y',z',hσ,hu',hT',he,hA'⟩:=A9q I hj hoj
       obtain⟨hcs,rfl⟩:=B0i he
       obtain rfl:vj=y':=by
        have:=congrArg (fun a=>(a[0]?).bind (·.send)) hcs
        simpa [scase]using this
       have hjlt:j<gs.size:=(Array.getElem?_eq_some_iff.1 hj).1
       obtain⟨q1,q2,q3,q4⟩:=get_two (x:=gj.finishComm P #[scase Pr.ch vj zj] .send 0 undef false) (y:=(core g).finishComm P #[rcase Pr.ch z] (.recv true) 0 vj true) hij hjlt hilt
       obtain⟨va,vb,Ta,Tb,na,nb,hrk,hI⟩:=(Id.at d').comm L hij hσ hth hjlt hilt hu' hu hA' hA hch q1 (by rw [q2,finishComm_send];exact congrArg some (A8h he _)) (by rw [q3,finishComm_recv];rfl) q4 gj.frame.fn (core g).frame.fn gj.frame.place (core g).frame.place
       exact .inr ⟨_,_,_,_,_,_,sl',_,hst.trans hrunT,by rw [ofEvents_none,Array.empty_append];exact hI,.inl hrk⟩
   | node f=>
    rw [hT]at h2
    obtain⟨g',w',es,v',h3,h4,h5⟩:=h2.2 (w.at d) ⟨γ,I.ok,Id.agreeS⟩ (Id.agree i)
    have hrunT:=runT_crowd_go (P:=P) (sl:=sl') (i:=i) hi h3
    refine .inr ⟨γ,_,_,ns,_,_,sl',_,hst.trans hrunT,Id.ownStep L hi hth h1 h4 h5,.inr ⟨Y,.inl ?_⟩⟩
    simp only [Array.size_setIfInBounds,Array.size_map]
    refine LL.upd ?_ hilt
    rw [hT]
    exact .sub f (w.at d)
  | still h1 h2 h3=>
   cases hT:Ts i with
   | leaf=>
    rw [hT]at h3
    have hA:AtF P Pr base K (Job P Pr base K (ns i)) i τ noView g:=h3
    have e1:Pr.snd τ=none:=by
     cases e:Pr.snd τ with
     | none=>rfl
     | some m=>
      have:=(L.sndR I.ok hth (by rw [e];simp)).2.1
      rw [h1]at this;cases this
    have e2:Pr.rcv τ=false:=by
     cases e:Pr.rcv τ with
     | false=>rfl
     | true=>
      have:=(L.rcvR I.ok hth e).1
      rw [h1]at this;cases this
    exact atStop noView (by rw [h2];exact Le.refl _) hT (fun _=>h2) e1 e2 hA
   | node f=>
    rw [hT]at h3
    obtain⟨_,g',h4,h5⟩:=h3
    have hi0:i≠0:=fun e=>by
     obtain⟨σ,h,h'⟩:=L.main I.ok
     rw [e,h]at hth;cases hth;rw [h1]at h';cases h'
    have hrunT:=runT_crowd_go (P:=P) (sl:=sl') (i:=i) hi (by rw [show(i==0)=false by simpa using hi0];exact h4 (w.at d))
    have hI:=Id.muteStep L (g':=g') (T:=f (w.at d)) hi hth (.still h1 h2 (h5 _)) ((h5 (w.at d)).running fun _ x=>x.1)
    refine .inr ⟨γ,vs,upd Ts i (f (w.at d)),ns,_,_,sl',_,hst.trans hrunT,?_,.inr ⟨Y,.inl ?_⟩⟩
    ·rw [ofEvents_none,Array.append_empty];exact hI
    ·simp only [Array.size_setIfInBounds,Array.size_map]
     refine LL.upd ?_ hilt
     rw [hT]
     exact .sub f (w.at d)
  | wait _ _ _ _ _ hg'=>rw [hg']at hg;cases hg
  | put _ _ _ _ _ _ hg'=>rw [hg']at hg;cases hg
  | take _ _ _ _ _ hg'=>rw [hg']at hg;cases hg
theorem pinv_run(hb:0<base)(L:Laws Pr base)(hwk:∀{γ i γ'},Pr.ok γ→Pr.tr γ i γ'→Pr.size γ'=Pr.size γ+1→(∀j,j≠i→Pr.blocks γ j→Pr.blocks γ' j)∧Pr.shut γ'=Pr.shut γ) :
  ∀ (μ:Nat×List Tree×Nat) (γ:Pr.G) (vs:Nat→View) (Ts:Nat→Tree) (ns:Nat→Nat) (gs:Array Goroutine) (w:World) (t:Trace) (sl:Option (Nat×Nat)),μ=(Pr.rank γ,rowT gs.size Ts,A6w gs)→PInv P Pr base K S v0 w0 γ vs Ts ns gs w t→
   ∃N m t',runNT P N (crowd gs w sl) t=(.next m,t')∧AtOver P Pr base K S v0 w0 m t':=by
 intro μ
 induction μ using below_wf.induction with
 | _ μ ih=>
  rintro γ vs Ts ns gs w t sl rfl I
  rcases pinv_step hb L hwk sl I with h|⟨γ',vs',Ts',ns',gs',w',sl',ops,h1,h2,h3⟩
  ·exact⟨0,_,t,Y,h⟩
  ·obtain⟨N,m,t',h4,h5⟩:=ih _ h3 γ' vs' Ts' ns' gs' w' _ sl' rfl h2
   exact⟨1+N,m,t',A8k (B1o h1) h4,h5⟩
end
end Go.Pal.K
end
section
namespace Go.Pal.K
open Go Go.Conc Go.Pal View
open Go.ConcN (sumTo upd upd_ne upd_same)
structure Begins(P:Program)(v:View)(g:Goroutine)(K:View→Goroutine→Prop)(base:Nat)(Pr:Proto)(γ:Pr.G)(v1:View)(τ:Pr.T):Prop where
 laws:Laws Pr base
 wake:∀{γ:Pr.G} {i:Nat} {γ':Pr.G},Pr.ok γ→Pr.tr γ i γ'→Pr.size γ'=Pr.size γ+1→(∀j,j≠i→Pr.blocks γ j→Pr.blocks γ' j)∧Pr.shut γ'=Pr.shut γ
 ok:Pr.ok γ
 size:Pr.size γ=base
 th:Pr.th γ 0=some τ
 oth:∀j,j≠0→Pr.th γ j=none
 rel:Pr.rel τ=false
 deaf:Pr.deaf τ=0
 usr:∀b j,Pr.usr γ b j→j=0
 weak:Weak v1 v
 sh:∀b x,Pr.sh γ b=some x→v b=some x∧x.1=true
 disj:Disj v1 (Pr.sh γ)
 job:Job P Pr base K (Pr.rank γ+1) 0 τ v1 g
theorem phase_big{P:Program}{v:View}{g:Goroutine}{K:View→Goroutine→Prop}(h:∀base,0<base→∃(Pr:Proto) (γ:Pr.G) (v1:View) (τ:Pr.T),Begins P v g K base Pr γ v1 τ):BigStep P v g K:=by
  classical
  intro gs w sl t q S hB
  have hbase:0<gs.size:=(Array.getElem?_eq_some_iff.1 hB.zero).1
  obtain⟨Pr,γ,v1,τ,B⟩:=h gs.size hbase
  obtain⟨T,hT⟩:=A7w B.job γ
  have hknown:∀k a,touchAt t k=some a→a.loc.isMemory=true→v (blk a.loc)≠none→Knows t 0 k:=fun k a ha hm hv=>by
    rcases hB.past.known k a ha hm with x|⟨x,_⟩
    · exact x
    · exfalso
      obtain⟨l,wr,kd⟩:=a
      cases l with
      | cell a=>exact hv (hB.apart _ x)
      | _=>exact x.elim
  have hshv:∀b,Pr.sh γ b≠none→v b≠none∧v.Owns b:=fun b hb=>by
    cases e:Pr.sh γ b with
    | none=>exact absurd e hb
    | some x=>
      obtain⟨h1,h2⟩:=B.sh b x e
      obtain⟨p,o⟩:=x
      simp only at h2;subst h2
      exact⟨by rw [h1];simp,o,h1⟩
  have hact:∀i,Pr.th γ i≠none→i=0:=fun i hi=>Classical.byContradiction fun h0=>hi (B.oth i h0)
  let vs:Nat→View:=upd (fun _=>noView) 0 v1
  have hvs0:vs 0=v1:=upd_same _ _ _
  have hvsn:∀j,j≠0→vs j=noView:=fun j hj=>upd_ne _ _ hj
  have hvsd:∀j b,vs j b≠none→j=0∧v b≠none:=fun j b hb=>by
    by_cases e:j=0
    · subst e;rw [hvs0]at hb;exact⟨rfl,B.weak.dom hb⟩
    · rw [hvsn j e]at hb;exact absurd Y hb
  have I:PInv P Pr gs.size K S v w γ vs (upd (fun j=>Tree.ofNat (q j)) 0 T) (fun _=>Pr.rank γ) gs w t:=by
    refine⟨B.size.symm,B.ok,fun _=>Nat.le_refl _,fun j x σ hx hσ=>?_,fun j x hx hn=>?_,fun i x hx ho=>?_,fun j hj=>hB.leave.above j hj,fun j=>?_,fun b p o e=>hB.agree b p o (B.sh b _ e).1,fun i j hij b hO=>?_,fun j b=>?_,fun j hn=>?_,fun b hS=>?_,?_,hB.calm,Y,Y,.refl _,Nat.le_refl _,fun _ _ _=>rfl,fun j b hb=>.inl (hvsd j b hb).2,fun j b hO=>?_,fun b hb=>.inl (hshv b hb).2⟩
    · obtain rfl:=hact j (by rw [hσ];simp)
      rw [B.th]at hσ;cases hσ
      rw [hB.zero]at hx;cases hx
      rw [upd_same,hvs0]
      exact hT
    · have h0:j≠0:=fun e=>by rw [e,B.th]at hn;cases hn
      rw [upd_ne _ _ h0]
      exact⟨q j,Y,hB.leave.old j x oM hx⟩
    · refine absurd (offersAt_of_not_blocked (fun y=>?_) _ _) ho
      by_cases e:i=0
      · subst e
        rw [hB.zero]at hx;cases hx
        rw [A3n B.job]at y;cases y
      · rcases (hB.leave.old i x oM hx).status with e|e<;>rw [e]at y<;>cases y
    · by_cases e:j=0
      · subst e;rw [hvs0];exact B.weak.agree hB.agree
      · rw [hvsn j e];intro b p o h;cases h
    · by_cases e:j=0
      · subst e
        rw [hvsn i hij]at hO
        obtain⟨o,ho⟩:=hO
        cases ho
      · rw [hvsn j e];rfl
    · by_cases e:j=0
      · subst e;rw [hvs0];exact B.disj b
      · rw [hvsn j e];exact .inl Y
    · have h0:j≠0:=fun e=>by rw [e,B.th]at hn;cases hn
      exact hvsn j h0
    · have hv:=hB.apart b hS
      refine⟨fun j=>?_,?_,hB.low b hS⟩
      · exact Classical.byContradiction fun h=>(hvsd j b h).2 hv
      · exact Classical.byContradiction fun h=>(hshv b h).1 hv
    · refine⟨hB.past.clean,fun i k a ha hm hO=>?_,fun i k a ha hm hO _=>?_,fun k a ha hA hm=>.inr (.inr fun i hi=>?_),fun k a ha hm hS _=>.inl fun i hi=>?_,hB.norel,hB.past.seen,fun i σ hσ=>?_,fun k a ha hm=>?_,fun k g hg hne hc=>.inl (hB.past.over k g hg hne hc),fun i h1 h2=>?_⟩
      · obtain⟨o,ho⟩:=hO
        obtain⟨rfl,h1⟩:=hvsd i _ (by rw [ho];simp)
        exact hknown k a ha hm h1
      · obtain⟨rfl,h1⟩:=hvsd i _ hO
        exact hknown k a ha hm h1
      · rw [B.usr _ i hi]
        exact hknown k a ha hm (hshv _ (B.laws.atbS B.ok hA)).1
      · rw [B.usr _ i hi]
        exact hknown k a ha hm (hshv _ hS).1
      · obtain rfl:=hact i (by rw [hσ];simp)
        rw [B.th]at hσ;cases hσ
        rw [hB.past.hears,B.deaf]
      · rcases hB.past.known k a ha hm with x|⟨x,y⟩
        · exact .inl x
        · refine .inr (.inl ⟨?_,y⟩)
          obtain⟨l,wr,kd⟩:=a
          cases l with
          | cell a=>exact .inl x
          | _=>exact x.elim
      · rw [B.size]at h2;omega
    · obtain⟨o,ho⟩:=hO
      obtain⟨rfl,h1⟩:=hvsd j b (by rw [ho];simp)
      rw [hvs0]at ho
      exact .inl (B.weak.own ⟨o,ho⟩)
  obtain⟨N,m,t',hN,γ',vs',Ts',ns',gs',w',sl',u,g',rfl,I',hg',hov,hu,hk⟩:=pinv_run hbase B.laws B.wake _ γ vs _ _ gs w t sl rfl I
  obtain⟨hn,htk,hov'⟩:=B.laws.over I'.ok hov
  obtain⟨τ',hτ',_⟩:=B.laws.main I'.ok
  have hd:=hov' τ' hτ'
  let q':Nat→Nat:=fun j=>if h:∃q,∀g,gs'[j]?=some g→QuitsD P q (Deaf t' j) g then Classical.choose h else 0
  have hrest:∀b,Proto.rest Pr γ' b≠none→Pr.sh γ' b≠none∧¬Pr.atb γ' b:=fun b hb=>by
    unfold Proto.rest at hb
    split at hb
    · exact absurd Y hb
    · rename_i h;exact⟨hb,h⟩
  have hrestle:∀b x,Proto.rest Pr γ' b=some x→Pr.sh γ' b=some x:=fun b x hb=>by
    unfold Proto.rest at hb
    split at hb
    · cases hb
    · exact hb
  have hv'dom:∀b,(u.union (Proto.rest Pr γ')) b≠none→u b≠none∨Proto.rest Pr γ' b≠none:=fun b hb=>by
    unfold View.union at hb
    cases e:u b with
    | none=>rw [e]at hb;exact .inr hb
    | some x=>exact .inl sM
  have hund:∀b,u b≠none→vs' 0 b≠none:=fun b hb=>by
    cases e:u b with
    | none=>exact absurd e hb
    | some x=>rw [hu _ _ e];simp
  have hagree:(u.union (Proto.rest Pr γ')).Agree w':=fun b p o e=>by
    unfold View.union at e
    split at e
    · rename_i x hx;cases e;exact I'.agree 0 b p o (hu _ _ hx)
    · exact I'.agreeS b p o (hrestle b _ e)
  have hapart:∀b,(S b∨Pr.atb γ' b)→(u.union (Proto.rest Pr γ')) b=none:=fun b hb=>Classical.byContradiction fun hne=>by
    rcases hv'dom b hne with x|x
    · rcases hb with hb|hb
      · exact hund b x ((I'.shun b hb).1 0)
      · exact(I'.disj 0 b).elim (fun z=>hund b x z) (fun z=>B.laws.atbS I'.ok hb z)
    · obtain⟨x1,x2⟩:=hrest b x
      rcases hb with hb|hb
      · exact x1 (I'.shun b hb).2.1
      · exact x2 hb
  refine⟨N,gs',w',sl',t',q',fun b=>S b∨Pr.atb γ' b,u.union (Proto.rest Pr γ'),g',hN,⟨hg',⟨fun i x hi hx=>?_,I'.above⟩,I'.ti.past hbase hτ' hd htk,hagree,hapart,fun b hb=>?_,I'.calm,I'.ti.norel⟩,⟨hagree,I'.tape,I'.output,I'.os,I'.heap,I'.keep,fun b hb=>?_,fun b hO=>?_⟩,fun b hb=>?_,hk⟩
  · have hex:∃q,∀g,gs'[i]?=some g→QuitsD P q (Deaf t' i) g:=by
      obtain⟨q,_,h2⟩:=I'.gone i x hx (hn i oM)
      exact⟨q,fun g hg=>by rw [hx]at hg;cases hg;exact h2⟩
    show QuitsD P (q' i) _ x
    have:q' i=Classical.choose hex:=by show dite _ _ _=_;rw [dif_pos hex]
    rw [this]
    exact Classical.choose_spec hex x hx
  · rcases hb with hb|hb
    · exact(I'.shun b hb).2.2
    · have:=B.laws.atbS I'.ok hb
      cases e:Pr.sh γ' b with
      | none=>exact absurd e this
      | some x=>exact I'.agreeS.lt e
  · rcases hv'dom b hb with x|x
    · exact I'.dom 0 b (hund b x)
    · rcases I'.ownS b (hrest b x).1 with ⟨o,ho⟩|y
      · exact .inl (by rw [ho];simp)
      · exact .inr y
  · obtain⟨o,ho⟩:=hO
    unfold View.union at ho
    split at ho
    · rename_i x hx
      cases ho
      exact I'.own 0 b ⟨o,hu _ _ hx⟩
    · exact I'.ownS b (by rw [hrestle b _ ho];simp)
  · rcases hb with hb|hb
    · exact .inl hb
    · exact .inr (I'.ownS b (B.laws.atbS I'.ok hb))
end Go.Pal.K
end
section
namespace Go.Pal.Mu
open Go Go.Conc Go.Pal View
open Go.ConcN (sumTo upd sumTo_upd upd_ne upd_same sumTo_congr le_sumTo)
theorem wrap_u64(n:Int):IntKind.u64.wrap n=n % 18446744073709551616:=by simp [IntKind.wrap,IntKind.bits,IntKind.signed]
theorem wrap_u32(n:Int):IntKind.u32.wrap n=n % 4294967296:=by simp [IntKind.wrap,IntKind.bits,IntKind.signed]
def MuteD(d:Nat)(es:Array Event):Prop:=∀j e,es[j]?=some e→(MemAct.ofEvent e).touch?=none∨((∃ad wr,e=⟨.cell ad,wr,true⟩)∧0<deafBehind d (es.extract 0 j))
theorem mute_dis{d:Nat}:MuteD d #[mkE .disable]:=fun j e he=>.inl (by
 have:=Array.mem_of_getElem? he
 simp at this;subst this;rfl)
theorem mute_one{d:Nat}{ad:Addr}{wr:Bool}:MuteD (d+1) #[⟨.cell ad,wr,true⟩]:=fun j e he=>by
 match j,he with
 | 0,he=>simp at he;subst he;exact .inr ⟨⟨_,_,rfl⟩,by simp [deafBehind]⟩
 | j+1,he=>simp at he
theorem mute_rw{d:Nat}{ad:Addr}:MuteD (d+1) #[⟨.cell ad,false,true⟩,⟨.cell ad,true,true⟩]:=fun j e he=>by
 match j,he with
 | 0,he=>simp at he;subst he;exact .inr ⟨⟨_,_,rfl⟩,by simp [deafBehind]⟩
 | 1,he=>simp at he;subst he;exact .inr ⟨⟨_,_,rfl⟩,by simp [deafBehind]⟩
 | j+2,he=>simp at he
theorem mute_sem{d:Nat}{ad:Addr}:MuteD (d+1) (semEvents ad):=fun j e he=>by
 match j,he with
 | 0,he=>simp [semEvents]at he;subst he;exact .inl rfl
 | 1,he=>simp [semEvents]at he;subst he;exact .inr ⟨⟨_,_,rfl⟩,by simp [deafBehind,semEvents]⟩
 | 2,he=>simp [semEvents]at he;subst he;exact .inr ⟨⟨_,_,rfl⟩,by simp [deafBehind,semEvents]⟩
 | 3,he=>simp [semEvents]at he;subst he;exact .inl rfl
 | j+4,he=>simp [semEvents]at he
section
variable{P:Program}{A:Par}{base:Nat}{K:View→Goroutine→Prop}{n j:Nat}{N:Nat}{b:Frame}{cs:List Frame}{ds:List Deferred}{ρ:Regs}{v:View}{k:List Item}{ops:Array Oper}{i:Nat}{rest:List Nat}{d:Nat}{op:Op}{ty:TypeId}{pos:String}{af:Array Edge}{gu:Option (Nat×Bool)}
variable{f:FuncId}{fn:Func}{aS:Array Operand}{ats:Array TypeId}{o1 o2 o3:Operand}{γ:WS}
abbrev AtR(P:Program)(A:Par)(base:Nat)(K:View→Goroutine→Prop)(n j:Nat)(q:Wk):Goroutine→Prop:=AtF P (A0w A base) K (Job P (A0w A base) K n) (base+j) (.inr q) noView
theorem B_enable(hr:b.roundOf=none)(E:Ext P f fn (fun _=>do mark .enable;pure Extern.Race.none_)){args:Array Value}{dd:Nat}(h:XB (A8w P dd) N b k cs ds ρ):XB (A8w P (dd+1)) N b k cs (dcall f args::ds) ρ:=fun a hf=>by
 obtain⟨q,hq⟩:=h ⟨a.tmps,ds⟩ ⟨hf.size,rfl,hf.get⟩
 refine⟨q+1,.inr ⟨Y,G (b.out ⟨a.tmps,ds⟩ k) cs,#[mkE .enable],?_,fun w=>?_,?_⟩⟩
 ·intro e he;simp at he;subst he;rfl
 ·have:=stepG_unwind_entry (P:=P) (main:=false) (b:=b) (a:=a) (cs:=cs) (w:=w) (todo:=k) (ds:=ds) (args:=args) hf.defers E.hf E.hname E.hb E.hn E.he (v:=.tuple #[]) (w':=w) (evs:=#[mkE .enable]) Y Y (by
   intro e he;simp at he;subst he;exact⟨rfl,fun g h=>by cases h⟩)
  simp only [Frame.out,A1u hr]
  exact this
 ·rw [deaf_en];exact hq
end
end Go.Pal.Mu
end
section
namespace Go.Pal.Mu
open Go Go.Conc Go.Pal
def chkG(f:Nat→Nat→Bool):Bool:=(List.range 256).all fun v=>f v 0&&f v 1
theorem A7l{f:Nat→Nat→Bool}(h:chkG f=true)(v wt:Nat)(hv:v<256)(hw:wt≤1):f v wt=true:=by
 have:=List.all_eq_true.1 h v (List.mem_range.2 hv)
 simp only [Bool.and_eq_true]at this
 match wt,hw with
 | 0,_=>exact this.1
 | 1,_=>exact this.2
abbrev andU(a b:Int):Int:=IntKind.u64.wrap (BitVec.ofInt IntKind.u64.bits a &&& BitVec.ofInt IntKind.u64.bits b).toNat
abbrev shrU(a b:Int):Int:=a.fdiv (2 ^ (min b.toNat IntKind.u64.bits))
section
variable{v wt:Nat}(hv:v<256)(hw:wt≤1)
include hv hw
theorem g_bub:(andU (wgV v wt) 2147483648 != 0)=false:=by
 have:=A7l (f:=fun v wt=>(andU (wgV v wt) 2147483648 != 0)==false) kR v wt hv hw
 exact eq_of_beq this
theorem g_v:IntKind.i32.wrap (shrU (wgV v wt) 32)=v:=by
 have:=A7l (f:=fun v wt=>IntKind.i32.wrap (shrU (wgV v wt) 32)==(v:Int)) kR v wt hv hw
 exact eq_of_beq this
theorem g_w:IntKind.u32.wrap (andU (wgV v wt) 2147483647)=wt:=by
 have:=A7l (f:=fun v wt=>IntKind.u32.wrap (andU (wgV v wt) 2147483647)==(wt:Int)) kR v wt hv hw
 exact eq_of_beq this
theorem g_p1:IntKind.u64.wrap (wgV v wt+1)=wgV v (wt+1):=by
 have:=A7l (f:=fun v wt=>IntKind.u64.wrap (wgV v wt+1)==wgV v (wt+1)) kR v wt hv hw
 exact eq_of_beq this
end
end Go.Pal.Mu
end
section
namespace Go.Pal.Fan
open Go Go.Conc Go.Pal
open Go.ConcN (sumTo upd sumTo_upd upd_ne upd_same sumTo_congr le_sumTo)
inductive Wk(M:Type) where
 | un|sd(l:List M)|d1|d2|d3|d4|d5|off
inductive Mn(M:Type) where
 | a0(k:Nat)|a1(k:Nat)|ar(k:Nat)|a2(k:Nat)|go(k:Nat)|gc|rc(g:List M)|fin(g:List M)
inductive Cl where
 | un|w0|w1|wc(o:Nat)|ww|w3|w4|w5|w6|cl|off
structure FS(M:Type) where
 mn:Mn M
 st:Nat
 ph:Nat→Wk M
 cl:Cl
 v:Nat
 wt:Nat
 sm:Nat
 s:Nat
section
variable{M:Type}
def A3y:Wk M→Nat | .sd _ | .d1 | .d2=>1|_=>0
def d34:Wk M→Nat | .d3 | .d4=>1|_=>0
def d5c:Wk M→Nat | .d5=>1|_=>0
def pend:Mn M→Nat | .ar _ | .a2 _ | .go _=>1|_=>0
def kOf:Mn M→Option Nat | .a0 k | .a1 k | .ar k | .a2 k | .go k=>some k|_=>none
def isR:Mn M→Bool | .rc _ | .fin _=>true|_=>false
def isF:Mn M→Bool | .fin _=>true|_=>false
def gotL:Mn M→List M | .rc g | .fin g=>g|_=>[]
def isQ:Cl→Bool | .ww | .w3=>true|_=>false
def isP:Cl→Bool | .w4 | .w5 | .w6 | .cl | .off=>true|_=>false
def Sw(J:Nat)(ph:Nat→Wk M)(φ:Wk M→Nat):Nat:=sumTo J fun a=>φ (ph a)
theorem A3h{J:Nat}{ph:Nat→Wk M}{i:Nat}(hi:i<J)(p:Wk M)(φ:Wk M→Nat):Sw J (upd ph i p) φ+φ (ph i)=Sw J ph φ+φ p:=sumTo_upd ph p φ hi
theorem le_Sw{J:Nat}{ph:Nat→Wk M}{i:Nat}(hi:i<J)(φ:Wk M→Nat):φ (ph i)≤Sw J ph φ:=le_sumTo (f:=fun a=>φ (ph a)) hi
theorem Sw_pos{J:Nat}{ph:Nat→Wk M}{φ:Wk M→Nat}(h:1≤Sw J ph φ):∃j,j<J∧1≤φ (ph j):=by
 apply Classical.byContradiction
 intro hno
 have h0:∀j,j<J→φ (ph j)=0:=fun j hj=>by
  apply Classical.byContradiction
  intro hne
  exact hno ⟨j,hj,oM⟩
 have:Sw J ph φ=sumTo J (fun _=>0):=sumTo_congr h0
 have z:∀n,sumTo n (fun _=>0)=0:=fun n=>by induction n with|zero=>rfl|succ n ih=>simp [sumTo,ih]
 rw [this,z]at h;omega
theorem Sw_zero{ph:Nat→Wk M}{φ:Wk M→Nat}:∀{J:Nat},(∀j,j<J→φ (ph j)=0)→Sw J ph φ=0
 | 0,_=>rfl
 | J+1,h=>by
  have:=Sw_zero (J:=J) fun j hj=>h j oM
  unfold Sw at *
  simp only [sumTo,this,h J oM]
def cat:Nat→(Nat→List M)→List M
 | 0,_=>[]
 | n+1,f=>cat n f++f n
theorem A7b{f g:Nat→List M}:∀{n:Nat},(∀j,j<n→f j=g j)→cat n f=cat n g
 | 0,_=>rfl
 | n+1,h=>by simp only [cat];rw [A7b (n:=n) fun j hj=>h j oM,h n oM]
theorem cat_nil{f:Nat→List M}:∀{n:Nat},(∀j,j<n→f j=[])→cat n f=[]
 | 0,_=>rfl
 | n+1,h=>by simp only [cat];rw [cat_nil (n:=n) fun j hj=>h j oM,h n oM];rfl
theorem cat_take{f:Nat→List M}{i:Nat}{m:M}{l:List M}(hf:f i=m::l):∀{n:Nat},i<n→(m::cat n (upd f i l)).Perm (cat n f)
 | 0,h=>absurd h (Nat.not_lt_zero _)
 | n+1,h=>by
  simp only [cat]
  by_cases e:i=n
  ·subst e
   rw [upd_same,hf,A7b (f:=upd f i l) (g:=f) fun j hj=>upd_ne _ _ oM]
   exact(List.perm_middle (a:=m) (l₁:=cat i f) (l₂:=l)).symm
  ·rw [upd_ne _ _ (Ne.symm e)]
   have:=(cat_take hf (n:=n) oM).append_right (f n)
   exact this
def left(Ls:Nat→List M)(j:Nat):Wk M→List M | .un=>Ls j | .sd l=>l|_=>[]
variable(J:Nat)(Ls:Nat→List M)(base:Nat)
inductive Tr:FS M→Nat→FS M→Prop
 | a0 {γ k}:γ.mn = .a0 k→Tr γ 0 {γ with mn:=.a1 k }
 | a1 {γ k}:γ.mn = .a1 k→Tr γ 0 {γ with mn:=if γ.v=0 then .ar k else .a2 k,v:=γ.v+1 }
 | ar {γ k}:γ.mn = .ar k→Tr γ 0 {γ with mn:=.a2 k }
 | a2 {γ k}:γ.mn = .a2 k→Tr γ 0 {γ with mn:=.go k }
 | go {γ k}:γ.mn = .go k→Tr γ 0 {γ with mn:=if k+1<J then .a0 (k+1)else .gc,st:=k+1,ph:=upd γ.ph k (.sd (Ls k)) }
 | gc {γ}:γ.mn = .gc→Tr γ 0 {γ with mn:=.rc [],st:=J+1,cl:=.w0 }
 | w0 {γ}:γ.cl = .w0→Tr γ (base+J) {γ with cl:=.w1 }
 | w1Z {γ}:γ.cl = .w1→γ.v=0→Tr γ (base+J) {γ with cl:=.w5 }
 | w1 {γ}:γ.cl = .w1→γ.v≠0→Tr γ (base+J) {γ with cl:=.wc γ.v }
 | wcY {γ}:γ.cl = .wc γ.v→Tr γ (base+J) {γ with cl:=.ww,wt:=1 }
 | wcN {γ o}:γ.cl = .wc o→γ.v≠o→Tr γ (base+J) {γ with cl:=.w1 }
 | ww {γ}:γ.cl = .ww→Tr γ (base+J) {γ with cl:=.w3 }
 | w3 {γ s}:γ.cl = .w3→γ.sm=s+1→Tr γ (base+J) {γ with cl:=.w4,sm:=s }
 | w4 {γ}:γ.cl = .w4→Tr γ (base+J) {γ with cl:=.w5 }
 | w5 {γ}:γ.cl = .w5→Tr γ (base+J) {γ with cl:=.w6 }
 | w6 {γ}:γ.cl = .w6→Tr γ (base+J) {γ with cl:=.cl }
 | cl {γ}:γ.cl = .cl→Tr γ (base+J) {γ with cl:=.off }
 | d0 {γ j}:j<J→γ.ph j = .sd []→Tr γ (base+j) {γ with ph:=upd γ.ph j .d1 }
 | d1 {γ j}:j<J→γ.ph j = .d1→Tr γ (base+j) {γ with ph:=upd γ.ph j .d2 }
 | d2 {γ j v}:j<J→γ.ph j = .d2→γ.v=v+1→(v≠0∨γ.wt=0)→Tr γ (base+j) {γ with ph:=upd γ.ph j .off,v:=v }
 | d2L {γ j}:j<J→γ.ph j = .d2→γ.v=1→γ.wt≠0→Tr γ (base+j) {γ with ph:=upd γ.ph j .d3,v:=0 }
 | d3 {γ j}:j<J→γ.ph j = .d3→Tr γ (base+j) {γ with ph:=upd γ.ph j .d4 }
 | d4 {γ j}:j<J→γ.ph j = .d4→Tr γ (base+j) {γ with ph:=upd γ.ph j .d5,wt:=0 }
 | d5 {γ j}:j<J→γ.ph j = .d5→Tr γ (base+j) {γ with ph:=upd γ.ph j .off,sm:=γ.sm+1 }
def cmm(γ:FS M)(i:Nat):FS M:=
 match γ.ph (i-base),γ.mn with
 | .sd (m::l),.rc g=>{γ with ph:=upd γ.ph (i-base) (.sd l),mn:=.rc (g++[m]),s:=γ.s+1 }
 | _,_=>γ
def fnd(γ:FS M):FS M:=
 match γ.mn with
 | .rc g=>{γ with mn:=.fin g }
 | _=>γ
structure Ok(γ:FS M):Prop where
 stk:∀k,kOf γ.mn=some k→γ.st=k∧k<J
 stg:γ.mn = .gc→γ.st=J
 stw:isR γ.mn=true→γ.st=J+1
 uns:∀j,γ.ph j = .un↔(γ.st≤j∨J≤j)
 cls:γ.cl = .un↔γ.st≤J
 cnt:γ.v=Sw J γ.ph A3y+pend γ.mn
 wq:isQ γ.cl=true→(γ.wt=1∧Sw J γ.ph d5c+γ.sm=0∧(γ.v=0→Sw J γ.ph d34=1)∧(γ.v≠0→Sw J γ.ph d34=0))∨(γ.wt=0∧γ.v=0∧Sw J γ.ph d34=0∧Sw J γ.ph d5c+γ.sm=1)
 wn:isQ γ.cl=false→γ.wt=0∧Sw J γ.ph d34=0∧Sw J γ.ph d5c+γ.sm=0
 post:isP γ.cl=true→γ.v=0
 wcn:∀o,γ.cl = .wc o→o≠0
 perm:(gotL γ.mn++cat J (fun j=>left Ls j (γ.ph j))).Perm (cat J Ls)
 fin:isF γ.mn=true→γ.cl = .off
end
section
variable{M:Type}{J:Nat}{Ls:Nat→List M}{base:Nat}{γ γ':FS M}
theorem Ok.stJ(O:Ok J Ls γ):γ.st≤J+1:=by
 cases h:γ.mn with
 | gc=>have:=O.stg h;omega
 | rc g=>have:=O.stw (by rw [h];rfl);omega
 | fin g=>have:=O.stw (by rw [h];rfl);omega
 | a0 k=>have:=O.stk k (by rw [h];rfl);omega
 | a1 k=>have:=O.stk k (by rw [h];rfl);omega
 | ar k=>have:=O.stk k (by rw [h];rfl);omega
 | a2 k=>have:=O.stk k (by rw [h];rfl);omega
 | go k=>have:=O.stk k (by rw [h];rfl);omega
theorem Ok.main(O:Ok J Ls γ){mn:Mn M}{v:Nat}(h1:∀k,kOf mn=some k→γ.st=k∧k<J)(h2:mn = .gc→γ.st=J)(h3:isR mn=true→γ.st=J+1)(h4:v=Sw J γ.ph A3y+pend mn)
  (hu:γ.cl = .un)(h5:gotL mn=gotL γ.mn)(h6:isF mn=false):Ok J Ls {γ with mn:=mn,v:=v }:=by
 have hq:isQ γ.cl=false:=by rw [hu];rfl
 have hp:isP γ.cl=false:=by rw [hu];rfl
 refine⟨h1,h2,h3,O.uns,O.cls,h4,fun e=>?_,O.wn,fun e=>?_,O.wcn,?_,fun e=>?_⟩
 ·have e:isQ γ.cl=true:=e;rw [hq]at e;cases e
 ·have e:isP γ.cl=true:=e;rw [hp]at e;cases e
 ·show(gotL mn++_).Perm _;rw [h5];exact O.perm
 ·have e:isF mn=true:=e;rw [h6]at e;cases e
theorem Ok.clo(O:Ok J Ls γ){c:Cl}{wt sm:Nat}(h0:γ.cl≠.un)(h1:c≠.un)
  (h4:isQ c=true→(wt=1∧Sw J γ.ph d5c+sm=0∧(γ.v=0→Sw J γ.ph d34=1)∧(γ.v≠0→Sw J γ.ph d34=0))∨(wt=0∧γ.v=0∧Sw J γ.ph d34=0∧Sw J γ.ph d5c+sm=1))
  (h5:isQ c=false→wt=0∧Sw J γ.ph d34=0∧Sw J γ.ph d5c+sm=0)(h6:isP c=true→γ.v=0)(hne:γ.cl≠.off)(h7:∀o,c = .wc o→o≠0:=by intro o e;cases e):Ok J Ls {γ with cl:=c,wt:=wt,sm:=sm }:=
 ⟨O.stk,O.stg,O.stw,O.uns,⟨fun e=>absurd e h1,fun e=>absurd (O.cls.2 e) h0⟩,O.cnt,h4,h5,h6,h7,O.perm,fun e=>absurd (O.fin e) hne⟩
theorem Ok.work(O:Ok J Ls γ){j:Nat}(hj:j<J)(hon:γ.ph j≠.un){q:Wk M}(hq1:q≠.un){v wt sm:Nat}(hcnt:v+A3y (γ.ph j)=γ.v+A3y q)
  (hq:isQ γ.cl=true→(wt=1∧Sw J (upd γ.ph j q) d5c+sm=0∧(v=0→Sw J (upd γ.ph j q) d34=1)∧(v≠0→Sw J (upd γ.ph j q) d34=0))∨(wt=0∧v=0∧Sw J (upd γ.ph j q) d34=0∧Sw J (upd γ.ph j q) d5c+sm=1))
  (hn:isQ γ.cl=false→wt=0∧Sw J (upd γ.ph j q) d34=0∧Sw J (upd γ.ph j q) d5c+sm=0)(hp:isP γ.cl=true→v=0)(hl:left Ls j q=left Ls j (γ.ph j)):Ok J Ls {γ with ph:=upd γ.ph j q,v:=v,wt:=wt,sm:=sm }:=by
 refine⟨O.stk,O.stg,O.stw,fun k=>?_,O.cls,?_,hq,hn,hp,O.wcn,?_,O.fin⟩
 ·show upd γ.ph j q k = .un↔_
  by_cases e:k=j
  ·subst e
   rw [upd_same]
   exact⟨fun h=>absurd h hq1,fun h=>absurd ((O.uns k).2 h) hon⟩
  ·rw [upd_ne _ _ e];exact O.uns k
 ·show v=Sw J (upd γ.ph j q) A3y+pend γ.mn
  have:=A3h (ph:=γ.ph) hj q A3y
  have:=O.cnt
  omega
 ·show(gotL γ.mn++cat J (fun a=>left Ls a (upd γ.ph j q a))).Perm _
  rw [A7b (g:=fun a=>left Ls a (γ.ph a)) fun a ha=>by
   by_cases e:a=j
   ·subst e;rw [upd_same];exact hl
   ·rw [upd_ne _ _ e]]
  exact O.perm
theorem Ok.cun(O:Ok J Ls γ){k:Nat}(h:kOf γ.mn=some k):γ.cl = .un:=O.cls.2 (by have:=O.stk k h;omega)
theorem Ok.step{i:Nat}(O:Ok J Ls γ)(h:Tr J Ls base γ i γ'):Ok J Ls γ':=by
 have hun:∀{j:Nat} {q:Wk M},j<J→γ.ph j=q→q≠.un→γ.ph j≠.un:=fun _ e h=>by rw [e];exact h
 cases h with
 | @a0 k h=>
  have k1:=O.stk;have k3:=O.cnt;have k4:=O.cun (k:=k) (by rw [h];rfl)
  rw [h]at k1 k3
  exact O.main (mn:=.a1 _) k1 (fun e=>by cases e) (fun e=>by cases e) k3 k4 (by rw [h];rfl) Y
 | @a1 k h=>
  have k1:=O.stk;have k3:=O.cnt;have k4:=O.cun (k:=k) (by rw [h];rfl)
  rw [h]at k1 k3
  refine O.main (fun k' e=>?_) (fun e=>?_) (fun e=>?_) ?_ k4 ?_ ?_
  ·split at e<;>exact k1 k' e
  ·split at e<;>cases e
  ·split at e<;>cases e
  ·simp only [pend]at k3
   split<;>simp only [pend]<;>omega
  ·rw [h];split<;>rfl
  ·split<;>rfl
 | @ar k h=>
  have k1:=O.stk;have k3:=O.cnt;have k4:=O.cun (k:=k) (by rw [h];rfl)
  rw [h]at k1 k3
  exact O.main (mn:=.a2 _) k1 (fun e=>by cases e) (fun e=>by cases e) k3 k4 (by rw [h];rfl) Y
 | @a2 k h=>
  have k1:=O.stk;have k3:=O.cnt;have k4:=O.cun (k:=k) (by rw [h];rfl)
  rw [h]at k1 k3
  exact O.main (mn:=.go _) k1 (fun e=>by cases e) (fun e=>by cases e) k3 k4 (by rw [h];rfl) Y
 | @go k h=>
  have k1:=O.stk;have k3:=O.cnt;have k4:=O.cun (k:=k) (by rw [h];rfl)
  rw [h]at k1 k3
  obtain⟨hst,hkJ⟩:=k1 k rfl
  have hoff:γ.ph k = .un:=(O.uns k).2 (.inl oM)
  have e1:=A3h (ph:=γ.ph) hkJ (.sd (Ls k)) A3y
  have e2:=A3h (ph:=γ.ph) hkJ (.sd (Ls k)) d34
  have e3:=A3h (ph:=γ.ph) hkJ (.sd (Ls k)) d5c
  rw [hoff]at e1 e2 e3
  simp only [A3y,d34,d5c]at e1 e2 e3
  have hw:=O.wn (by rw [k4];rfl)
  have hp:=O.perm
  rw [h]at hp
  refine⟨fun k' e=>?_,fun e=>?_,fun e=>?_,fun j=>?_,?_,?_,fun e=>?_,fun _=>?_,fun e=>?_,fun o e=>?_,?_,fun e=>?_⟩
  ·simp only at e⊢
   split at e
   ·simp only [kOf,Option.some.injEq]at e;omega
   ·cases e
  ·simp only at e⊢
   split at e
   ·cases e
   ·omega
  ·simp only at e;split at e<;>cases e
  ·simp only
   by_cases e:j=k
   ·subst e
    rw [upd_same]
    exact⟨fun h=>(by cases h),fun h=>by omega⟩
   ·rw [upd_ne _ _ e,O.uns j]
    omega
  ·simp only
   rw [k4]
   exact⟨fun _=>by omega,fun _=>rfl⟩
  ·simp only [pend]at k3
   simp only
   split<;>simp only [pend]<;>omega
  ·simp only at e;rw [k4]at e;cases e
  ·simp only;omega
  ·simp only at e;rw [k4]at e;cases e
  ·simp only at e;rw [k4]at e;cases e
  ·simp only
   rw [A7b (g:=fun a=>left Ls a (γ.ph a)) fun a ha=>by
    by_cases e:a=k
    ·subst e;rw [upd_same,hoff];rfl
    ·rw [upd_ne _ _ e]]
   have:gotL (if k+1<J then Mn.a0 (k+1)else Mn.gc:Mn M)=[]:=by split<;>rfl
   rw [this]
   exact hp
  ·simp only at e;split at e<;>cases e
 | gc h=>
  have k2:=O.stg h
  have k3:=O.cnt
  have hp:=O.perm
  rw [h]at k3 hp
  have k4:γ.cl = .un:=O.cls.2 oM
  have hw:=O.wn (by rw [k4];rfl)
  refine⟨fun k' e=>(by cases e),fun e=>(by cases e),fun e=>rfl,fun j=>?_,⟨fun e=>(by cases e),fun e=>(by have e:J+1≤J:=e;omega)⟩,k3,fun e=>(by cases e),fun _=>hw,fun e=>(by cases e),fun o e=>(by cases e),hp,fun e=>(by cases e)⟩
  simp only
  rw [O.uns j]
  omega
 | w0 h=>exact O.clo (c:=.w1) (by rw [h];simp) sM (fun e=>by cases e) (fun _=>O.wn (by rw [h];rfl)) (fun e=>by cases e) (by rw [h];simp)
 | w1Z h hv=>exact O.clo (c:=.w5) (by rw [h];simp) sM (fun e=>by cases e) (fun _=>O.wn (by rw [h];rfl)) (fun _=>hv) (by rw [h];simp)
 | w1 h hv=>exact O.clo (c:=.wc _) (by rw [h];simp) sM (fun e=>by cases e) (fun _=>O.wn (by rw [h];rfl)) (fun e=>by cases e) (by rw [h];simp) (fun o e=>by cases e;exact hv)
 | wcY h=>
  obtain⟨a,b,c⟩:=O.wn (by rw [h];rfl)
  exact O.clo (c:=.ww) (by rw [h];simp) sM (fun _=>.inl ⟨Y,c,fun hv=>absurd hv (O.wcn _ h),fun _=>b⟩) (fun e=>by cases e) (fun e=>by cases e) (by rw [h];simp)
 | wcN h hv=>exact O.clo (c:=.w1) (by rw [h];simp) sM (fun e=>by cases e) (fun _=>O.wn (by rw [h];rfl)) (fun e=>by cases e) (by rw [h];simp)
 | ww h=>exact O.clo (c:=.w3) (by rw [h];simp) sM (fun _=>O.wq (by rw [h];rfl)) (fun e=>by cases e) (fun e=>by cases e) (by rw [h];simp)
 | @w3 s h hs=>
  rcases O.wq (by rw [h];rfl)with ⟨a,b,c,d⟩|⟨a,b,c,d⟩
  ·omega
  ·exact O.clo (c:=.w4) (by rw [h];simp) sM (fun e=>by cases e) (fun _=>⟨a,c,oM⟩) (fun _=>b) (by rw [h];simp)
 | w4 h=>exact O.clo (c:=.w5) (by rw [h];simp) sM (fun e=>by cases e) (fun _=>O.wn (by rw [h];rfl)) (fun _=>O.post (by rw [h];rfl)) (by rw [h];simp)
 | w5 h=>exact O.clo (c:=.w6) (by rw [h];simp) sM (fun e=>by cases e) (fun _=>O.wn (by rw [h];rfl)) (fun _=>O.post (by rw [h];rfl)) (by rw [h];simp)
 | w6 h=>exact O.clo (c:=.cl) (by rw [h];simp) sM (fun e=>by cases e) (fun _=>O.wn (by rw [h];rfl)) (fun _=>O.post (by rw [h];rfl)) (by rw [h];simp)
 | cl h=>exact O.clo (c:=.off) (by rw [h];simp) sM (fun e=>by cases e) (fun _=>O.wn (by rw [h];rfl)) (fun _=>O.post (by rw [h];rfl)) (by rw [h];simp)
 | @d0 j hj hp=>
  have e2:=A3h (ph:=γ.ph) hj .d1 d34
  have e3:=A3h (ph:=γ.ph) hj .d1 d5c
  rw [hp]at e2 e3
  simp only [d34,d5c,Nat.add_zero]at e2 e3
  exact O.work hj (hun hj hp sM) sM (by rw [hp];rfl) (by rw [e2,e3];exact O.wq) (by rw [e2,e3];exact O.wn) O.post (by rw [hp];rfl)
 | @d1 j hj hp=>
  have e2:=A3h (ph:=γ.ph) hj .d2 d34
  have e3:=A3h (ph:=γ.ph) hj .d2 d5c
  rw [hp]at e2 e3
  simp only [d34,d5c,Nat.add_zero]at e2 e3
  exact O.work hj (hun hj hp sM) sM (by rw [hp];rfl) (by rw [e2,e3];exact O.wq) (by rw [e2,e3];exact O.wn) O.post (by rw [hp];rfl)
 | @d2 j v hj hp hv hw=>
  have e2:=A3h (ph:=γ.ph) hj .off d34
  have e3:=A3h (ph:=γ.ph) hj .off d5c
  rw [hp]at e2 e3
  simp only [d34,d5c,Nat.add_zero]at e2 e3
  refine O.work hj (hun hj hp sM) sM (by rw [hp];simp only [A3y];omega) (fun e=>?_) (by rw [e2,e3];exact O.wn) (fun e=>by have:=O.post e;omega) (by rw [hp];rfl)
  rw [e2,e3]
  rcases O.wq e with ⟨a,b,c,d⟩|⟨a,b,c,d⟩
  ·exact .inl ⟨a,b,fun hv0=>by omega,fun _=>d oM⟩
  ·omega
 | @d2L j hj hp hv hw=>
  have e2:=A3h (ph:=γ.ph) hj .d3 d34
  have e3:=A3h (ph:=γ.ph) hj .d3 d5c
  rw [hp]at e2 e3
  simp only [d34,d5c,Nat.add_zero]at e2 e3
  refine O.work hj (hun hj hp sM) sM (by rw [hp];simp only [A3y];omega) (fun e=>?_) (fun e=>?_) (fun e=>rfl) (by rw [hp];rfl)
  ·rw [e2,e3]
   rcases O.wq e with ⟨a,b,c,d⟩|⟨a,b,c,d⟩
   ·exact .inl ⟨a,b,fun _=>by have:=d oM;omega,fun h=>absurd Y h⟩
   ·omega
  ·have:=(O.wn e).1;omega
 | @d3 j hj hp=>
  have e2:=A3h (ph:=γ.ph) hj .d4 d34
  have e3:=A3h (ph:=γ.ph) hj .d4 d5c
  rw [hp]at e2 e3
  simp only [d34,d5c,Nat.add_zero]at e2 e3
  have e2:Sw J (upd γ.ph j .d4) d34=Sw J γ.ph d34:=oM
  exact O.work hj (hun hj hp sM) sM (by rw [hp];rfl) (by rw [e2,e3];exact O.wq) (by rw [e2,e3];exact O.wn) O.post (by rw [hp];rfl)
 | @d4 j hj hp=>
  have e2:=A3h (ph:=γ.ph) hj .d5 d34
  have e3:=A3h (ph:=γ.ph) hj .d5 d5c
  have e4:=le_Sw (ph:=γ.ph) hj d34
  rw [hp]at e2 e3 e4
  simp only [d34,d5c,Nat.add_zero]at e2 e3 e4
  refine O.work hj (hun hj hp sM) sM (by rw [hp];rfl) (fun e=>?_) (fun e=>?_) O.post (by rw [hp];rfl)
  ·rcases O.wq e with ⟨a,b,c,d⟩|⟨a,b,c,d⟩
   ·have hv:γ.v=0:=by
     apply Classical.byContradiction
     intro hv
     have:=d hv
     omega
    have:=c hv
    exact .inr ⟨Y,hv,oM,oM⟩
   ·omega
  ·have:=(O.wn e).2.1;omega
 | @d5 j hj hp=>
  have e2:=A3h (ph:=γ.ph) hj .off d34
  have e3:=A3h (ph:=γ.ph) hj .off d5c
  have e4:=le_Sw (ph:=γ.ph) hj d5c
  rw [hp]at e2 e3 e4
  simp only [d34,d5c,Nat.add_zero]at e2 e3 e4
  refine O.work hj (hun hj hp sM) sM (by rw [hp];rfl) (fun e=>?_) (fun e=>?_) O.post (by rw [hp];rfl)
  ·rcases O.wq e with ⟨a,b,c,d⟩|⟨a,b,c,d⟩
   ·omega
   ·exact .inr ⟨a,b,oM,oM⟩
  ·have:=(O.wn e).2.2;omega
theorem cmm_eq{j:Nat}{m:M}{l g:List M}(h1:γ.ph j = .sd (m::l))(h2:γ.mn = .rc g):cmm base γ (base+j)={γ with ph:=upd γ.ph j (.sd l),mn:=.rc (g++[m]),s:=γ.s+1 }:=by
 unfold cmm
 rw [show base+j-base=j by omega,h1,h2]
theorem fnd_eq{g:List M}(h:γ.mn = .rc g):fnd γ={γ with mn:=.fin g }:=by
 unfold fnd
 rw [h]
theorem Ok.comm(O:Ok J Ls γ){j:Nat}(hj:j<J){m:M}{l g:List M}(h1:γ.ph j = .sd (m::l))(h2:γ.mn = .rc g):Ok J Ls {γ with ph:=upd γ.ph j (.sd l),mn:=.rc (g++[m]),s:=γ.s+1 }:=by
 have e1:=A3h (ph:=γ.ph) hj (.sd l) A3y
 have e2:=A3h (ph:=γ.ph) hj (.sd l) d34
 have e3:=A3h (ph:=γ.ph) hj (.sd l) d5c
 rw [h1]at e1 e2 e3
 simp only [A3y,d34,d5c,Nat.add_zero]at e1 e2 e3
 have k3:=O.cnt
 have hp:=O.perm
 have hst:=O.stw (by rw [h2];rfl)
 rw [h2]at k3 hp
 refine⟨fun k e=>(by cases e),fun e=>(by cases e),fun _=>hst,fun k=>?_,O.cls,?_,?_,?_,O.post,O.wcn,?_,fun e=>(by cases e)⟩
 ·show upd γ.ph j _ k = .un↔_
  by_cases e:k=j
  ·subst e
   rw [upd_same]
   exact⟨fun h=>(by cases h),fun h=>absurd ((O.uns k).2 h) (by rw [h1];simp)⟩
  ·rw [upd_ne _ _ e];exact O.uns k
 ·show γ.v=Sw J (upd γ.ph j _) A3y+0
  simp only [pend]at k3
  omega
 ·show isQ γ.cl=true→_
  dsimp only
  rw [e2,e3];exact O.wq
 ·show isQ γ.cl=false→_
  dsimp only
  rw [e2,e3];exact O.wn
 ·show((g++[m])++cat J (fun a=>left Ls a (upd γ.ph j (.sd l) a))).Perm _
  refine List.Perm.trans ?_ hp
  rw [List.append_assoc]
  refine List.Perm.append_left g ?_
  have:=cat_take (f:=fun a=>left Ls a (γ.ph a)) (i:=j) (m:=m) (l:=l) (by rw [h1];rfl) hj
  rw [A7b (f:=fun a=>left Ls a (upd γ.ph j (.sd l) a)) (g:=upd (fun a=>left Ls a (γ.ph a)) j l) fun a ha=>by
   by_cases e:a=j
   ·subst e;rw [upd_same,upd_same];rfl
   ·rw [upd_ne _ _ e,upd_ne _ _ e]]
  exact this
theorem Ok.found(O:Ok J Ls γ){g:List M}(h2:γ.mn = .rc g)(h3:γ.cl = .off):Ok J Ls {γ with mn:=.fin g }:=by
 have k3:=O.cnt
 have hp:=O.perm
 have hst:=O.stw (by rw [h2];rfl)
 rw [h2]at k3 hp
 exact⟨fun k e=>(by cases e),fun e=>(by cases e),fun _=>hst,O.uns,O.cls,k3,O.wq,O.wn,O.post,O.wcn,hp,fun _=>h3⟩
theorem Ok.gone(O:Ok J Ls γ)(h:isP γ.cl=true):∀j,j<J→γ.ph j = .off:=by
 have hv:=O.post h
 have hq:isQ γ.cl=false:=by cases hm:γ.cl<;>rw [hm]at h<;>first|rfl|cases h
 obtain⟨_,h34,h5⟩:=O.wn hq
 have hc:=O.cnt
 have hst:γ.st=J+1:=by
  have h1:=O.stJ
  have h2:¬γ.st≤J:=fun e=>by
   have:=O.cls.2 e
   rw [this]at h;cases h
  omega
 intro j hj
 have e1:=le_Sw (ph:=γ.ph) hj A3y
 have e2:=le_Sw (ph:=γ.ph) hj d34
 have e3:=le_Sw (ph:=γ.ph) hj d5c
 have e4:=O.uns j
 cases hp:γ.ph j<;>rw [hp]at e1 e2 e3 e4<;>simp only [A3y,d34,d5c]at e1 e2 e3<;>first|rfl|(have:=e4.1 rfl;omega)|omega
end
end Go.Pal.Fan
end
