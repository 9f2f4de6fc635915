/- Part 8. -/
import Derived.Test.YtiolobmgibdfmaaGreatPag
set_option linter.all false
section
namespace Go.Pal
open Go Go.Conc View
open Go.ConcN (sumTo upd sumTo_upd upd_ne upd_same RelBy sumTo_congr)
section
variable{P:Program}{Pr:Proto}{base:Nat}{K:View→Goroutine→Prop}{S:Nat→Prop}{v0:View}{w0:World}{γ γ':Pr.G}{vs:Nat→View}{Ts:Nat→Tree}{ns:Nat→Nat}{gs:Array Goroutine}{w:World}{t:Trace}
theorem PInv.spawn(hb:0<base)(L:Laws Pr base)(I:PInv P Pr base K S v0 w0 γ vs Ts ns gs w t){g g' child:Goroutine}{τ σ0 σc:Pr.T}{u v' vc:View}{T Tc:Tree}{n:Nat}(hi:gs[0]?=some g)(hth:Pr.th γ 0=some τ)(hu:u.Le (vs 0))
    (htr:Pr.tr γ 0 γ')(hsz:Pr.size γ'=Pr.size γ+1)(ht:Pr.th γ' 0=some σ0)(hc:Pr.th γ' (Pr.size γ)=some σc)
    (hd:Pr.deaf τ=0)(hd':Pr.deaf σ0=0)(hdc:Pr.deaf σc=0)(hrel:Pr.rel σc=false)(hacq:Pr.acq σ0=false)(hsh:Pr.sh γ'=Pr.sh γ)
    (hv':v'.Le u)(hvc:∀b x,vc b=some x→∃p,u b=some (p,x.2)∧(x.1=true→p=true))(hex:∀b,(v'.Owns b→vc b=none)∧(vc.Owns b→v' b=none))
    (hn:Pr.rank γ'≤n)(hT:Sit P Pr K 0 σ0 n T v' g' γ')(hTc:Sit P Pr K (Pr.size γ) σc n Tc vc child γ')
    (hnw:∀j,j≠0→Pr.blocks γ j→Pr.blocks γ' j)(fn₁ fn₂:FuncId)(pos₁ pos₂:String) :
    PInv P Pr base K S v0 w0 γ' (upd (upd vs 0 v') (Pr.size γ) vc) (upd (upd Ts 0 T) (Pr.size γ) Tc) (upd (upd ns 0 n) (Pr.size γ) n) ((gs.setIfInBounds 0 g').push child) w (t++#[{g:=0,fn:=fn₁,pos:=pos₁,act:=.go (Pr.size γ) },{g:=Pr.size γ,fn:=fn₂,pos:=pos₂,act:=.start }]):=by
  have hok':=L.ok I.ok htr
  have hrank:=L.rank I.ok htr
  have hbl:=L.baseLe I.ok
  have hc0:Pr.size γ≠0:=oM
  have hnone:Pr.th γ (Pr.size γ)=none:=by
    cases h:Pr.th γ (Pr.size γ)with
    | none=>rfl
    | some σ=>
      rcases L.lt I.ok h with x|⟨_,x⟩
      · omega
      · omega
  have hoth:∀j,j≠0→j≠Pr.size γ→Pr.th γ' j=Pr.th γ j:=fun j h1 h2=>L.oth I.ok htr j h1 h2
  have hdeaf:∀j,Deaf (t++#[({g:=0,fn:=fn₁,pos:=pos₁,act:=.go (Pr.size γ) }:MemOp),{g:=Pr.size γ,fn:=fn₂,pos:=pos₂,act:=.start }]) j=Deaf t j:=fun j=>by
    have:t++#[({g:=0,fn:=fn₁,pos:=pos₁,act:=.go (Pr.size γ) }:MemOp),{g:=Pr.size γ,fn:=fn₂,pos:=pos₂,act:=.start }]=(t++#[({g:=0,fn:=fn₁,pos:=pos₁,act:=.go (Pr.size γ) }:MemOp)])++#[({g:=Pr.size γ,fn:=fn₂,pos:=pos₂,act:=.start }:MemOp)]:=by apply Array.ext';simp
    rw [this,Deaf_push,Deaf_push]
    simp only [deafStep]
  have hvd:∀b,v' b≠none→vs 0 b≠none:=fun b h=>by
    cases h':v' b with
    | none=>exact absurd h' h
    | some x=>rw [hu _ _ (hv' _ _ h')];simp
  have hvo:∀b,v'.Owns b→(vs 0).Owns b:=fun b ⟨o,ho⟩=>⟨o,hu _ _ (hv' _ _ ho)⟩
  have hcd:∀b,vc b≠none→vs 0 b≠none:=fun b h=>by
    cases h':vc b with
    | none=>exact absurd h' h
    | some x=>
      obtain⟨p,hp,_⟩:=hvc b x h'
      rw [hu _ _ hp];simp
  have hco:∀b,vc.Owns b→(vs 0).Owns b:=fun b ⟨o,ho⟩=>by
    obtain⟨p,hp,hp'⟩:=hvc b _ ho
    obtain rfl:=hp' rfl
    exact⟨o,hu _ _ hp⟩
  have hgs:∀j x,((gs.setIfInBounds 0 g').push child)[j]?=some x→(j=Pr.size γ∧x=child)∨(j=0∧x=g')∨(j≠0∧j≠Pr.size γ∧gs[j]?=some x):=fun j x hx=>by
    have hs:=I.size
    obtain⟨hlt,_⟩:=Array.getElem?_eq_some_iff.1 hi
    rw [Array.getElem?_push]at hx
    simp only [Array.size_setIfInBounds]at hx
    split at hx
    · rename_i e
      exact .inl ⟨oM,(Option.some.inj hx).symm⟩
    · rename_i e
      by_cases h0:j=0
      · subst h0
        rw [Array.getElem?_setIfInBounds_self_of_lt hlt]at hx
        exact .inr (.inl ⟨Z,(Option.some.inj hx).symm⟩)
      · rw [Array.getElem?_setIfInBounds_ne oM]at hx
        exact .inr (.inr ⟨h0,oM,hx⟩)
  have hvs0:(upd (upd vs 0 v') (Pr.size γ) vc) 0=v':=by rw [upd_ne _ _ (Ne.symm hc0),upd_same]
  have hcase:∀j,(j=Pr.size γ∧(upd (upd vs 0 v') (Pr.size γ) vc) j=vc)∨(j=0∧(upd (upd vs 0 v') (Pr.size γ) vc) j=v')∨(j≠0∧j≠Pr.size γ∧(upd (upd vs 0 v') (Pr.size γ) vc) j=vs j):=fun j=>by
    by_cases e:j=Pr.size γ
    · subst e;exact .inl ⟨rfl,upd_same _ _ _⟩
    · by_cases e0:j=0
      · subst e0;exact .inr (.inl ⟨rfl,hvs0⟩)
      · exact .inr (.inr ⟨e0,e,by rw [upd_ne _ _ e,upd_ne _ _ e0]⟩)
  have hvsc:vs (Pr.size γ)=noView:=I.nov _ hnone
  have hnewd:∀j b,(upd (upd vs 0 v') (Pr.size γ) vc) j b≠none→vs 0 b≠none∨vs j b≠none:=fun j b h=>by
    rcases hcase j with ⟨_,e⟩|⟨_,e⟩|⟨_,_,e⟩<;>rw [e]at h
    · exact .inl (hcd b h)
    · exact .inl (hvd b h)
    · exact .inr h
  have hnewo:∀j b,((upd (upd vs 0 v') (Pr.size γ) vc) j).Owns b→(vs 0).Owns b∨(vs j).Owns b:=fun j b h=>by
    rcases hcase j with ⟨_,e⟩|⟨_,e⟩|⟨_,_,e⟩<;>rw [e]at h
    · exact .inl (hco b h)
    · exact .inl (hvo b h)
    · exact .inr h
  have hs:=I.size
  refine⟨by simp [hsz,hs],hok',fun j=>?_,fun j x σ hx hσ=>?_,fun j x hx hnn=>?_,fun j hj=>?_,fun j=>?_,by rw [hsh];exact I.agreeS,fun j k hjk b hO=>?_,fun j b=>?_,fun j hnn=>?_,fun b hSb=>?_,?_,I.calm,I.tape,I.output,I.os,I.heap,I.keep,fun j b hne=>?_,fun j b hO=>?_,by rw [hsh];exact I.ownS⟩
  · by_cases e:j=Pr.size γ
    · subst e;rw [upd_same];exact hn
    · rw [upd_ne _ _ e]
      by_cases e0:j=0
      · subst e0;rw [upd_same];exact hn
      · rw [upd_ne _ _ e0];have:=I.lev j;omega
  · rcases hgs j x hx with ⟨rfl,rfl⟩|⟨rfl,rfl⟩|⟨h1,h2,h3⟩
    · rw [upd_same,upd_same,upd_same]
      rw [hc]at hσ;cases hσ;exact hTc
    · rw [upd_ne _ _ (Ne.symm hc0),upd_ne _ _ (Ne.symm hc0),upd_ne _ _ (Ne.symm hc0),upd_same,upd_same,upd_same]
      rw [ht]at hσ;cases hσ;exact hT
    · rw [upd_ne _ _ h2,upd_ne _ _ h2,upd_ne _ _ h2,upd_ne _ _ h1,upd_ne _ _ h1,upd_ne _ _ h1]
      rw [hoth j h1 h2]at hσ
      rcases I.sit j x σ h3 hσ with h|h|⟨a,b,c⟩
      · exact .inl h
      · exact .inr (.inl h)
      · exact .inr (.inr ⟨a,hnw j h1 b,c⟩)
  · rcases hgs j x hx with ⟨rfl,rfl⟩|⟨rfl,rfl⟩|⟨h1,h2,h3⟩
    · rw [hc]at hnn;cases hnn
    · rw [ht]at hnn;cases hnn
    · rw [hoth j h1 h2]at hnn
      obtain⟨q,h4,h5⟩:=I.gone j x h3 hnn
      rw [upd_ne _ _ h2,upd_ne _ _ h1,hdeaf]
      exact⟨q,h4,h5⟩
  · rw [hdeaf]
    refine I.above j ?_
    simp at hj;omega
  · rcases hcase j with ⟨_,e⟩|⟨_,e⟩|⟨_,_,e⟩<;>rw [e]
    · intro b p o hbo
      obtain⟨p',hp,_⟩:=hvc b _ hbo
      exact I.agree 0 b p' o (hu _ _ hp)
    · exact(I.agree 0).le (hv'.trans hu)
    · exact I.agree j
  · rcases hcase j with ⟨e1,e⟩|⟨e1,e⟩|⟨e1,e1',e⟩<;>rcases hcase k with ⟨e2,f⟩|⟨e2,f⟩|⟨e2,e2',f⟩<;>rw [e]at hO<;>rw [f]
    · exact absurd (e1.trans e2.symm) hjk
    · exact(hex b).2 hO
    · exact I.excl 0 k (Ne.symm e2) b (hco b hO)
    · exact(hex b).1 hO
    · exact absurd (e1.trans e2.symm) hjk
    · exact I.excl 0 k (Ne.symm e2) b (hvo b hO)
    · apply Classical.byContradiction
      intro h
      exact hcd b h (I.excl j 0 e1 b hO)
    · apply Classical.byContradiction
      intro h
      exact hvd b h (I.excl j 0 e1 b hO)
    · exact I.excl j k hjk b hO
  · rw [hsh]
    apply Classical.byContradiction
    intro h
    simp only [not_or]at h
    rcases hnewd j b h.1 with x|x
    · exact(I.disj 0 b).elim x h.2
    · exact(I.disj j b).elim x h.2
  · rcases hcase j with ⟨rfl,_⟩|⟨rfl,_⟩|⟨e1,e1',e⟩
    · rw [hc]at hnn;cases hnn
    · rw [ht]at hnn;cases hnn
    · rw [e];exact I.nov j (by rw [←hoth j e1 e1'];exact hnn)
  · obtain⟨h1,h2,h3⟩:=I.shun b hSb
    refine⟨fun j=>?_,by rw [hsh];exact h2,h3⟩
    apply Classical.byContradiction
    intro h
    exact(hnewd j b h).elim (fun x=>x (h1 0)) (fun x=>x (h1 j))
  · exact I.ti.spawn hb hbl hth hd (I.above _ (by rw [I.size];exact Nat.le_refl _)) Z hnone ht hc hoth hsz hd' hdc hrel hacq (fun b h=>by rw [hsh]at h;exact h) hvd hvo hcd hco fn₁ fn₂ pos₁ pos₂
  · rcases hnewd j b hne with x|x
    · exact I.dom 0 b x
    · exact I.dom j b x
  · rcases hnewo j b hO with x|x
    · exact I.own 0 b x
    · exact I.own j b x
theorem PInv.block(I:PInv P Pr base K S v0 w0 γ vs Ts ns gs w t){i:Nat}{g:Goroutine}{τ:Pr.T}{u:View}(hi:gs[i]?=some g)(hth:Pr.th γ i=some τ)(hT:Ts i = .leaf)(hu:u.Le (vs i))(hA:AtF P Pr K (Job P Pr K (ns i)) i τ u g)(hv:Pr.rel τ=true→vs i=noView)(hbl:Pr.blocks γ i) :
    PInv P Pr base K S v0 w0 γ vs Ts ns ((gs.map (woken P g {g with status:=.blocked } w)).setIfInBounds i {g with status:=.blocked }) w t:=by
  have hwk:∀x,woken P g {g with status:=.blocked } w x=x:=fun x=>by unfold woken;simp
  refine {I with size:=by simpa using I.size,sit:=fun j x σ hx hσ=>?_,gone:=fun j x hx hn=>?_,above:=fun j hj=>I.above j (by simpa using hj) }
  · by_cases e:j=i
    · subst e
      rw [hth]at hσ;cases hσ
      rw [A8m hi hx]
      exact .inr (.inr ⟨hT,hbl,u,g,hu,Z,hA,hv⟩)
    · obtain⟨y,hy,rfl⟩:=A4c e hx
      rw [hwk]
      exact I.sit j y σ hy hσ
  · have e:j≠i:=fun e=>by subst e;rw [hth]at hn;cases hn
    obtain⟨y,hy,rfl⟩:=A4c e hx
    rw [hwk]
    exact I.gone j y hy hn
theorem PInv.muteStep(I:PInv P Pr base K S v0 w0 γ vs Ts ns gs w t){i:Nat}{g g':Goroutine}{τ:Pr.T}{T:Tree}(hi:gs[i]?=some g)(hth:Pr.th γ i=some τ)(hT:Sit P Pr K i τ (ns i) T (vs i) g' γ) :
    PInv P Pr base K S v0 w0 γ vs (upd Ts i T) ns ((gs.map (woken P g g' w)).setIfInBounds i g') w t:=by
  refine {I with size:=by simpa using I.size,sit:=fun j x σ hx hσ=>?_,gone:=fun j x hx hn=>?_,above:=fun j hj=>I.above j (by simpa using hj) }
  · by_cases e:j=i
    · subst e
      rw [hth]at hσ;cases hσ
      rw [A8m hi hx,upd_same]
      exact hT
    · obtain⟨y,hy,rfl⟩:=A4c e hx
      rw [upd_ne _ _ e]
      exact(I.sit j y σ hy hσ).other fun a b=>absurd a b
  · have e:j≠i:=fun e=>by subst e;rw [hth]at hn;cases hn
    obtain⟨y,hy,rfl⟩:=A4c e hx
    obtain⟨q,h1,h2⟩:=I.gone j y hy hn
    rw [upd_ne _ _ e,woken_quitsD h2]
    exact⟨q,h1,h2⟩
theorem PInv.slip(L:Laws Pr base)(I:PInv P Pr base K S v0 w0 γ vs Ts ns gs w t){i k:Nat}{g g':Goroutine}{es:Array Event}(hi:gs[i]?=some g)(hth:Pr.th γ i=none)(hm:∀e∈es,e.mute=true)(hq:QuitsD P k (deafBehind (Deaf t i) es) g') :
    PInv P Pr base K S v0 w0 γ vs (upd Ts i (Tree.ofNat k)) ns ((gs.map (woken P g g' w)).setIfInBounds i g') w (t++MemOp.ofEvents i g.frame.fn g.frame.place es):=by
  have hi0:i≠0:=fun e=>by
    obtain⟨τ,h,_⟩:=L.main I.ok
    rw [e,h]at hth;cases hth
  refine {I with size:=by simpa using I.size,sit:=fun j x σ hx hσ=>?_,gone:=fun j x hx hn=>?_,above:=fun j hj=>?_,ti:=I.ti.slip hth hi0 hm }
  · have e:j≠i:=fun e=>by subst e;rw [hth]at hσ;cases hσ
    obtain⟨y,hy,rfl⟩:=A4c e hx
    rw [upd_ne _ _ e]
    exact(I.sit j y σ hy hσ).other fun a b=>absurd a b
  · by_cases e:j=i
    · subst e
      rw [A8m hi hx,upd_same,Deaf_own]
      exact⟨k,Z,hq⟩
    · obtain⟨y,hy,rfl⟩:=A4c e hx
      obtain⟨q,h1,h2⟩:=I.gone j y hy hn
      rw [upd_ne _ _ e,woken_quitsD h2,Deaf_other t (g':=i) (Ne.symm e) _ opsG]
      exact⟨q,h1,h2⟩
  · have hji:j≠i:=fun e=>by
      subst e
      have:=(Array.getElem?_eq_some_iff.1 hi).1
      simp at hj;omega
    rw [Deaf_other t (g':=i) (Ne.symm hji) _ opsG]
    exact I.above j (by simpa using hj)
end
section
variable{P:Program}{Pr:Proto}{base:Nat}{K:View→Goroutine→Prop}{S:Nat→Prop}{v0:View}{w0:World}{γ γ':Pr.G}{vs:Nat→View}{Ts:Nat→Tree}{ns:Nat→Nat}{gs:Array Goroutine}{w:World}{t:Trace}
theorem job_sit{n i:Nat}{τ:Pr.T}{v:View}{g:Goroutine}(h:Job P Pr K (n+1) i τ v g)(γ:Pr.G):∃T,Sit P Pr K i τ n T v g γ:=by
 rcases h with ⟨h1,h2⟩|⟨h1,h2,h3⟩
 ·obtain⟨T,hT⟩:=runT_of h2
  exact⟨T,.inl ⟨h1,hT⟩⟩
 ·obtain⟨T,hT⟩:=runM_of h3
  exact⟨T,.inr (.inl ⟨h1,h2,hT⟩)⟩
theorem job_running{n i:Nat}{τ:Pr.T}{v:View}{g:Goroutine}(h:Job P Pr K (n+1) i τ v g):g.status = .running:=by
 rcases h with ⟨_,h2⟩|⟨_,_,h3⟩
 ·obtain⟨T,hT⟩:=runT_of h2
  exact hT.running fun _ _ x=>AtF.running x
 ·obtain⟨T,hT⟩:=runM_of h3
  exact hT.running fun _ x=>AtF.running x
def Below(a b:Nat×List Tree×Nat):Prop:=a.1<b.1∨(a.1=b.1∧(LL a.2.1 b.2.1∨(a.2.1=b.2.1∧a.2.2<b.2.2)))
theorem below_acc:∀(r:Nat) (l:List Tree) (c:Nat),Acc Below (r,l,c):=by
 intro r
 induction r using Nat.strongRecOn with
 | _ r ihr=>
  intro l
  induction LL.acc l with
  | intro l _ ihl=>
   intro c
   induction c using Nat.strongRecOn with
   | _ c ihc=>
    refine⟨_,fun y hy=>?_⟩
    obtain⟨r',l',c'⟩:=y
    rcases hy with h|⟨h1,h|⟨h2,h3⟩⟩
    ·exact ihr r' h l' c'
    ·simp only at h1;subst h1;exact ihl l' h c'
    ·simp only at h1 h2;subst h1 h2;exact ihc c' h3
theorem below_wf:WellFounded Below:=⟨fun⟨r,l,c⟩=>below_acc r l c⟩
def AtOver(P:Program)(Pr:Proto)(base:Nat)(K:View→Goroutine→Prop)(S:Nat→Prop)(v0:View)(w0:World)(m:Machine)(t:Trace):Prop:=
 ∃(γ:Pr.G) (vs:Nat→View) (Ts:Nat→Tree) (ns:Nat→Nat) (gs:Array Goroutine) (w:World) (sl:Option (Nat×Nat)) (u:View) (g:Goroutine),m=crowd gs w sl∧PInv P Pr base K S v0 w0 γ vs Ts ns gs w t∧gs[0]?=some g∧Pr.over γ∧u.Le (vs 0)∧K (u.union (Pr.rest γ)) g
theorem runs_block{i:Nat}{g:Goroutine}(hi:gs[i]?=some g)(hr:g.status = .running){g':Goroutine}(hg':g'.status = .blocked)(hid:∀x,woken P g g' w x=x):B1p ((gs.map (woken P g g' w)).setIfInBounds i g')<B1p gs:=by
 obtain⟨hlt,_⟩:=Array.getElem?_eq_some_iff.1 hi
 have hmap:gs.map (woken P g g' w)=gs:=by
  have:woken P g g' w=id:=by funext x;exact hid x
  rw [this,Array.map_id]
 rw [hmap]
 unfold B1p
 simp only [Array.size_setIfInBounds]
 let f:Nat→Nat:=fun j=>runB gs[j]?
 have h1:=sumTo_upd f 0 id hlt
 have h2:f i=1:=by simp [f,hi,hr,runB]
 have h3:sumTo gs.size (fun j=>runB (gs.setIfInBounds i g')[j]?)=sumTo gs.size (fun a=>id (upd f i 0 a)):=by
  refine sumTo_congr fun j _=>?_
  by_cases e:j=i
  ·subst e
   rw [upd_same,Array.getElem?_setIfInBounds_self_of_lt hlt]
   simp [runB,hg']
  ·rw [upd_ne f 0 e,Array.getElem?_setIfInBounds_ne (Ne.symm e)]
   rfl
 rw [h3]
 simp only [id]at h1⊢
 rw [h2]at h1
 show sumTo gs.size (fun a=>upd f i 0 a)<sumTo gs.size (fun a=>f a)
 omega
theorem pinv_awake(I:PInv P Pr base K S v0 w0 γ vs Ts ns gs w t):∀x∈gs,awake x:=by
 intro x hx
 obtain⟨j,hj,rfl⟩:=Array.mem_iff_getElem.1 hx
 cases h:Pr.th γ j with
 | some τ=>
  rcases (I.sit j gs[j] τ (Array.getElem?_eq_getElem hj) h).status with e|e<;>intro y<;>rw [e]<;>simp
 | none=>
  obtain⟨q,_,h2⟩:=I.gone j gs[j] (Array.getElem?_eq_getElem hj) h
  rcases h2.status with e|e<;>intro y<;>rw [e]<;>simp
theorem pinv_step(hb:0<base)(L:Laws Pr base)(hwk:∀{γ γ':Pr.G},Pr.ok γ→Pr.tr γ 0 γ'→Pr.size γ'=Pr.size γ+1→∀j,j≠0→Pr.blocks γ j→Pr.blocks γ' j)(sl:Option (Nat×Nat))(I:PInv P Pr base K S v0 w0 γ vs Ts ns gs w t) :
  AtOver P Pr base K S v0 w0 (crowd gs w sl) t∨∃γ' vs' Ts' ns' gs' w' sl' ops,stepT P (crowd gs w sl)=(.next (crowd gs' w' sl'),ops)∧PInv P Pr base K S v0 w0 γ' vs' Ts' ns' gs' w' (t++ops)∧
   Below (Pr.rank γ',rowT gs'.size Ts',B1p gs') (Pr.rank γ,rowT gs.size Ts,B1p gs):=by
 obtain⟨i0,τ0,hl1,hl2⟩:=L.live I.ok
 have hi0:i0<gs.size:=by
  rw [I.size]
  rcases L.lt I.ok hl1 with x|x
  ·have:=L.baseLe I.ok;omega
  ·exact x.2
 have hr0:gs[i0].status = .running:=by
  rcases I.sit i0 gs[i0] τ0 (Array.getElem?_eq_getElem hi0) hl1 with ⟨_,h⟩|⟨_,_,h⟩|⟨_,h,_⟩
  ·exact h.running fun _ _ x=>AtF.running x
  ·exact h.running fun _ x=>AtF.running x
  ·exact absurd h hl2
 obtain⟨i,g,d,sl',hi,hg,hst⟩:=crowd_pick (P:=P) (w:=w) (sl:=sl) (pinv_awake I) ⟨i0,_,Array.getElem?_eq_getElem hi0,hr0⟩
 have Id:=I.at d
 have hilt:i<gs.size:=(Array.getElem?_eq_some_iff.1 hi).1
 cases hth:Pr.th γ i with
 | none=>
  -- a leaver
  obtain⟨q,hq1,hq2⟩:=I.gone i g hi hth
  have hi0:i≠0:=fun e=>by
   obtain⟨τ,h,_⟩:=L.main I.ok
   rw [e,h]at hth;cases hth
  cases q with
  | zero=>rw [hq2.1]at hg;cases hg
  | succ k=>
   rcases hq2 with ⟨hf,_⟩|⟨_,g',es,hm,hstp,hq'⟩
   ·rw [hf]at hg;cases hg
   have hrunT:=runT_crowd_go (P:=P) (sl:=sl') (i:=i) hi (by rw [show(i==0)=false by simpa using hi0];exact hstp (w.at d))
   refine .inr ⟨γ,vs,_,ns,_,_,sl',_,hst.trans hrunT,Id.slip L hi hth hm hq',.inr ⟨Z,.inl ?_⟩⟩
   simp only [Array.size_setIfInBounds,Array.size_map]
   refine LL.upd ?_ hilt
   rw [hq1]
   exact .sub (fun _=>Tree.ofNat k) (w.at d)
 | some τ=>
  -- at a stop
  have atStop:∀u,u.Le (vs i)→Ts i = .leaf→(Pr.rel τ=true→vs i=noView)→AtF P Pr K (Job P Pr K (ns i)) i τ u g→
    AtOver P Pr base K S v0 w0 (crowd gs w sl) t∨∃γ' vs' Ts' ns' gs' w' sl' ops,stepT P (crowd gs w sl)=(.next (crowd gs' w' sl'),ops)∧PInv P Pr base K S v0 w0 γ' vs' Ts' ns' gs' w' (t++ops)∧
     Below (Pr.rank γ',rowT gs'.size Ts',B1p gs') (Pr.rank γ,rowT gs.size Ts,B1p gs):=by
   intro u hu hT hv hA
   obtain⟨_,hoff,hwake,hstop⟩:=hA
   have hdisj:Disj u (Pr.sh γ):=fun b=>(I.disj i b).imp (fun e=>by
    cases hub:u b with
    | none=>rfl
    | some x=>rw [hu _ _ hub]at e;cases e) id
   obtain⟨hblk,hgo⟩:=hstop γ (w.at d) I.ok hth ((Id.agree i).le hu) Id.agreeS hdisj Id.calm
   by_cases hbl:Pr.blocks γ i
   ·have hrunT:=runT_crowd_go (P:=P) (sl:=sl') (i:=i) hi (hblk hbl)
    have hI:=Id.block hi hth hT hu ⟨hg,hoff,hwake,hstop⟩ hv hbl
    refine .inr ⟨γ,vs,Ts,ns,_,_,sl',_,hst.trans hrunT,?_,.inr ⟨Z,.inr ⟨?_,?_⟩⟩⟩
    ·rw [ofEvents_none,Array.append_empty];exact hI
    ·simp
    ·exact runs_block hi hg Z fun x=>by unfold woken;simp
   ·obtain⟨m,hm⟩:∃m,ns i=m+1∨ns i=0:=⟨ns i-1,oM⟩
    cases hgo hbl with
    | on γ' τ' u' g' w' es h hS ht hr hx=>
     have hrk:=L.rank I.ok hS.tr
     have hns:=I.lev i
     obtain⟨m,hm⟩:∃m,ns i=m+1:=⟨ns i-1,oM⟩
     rw [hm]at hx
     obtain⟨T,hSit⟩:=job_sit hx γ'
     have hrunT:=runT_crowd_go (P:=P) (sl:=sl') (i:=i) hi h
     exact .inr ⟨γ',_,_,_,_,_,sl',_,hst.trans hrunT,Id.syncStep hb L hi hth hu hwake (job_running hx) hS (n:=m) oM (.inl ⟨τ',ht,hSit⟩),.inl hrk⟩
    | quit γ' g' w' es q hi0 h hs hS ht hq=>
     have hrk:=L.rank I.ok hS.tr
     have hns:=I.lev i
     have hrunT:=runT_crowd_go (P:=P) (sl:=sl') (i:=i) hi (by rw [show(i==0)=false by simpa using hi0];exact h)
     exact .inr ⟨γ',_,_,_,_,_,sl',_,hst.trans hrunT,Id.syncStep hb L hi hth hu hwake hs hS (n:=ns i) oM (.inr ⟨hi0,ht,Z,q,Z,hq⟩),.inl hrk⟩
    | spawn γ' τ' τc u' uc g' child hi0 h htr hsz ht hc hd hd' hdc hrel hacq hsh hu' huc hex hx hxc=>
     subst hi0
     have hrk:=L.rank I.ok htr
     have hns:=I.lev 0
     obtain⟨m,hm⟩:∃m,ns 0=m+1:=⟨ns 0-1,oM⟩
     rw [hm]at hx hxc
     obtain⟨T,hSit⟩:=job_sit hx γ'
     obtain⟨Tc,hSitc⟩:=job_sit hxc γ'
     have hrunT:=runT_crowd_spawn (P:=P) (sl:=sl') (i:=0) hi (show stepG P (0==0) g (w.at d)=_ from h)
     refine .inr ⟨γ',upd (upd vs 0 u') (Pr.size γ) uc,upd (upd Ts 0 T) (Pr.size γ) Tc,upd (upd ns 0 m) (Pr.size γ) m,_,_,sl',_,hst.trans hrunT,?_,.inl hrk⟩
     have:=Id.spawn hb L hi hth hu htr hsz ht hc hd hd' hdc hrel hacq hsh hu' huc hex (n:=m) oM hSit hSitc (hwk I.ok htr hsz) g.frame.fn child.frame.fn g.frame.place g.frame.place
     rw [ofEvents_none,I.size]
     exact this
    | over hi0 h hk=>
     subst hi0
     exact .inl ⟨γ,vs,Ts,ns,gs,w,sl,u,g,Z,I,hi,h,hu,hk⟩
  rcases I.sit i g τ hi hth with ⟨h1,h2⟩|⟨h1,h2,h3⟩|⟨_,_,_,g₀,_,rfl,_⟩
  ·cases hT:Ts i with
   | leaf=>
    rw [hT]at h2
    obtain⟨u,hu,hA⟩:=h2
    exact atStop u hu hT (fun e=>by rw [h1]at e;cases e) hA
   | node f=>
    rw [hT]at h2
    obtain⟨g',w',es,v',h3,h4,h5⟩:=h2.2 (w.at d) ⟨γ,I.ok,Id.agreeS⟩ (Id.agree i)
    have hrunT:=runT_crowd_go (P:=P) (sl:=sl') (i:=i) hi h3
    refine .inr ⟨γ,_,_,ns,_,_,sl',_,hst.trans hrunT,Id.ownStep hb L hi hth h1 h4 h5,.inr ⟨Z,.inl ?_⟩⟩
    simp only [Array.size_setIfInBounds,Array.size_map]
    refine LL.upd ?_ hilt
    rw [hT]
    exact .sub f (w.at d)
  ·cases hT:Ts i with
   | leaf=>
    rw [hT]at h3
    exact atStop noView (by rw [h2];exact Le.refl _) hT (fun _=>h2) h3
   | node f=>
    rw [hT]at h3
    obtain⟨_,g',h4,h5⟩:=h3
    have hi0:i≠0:=fun e=>by
     obtain⟨σ,h,h'⟩:=L.main I.ok
     rw [e,h]at hth;cases hth;rw [h1]at h';cases h'
    have hrunT:=runT_crowd_go (P:=P) (sl:=sl') (i:=i) hi (by rw [show(i==0)=false by simpa using hi0];exact h4 (w.at d))
    have hI:=Id.muteStep (g':=g') (T:=f (w.at d)) hi hth (.inr (.inl ⟨h1,h2,h5 _⟩))
    refine .inr ⟨γ,vs,upd Ts i (f (w.at d)),ns,_,_,sl',_,hst.trans hrunT,?_,.inr ⟨Z,.inl ?_⟩⟩
    ·rw [ofEvents_none,Array.append_empty];exact hI
    ·simp only [Array.size_setIfInBounds,Array.size_map]
     refine LL.upd ?_ hilt
     rw [hT]
     exact .sub f (w.at d)
  ·cases hg
theorem pinv_run(hb:0<base)(L:Laws Pr base)(hwk:∀{γ γ':Pr.G},Pr.ok γ→Pr.tr γ 0 γ'→Pr.size γ'=Pr.size γ+1→∀j,j≠0→Pr.blocks γ j→Pr.blocks γ' j) :
  ∀ (μ:Nat×List Tree×Nat) (γ:Pr.G) (vs:Nat→View) (Ts:Nat→Tree) (ns:Nat→Nat) (gs:Array Goroutine) (w:World) (t:Trace) (sl:Option (Nat×Nat)),μ=(Pr.rank γ,rowT gs.size Ts,B1p gs)→PInv P Pr base K S v0 w0 γ vs Ts ns gs w t→
   ∃N m t',runNT P N (crowd gs w sl) t=(.next m,t')∧AtOver P Pr base K S v0 w0 m t':=by
 intro μ
 induction μ using below_wf.induction with
 | _ μ ih=>
  rintro γ vs Ts ns gs w t sl rfl I
  rcases pinv_step hb L hwk sl I with h|⟨γ',vs',Ts',ns',gs',w',sl',ops,h1,h2,h3⟩
  ·exact⟨0,_,t,Z,h⟩
  ·obtain⟨N,m,t',h4,h5⟩:=ih _ h3 γ' vs' Ts' ns' gs' w' _ sl' rfl h2
   exact⟨1+N,m,t',B0d (B2y h1) h4,h5⟩
end
end Go.Pal
end
section
namespace Go.Pal
open Go Go.Conc View
open Go.ConcN (sumTo upd upd_ne upd_same)
def Weak(u v:View):Prop:=∀b x,u b=some x→∃p,v b=some (p,x.2)∧(x.1=true→p=true)
theorem Weak.dom{u v:View}(h:Weak u v){b:Nat}(hb:u b≠none):v b≠none:=by
 cases e:u b with
 | none=>exact absurd e hb
 | some x=>obtain⟨p,hp,_⟩:=h b x e;rw [hp];simp
theorem Weak.own{u v:View}(h:Weak u v){b:Nat}(hb:u.Owns b):v.Owns b:=by
 obtain⟨o,ho⟩:=hb
 obtain⟨p,hp,hp'⟩:=h b _ ho
 obtain rfl:=hp' rfl
 exact⟨o,hp⟩
theorem Weak.agree{u v:View}(h:Weak u v){w:World}(hv:v.Agree w):u.Agree w:=fun b p o e=>by
 obtain⟨p',hp,_⟩:=h b _ e
 exact hv b p' o hp
structure Begins(P:Program)(v:View)(g:Goroutine)(K:View→Goroutine→Prop)(base:Nat)(Pr:Proto)(γ:Pr.G)(v1:View)(τ:Pr.T):Prop where
 laws:Laws Pr base
 wake0:∀{γ γ':Pr.G},Pr.ok γ→Pr.tr γ 0 γ'→Pr.size γ'=Pr.size γ+1→∀j,j≠0→Pr.blocks γ j→Pr.blocks γ' j
 ok:Pr.ok γ
 size:Pr.size γ=base
 th:Pr.th γ 0=some τ
 oth:∀j,j≠0→Pr.th γ j=none
 rel:Pr.rel τ=false
 deaf:Pr.deaf τ=0
 acq:Pr.acq τ=false
 weak:Weak v1 v
 sh:∀b x,Pr.sh γ b=some x→v b=some x∧x.1=true
 atb:∀b,Pr.atb b→Pr.sh γ b≠none
 disj:Disj v1 (Pr.sh γ)
 job:Job P Pr K (Pr.rank γ+1) 0 τ v1 g
theorem phase_big{P:Program}{v:View}{g:Goroutine}{K:View→Goroutine→Prop}(h:∀base,0<base→∃(Pr:Proto) (γ:Pr.G) (v1:View) (τ:Pr.T),Begins P v g K base Pr γ v1 τ):BigStep P v g K:=by
  classical
  intro gs w sl t q S hB
  have hbase:0<gs.size:=(Array.getElem?_eq_some_iff.1 hB.zero).1
  obtain⟨Pr,γ,v1,τ,B⟩:=h gs.size hbase
  obtain⟨T,hT⟩:=job_sit B.job γ
  have hknown:∀k a,touchAt t k=some a→a.loc.isMemory=true→v (blk a.loc)≠none→Knows t 0 k:=fun k a ha hm hv=>by
    rcases hB.past.known k a ha hm with x|⟨x,_⟩
    · exact x
    · exfalso
      obtain⟨l,wr,kd⟩:=a
      cases l with
      | cell a=>exact hv (hB.apart _ x)
      | _=>exact x.elim
  have hshv:∀b,Pr.sh γ b≠none→v b≠none∧v.Owns b:=fun b hb=>by
    cases e:Pr.sh γ b with
    | none=>exact absurd e hb
    | some x=>
      obtain⟨h1,h2⟩:=B.sh b x e
      obtain⟨p,o⟩:=x
      simp only at h2;subst h2
      exact⟨by rw [h1];simp,o,h1⟩
  have hact:∀i,Pr.th γ i≠none→i=0:=fun i hi=>Classical.byContradiction fun h0=>hi (B.oth i h0)
  let vs:Nat→View:=upd (fun _=>noView) 0 v1
  have hvs0:vs 0=v1:=upd_same _ _ _
  have hvsn:∀j,j≠0→vs j=noView:=fun j hj=>upd_ne _ _ hj
  have hvsd:∀j b,vs j b≠none→j=0∧v b≠none:=fun j b hb=>by
    by_cases e:j=0
    · subst e;rw [hvs0]at hb;exact⟨rfl,B.weak.dom hb⟩
    · rw [hvsn j e]at hb;exact absurd Z hb
  have I:PInv P Pr gs.size K S v w γ vs (upd (fun j=>Tree.ofNat (q j)) 0 T) (fun _=>Pr.rank γ) gs w t:=by
    refine⟨B.size.symm,B.ok,fun _=>Nat.le_refl _,fun j x σ hx hσ=>?_,fun j x hx hn=>?_,fun j hj=>hB.leave.above j hj,fun j=>?_,fun b p o e=>hB.agree b p o (B.sh b _ e).1,fun i j hij b hO=>?_,fun j b=>?_,fun j hn=>?_,fun b hS=>?_,?_,hB.calm,Z,Z,.refl _,Nat.le_refl _,fun _ _ _=>rfl,fun j b hb=>.inl (hvsd j b hb).2,fun j b hO=>?_,fun b hb=>.inl (hshv b hb).2⟩
    · obtain rfl:=hact j (by rw [hσ];simp)
      rw [B.th]at hσ;cases hσ
      rw [hB.zero]at hx;cases hx
      rw [upd_same,hvs0]
      exact hT
    · have h0:j≠0:=fun e=>by rw [e,B.th]at hn;cases hn
      rw [upd_ne _ _ h0]
      exact⟨q j,Z,hB.leave.old j x oM hx⟩
    · by_cases e:j=0
      · subst e;rw [hvs0];exact B.weak.agree hB.agree
      · rw [hvsn j e];intro b p o h;cases h
    · by_cases e:j=0
      · subst e
        rw [hvsn i hij]at hO
        obtain⟨o,ho⟩:=hO
        cases ho
      · rw [hvsn j e];rfl
    · by_cases e:j=0
      · subst e;rw [hvs0];exact B.disj b
      · rw [hvsn j e];exact .inl Z
    · have h0:j≠0:=fun e=>by rw [e,B.th]at hn;cases hn
      exact hvsn j h0
    · have hv:=hB.apart b hS
      refine⟨fun j=>?_,?_,hB.low b hS⟩
      · exact Classical.byContradiction fun h=>(hvsd j b h).2 hv
      · exact Classical.byContradiction fun h=>(hshv b h).1 hv
    · refine⟨hB.past.clean,fun i k a ha hm hO=>?_,fun i k a ha hm hO _=>?_,fun k a ha hA hm=>.inr (.inr fun i hi=>?_),fun k a ha hm hS _=>.inl fun i hi=>?_,hB.norel,hB.past.seen,fun i σ hσ=>?_,fun k a ha hm=>?_,fun k g hg hne hc=>.inl (hB.past.over k g hg hne hc),fun i h1 h2=>?_,fun σ hσ ha=>?_⟩
      · obtain⟨o,ho⟩:=hO
        obtain⟨rfl,h1⟩:=hvsd i _ (by rw [ho];simp)
        exact hknown k a ha hm h1
      · obtain⟨rfl,h1⟩:=hvsd i _ hO
        exact hknown k a ha hm h1
      · rw [hact i hi]
        exact hknown k a ha hm (hshv _ (B.atb _ hA)).1
      · rw [hact i hi]
        exact hknown k a ha hm (hshv _ hS).1
      · obtain rfl:=hact i (by rw [hσ];simp)
        rw [B.th]at hσ;cases hσ
        rw [hB.past.hears,B.deaf]
      · rcases hB.past.known k a ha hm with x|⟨x,y⟩
        · exact .inl x
        · refine .inr (.inl ⟨?_,y⟩)
          obtain⟨l,wr,kd⟩:=a
          cases l with
          | cell a=>exact .inl x
          | _=>exact x.elim
      · rw [B.size]at h2;omega
      · rw [B.th]at hσ;cases hσ;rw [B.acq]at ha;cases ha
    · obtain⟨o,ho⟩:=hO
      obtain⟨rfl,h1⟩:=hvsd j b (by rw [ho];simp)
      rw [hvs0]at ho
      exact .inl (B.weak.own ⟨o,ho⟩)
  obtain⟨N,m,t',hN,γ',vs',Ts',ns',gs',w',sl',u,g',rfl,I',hg',hov,hu,hk⟩:=pinv_run hbase B.laws B.wake0 _ γ vs _ _ gs w t sl rfl I
  obtain⟨hn,hacq⟩:=B.laws.over I'.ok hov
  obtain⟨τ',hτ',_⟩:=B.laws.main I'.ok
  obtain⟨ha,hd⟩:=hacq τ' hτ'
  let q':Nat→Nat:=fun j=>if h:∃q,∀g,gs'[j]?=some g→QuitsD P q (Deaf t' j) g then Classical.choose h else 0
  have hrest:∀b,Pr.rest γ' b≠none→Pr.sh γ' b≠none∧¬Pr.atb b:=fun b hb=>by
    unfold Proto.rest at hb
    split at hb
    · exact absurd Z hb
    · rename_i h;exact⟨hb,h⟩
  have hrestle:∀b x,Pr.rest γ' b=some x→Pr.sh γ' b=some x:=fun b x hb=>by
    unfold Proto.rest at hb
    split at hb
    · cases hb
    · exact hb
  have hv'dom:∀b,(u.union (Pr.rest γ')) b≠none→u b≠none∨Pr.rest γ' b≠none:=fun b hb=>by
    unfold View.union at hb
    cases e:u b with
    | none=>rw [e]at hb;exact .inr hb
    | some x=>exact .inl sM
  have hund:∀b,u b≠none→vs' 0 b≠none:=fun b hb=>by
    cases e:u b with
    | none=>exact absurd e hb
    | some x=>rw [hu _ _ e];simp
  have hagree:(u.union (Pr.rest γ')).Agree w':=fun b p o e=>by
    unfold View.union at e
    split at e
    · rename_i x hx;cases e;exact I'.agree 0 b p o (hu _ _ hx)
    · exact I'.agreeS b p o (hrestle b _ e)
  have hapart:∀b,(S b∨Pr.atb b)→(u.union (Pr.rest γ')) b=none:=fun b hb=>Classical.byContradiction fun hne=>by
    rcases hv'dom b hne with x|x
    · rcases hb with hb|hb
      · exact hund b x ((I'.shun b hb).1 0)
      · exact(I'.disj 0 b).elim (fun z=>hund b x z) (fun z=>B.laws.atbS I'.ok hb z)
    · obtain⟨x1,x2⟩:=hrest b x
      rcases hb with hb|hb
      · exact x1 (I'.shun b hb).2.1
      · exact x2 hb
  refine⟨N,gs',w',sl',t',q',fun b=>S b∨Pr.atb b,u.union (Pr.rest γ'),g',hN,⟨hg',⟨fun i x hi hx=>?_,I'.above⟩,I'.ti.past hbase hτ' ha hd,hagree,hapart,fun b hb=>?_,I'.calm,I'.ti.norel⟩,⟨hagree,I'.tape,I'.output,I'.os,I'.heap,I'.keep,fun b hb=>?_,fun b hO=>?_⟩,fun b hb=>?_,hk⟩
  · have hex:∃q,∀g,gs'[i]?=some g→QuitsD P q (Deaf t' i) g:=by
      obtain⟨q,_,h2⟩:=I'.gone i x hx (hn i oM)
      exact⟨q,fun g hg=>by rw [hx]at hg;cases hg;exact h2⟩
    show QuitsD P (q' i) _ x
    have:q' i=Classical.choose hex:=by show dite _ _ _=_;rw [dif_pos hex]
    rw [this]
    exact Classical.choose_spec hex x hx
  · rcases hb with hb|hb
    · exact(I'.shun b hb).2.2
    · have:=B.laws.atbS I'.ok hb
      cases e:Pr.sh γ' b with
      | none=>exact absurd e this
      | some x=>exact I'.agreeS.lt e
  · rcases hv'dom b hb with x|x
    · exact I'.dom 0 b (hund b x)
    · rcases I'.ownS b (hrest b x).1 with ⟨o,ho⟩|y
      · exact .inl (by rw [ho];simp)
      · exact .inr y
  · obtain⟨o,ho⟩:=hO
    unfold View.union at ho
    split at ho
    · rename_i x hx
      cases ho
      exact I'.own 0 b ⟨o,hu _ _ hx⟩
    · exact I'.ownS b (by rw [hrestle b _ ho];simp)
  · rcases hb with hb|hb
    · exact .inl hb
    · exact .inr (.inl (hshv b (B.atb b hb)).2)
end Go.Pal
end
section
namespace Go.Pal.Mu
open Go Go.Conc Go.Pal
open Go.ConcN (sumTo upd sumTo_upd upd_ne upd_same sumTo_congr le_sumTo)
structure MW where
 l:Bool
 w:Bool
 s:Bool
 n:Nat
 deriving DecidableEq,Repr
inductive Mp where
 | out|l0|l1
 | rd(aw sv:Bool)(it:Nat)
 | spin(o:MW)(aw sv:Bool)(it:Nat)
 | scas(o:MW)(sv:Bool)(it:Nat)
 | cas(o:MW)(aw sv:Bool)(it:Nat)
 | t1(sv:Bool)|wait(sv:Bool)|t2(sv:Bool)|got(sv:Bool)
 | hand(ex:Bool)
 | le|la|u0|ur|ud|ua
 | uc(o:MW)|ux|us(st:Bool)|ue
def MW.zero:MW:=⟨false,false,false,0⟩
def A2j(o:MW)(aw sv:Bool):MW:=⟨o.l || !o.s,o.w && !aw,o.s||(sv&&o.l),if o.l||o.s then o.n+1 else o.n⟩
def hd(o:MW)(aw sv:Bool)(it:Nat):Mp:=if o.l && !o.s then .spin o aw sv it else .cas o aw sv it
def A3i(x:MW):Mp:=if x.n=0∨x.l∨x.w∨x.s then .ue else .uc x
def A3y(y:MW):Mp:=if y.s then .us true else A3i y
inductive Ms:Mp→MW→Nat→Mp→MW→Nat→Prop
 | l0 {x m}:Ms .l0 x m .l1 x m
 | l1N {x m}:x≠.zero→Ms .l1 x m (.rd false false 0) x m
 | l1Y {m}:Ms .l1 .zero m .le ⟨true,false,false,0⟩ m
 | rd {aw sv it x m}:Ms (.rd aw sv it) x m (hd x aw sv it) x m
 | spinY {o aw sv it x m}:it<4→Ms (.spin o aw sv it) x m (if !aw && !o.w&&decide (o.n≠0)then .scas o sv it else .rd aw sv (it+1)) x m
 | spinN {o aw sv it x m}:Ms (.spin o aw sv it) x m (.cas o aw sv it) x m
 | scasY {sv it x m}:Ms (.scas x sv it) x m (.rd true sv (it+1)) {x with w:=true } m
 | scasN {o sv it x m}:x≠o→Ms (.scas o sv it) x m (.rd false sv (it+1)) x m
 | casN {o aw sv it x m}:x≠o→Ms (.cas o aw sv it) x m (.rd aw sv it) x m
 | casL {aw sv it x m}:x.l=false→x.s=false→Ms (.cas x aw sv it) x m .le (A2j x aw sv) m
 | casQ {aw sv it x m} (c:Bool):(x.l||x.s)=true→Ms (.cas x aw sv it) x m (if c then .t1 sv else .wait sv) (A2j x aw sv) m
 | t1 {sv x m}:Ms (.t1 sv) x m (.wait sv) x m
 | wait {sv x m}:Ms (.wait sv) x (m+1) (if sv then .got sv else .t2 sv) x m
 | t2 {sv x m} (sv':Bool):Ms (.t2 sv) x m (.got sv') x m
 | gotH {sv x m}:x.s=true→Ms (.got sv) x m (.hand (!sv||decide (x.n=1))) x m
 | gotR {sv x m}:x.s=false→Ms (.got sv) x m (hd x true sv 0) x m
 | hand {ex x m}:Ms (.hand ex) x m .le ⟨true,x.w,x.s && !ex,x.n-1⟩ m
 | le {x m}:Ms .le x m .la x m
 | la {x m}:Ms .la x m .u0 x m
 | u0 {x m}:Ms .u0 x m .ur x m
 | ur {x m}:Ms .ur x m .ud x m
 | ud {x m}:Ms .ud x m .ua x m
 | ua {x m}:Ms .ua x m (A3y {x with l:=false }) {x with l:=false } m
 | ucY {x m}:Ms (.uc x) x m (.us false) {x with w:=true,n:=x.n-1 } m
 | ucN {o x m}:x≠o→Ms (.uc o) x m .ux x m
 | ux {x m}:Ms .ux x m (A3i x) x m
 | us {st x m}:Ms (.us st) x m .ue x (m+1)
 | ue {x m}:Ms .ue x m .out x m
def hold:Mp→Nat | .le | .la | .u0 | .ur | .ud | .ua=>1|_=>0
def wt:Mp→Nat | .t1 _ | .wait _=>1|_=>0
def gt:Mp→Nat | .t2 _ | .got _=>1|_=>0
def hn:Mp→Nat | .hand _=>1|_=>0
def ak:Mp→Nat | .rd true _ _ | .spin _ true _ _ | .cas _ true _ _=>1|_=>0
def usn:Mp→Nat | .us false=>1|_=>0
def uss:Mp→Nat | .us true=>1|_=>0
def rs:Mp→Nat | .uc _ | .ux=>1|_=>0
def loc(x:MW):Mp→Prop
 | .rd aw sv _=>sv=true→aw=true
 | .spin o aw sv _=>o.l=true∧o.s=false∧(aw=true→o.w=true)∧(sv=true→aw=true)
 | .scas o sv it=>o.l=true∧o.s=false∧o.w=false∧1≤o.n∧it<4∧sv=false
 | .cas o aw sv _=>(aw=true→o.w=true)∧(sv=true→aw=true)
 | .hand ex=>x.s=true∧(ex=false→2≤x.n)
 | .uc o=>o.l=false∧o.w=false∧o.s=false∧1≤o.n
 | _=>True
def S(J:Nat)(ph:Nat→Mp)(φ:Mp→Nat):Nat:=sumTo J fun a=>φ (ph a)
theorem S_upd{J:Nat}{ph:Nat→Mp}{i:Nat}(hi:i<J)(p:Mp)(φ:Mp→Nat):S J (upd ph i p) φ+φ (ph i)=S J ph φ+φ p:=sumTo_upd ph p φ hi
theorem le_S{J:Nat}{ph:Nat→Mp}{i:Nat}(hi:i<J)(φ:Mp→Nat):φ (ph i)≤S J ph φ:=le_sumTo (f:=fun a=>φ (ph a)) hi
structure MI(J:Nat)(ph:Nat→Mp)(x:MW)(m:Nat):Prop where
 i1:x.l.toNat=S J ph hold
 i2:x.s=false→S J ph wt=x.n+m+S J ph usn∧S J ph hn=0∧S J ph uss=0∧x.w.toNat=m+S J ph usn+S J ph gt+S J ph ak
 i3:x.s=true→S J ph wt+S J ph gt+S J ph hn=x.n∧x.w=false∧S J ph ak=0∧S J ph usn=0∧x.l.toNat+m+S J ph uss+S J ph gt+S J ph hn=1∧1≤x.n
 i4:x.s=false→x.l=false→1≤x.n→x.w=true∨1≤S J ph rs
 lo:∀j,j<J→loc x (ph j)
theorem loc_stable{x x':MW}{p:Mp}(h:loc x p)(hs:x.s=true→x'.s=true∨hn p=0)(hn':hn p=1→x.n≤x'.n):loc x' p:=by
 cases p<;>first|exact h|skip
 rename_i ex
 obtain⟨h1,h2⟩:=h
 refine⟨(hs h1).resolve_right (by simp [hn]),fun e=>?_⟩
 have:=h2 e
 have:=hn' Z
 omega
theorem loc_hd{x:MW}{aw sv:Bool}{it:Nat}(h1:aw=true→x.w=true)(h2:sv=true→aw=true):loc x (hd x aw sv it):=by
 unfold hd
 split
 ·rename_i h
  simp only [Bool.and_eq_true,Bool.not_eq_true']at h
  exact⟨h.1,h.2,h1,h2⟩
 ·exact⟨h1,h2⟩
theorem step_inv{J:Nat}{ph:Nat→Mp}{x x':MW}{m m':Nat}{i:Nat}{p':Mp}(I:MI J ph x m)(hi:i<J)(h:Ms (ph i) x m p' x' m'):MI J (upd ph i p') x' m':=by
 have e:=fun φ=>S_upd (ph:=ph) hi p' φ
 have e1:=e hold;have e2:=e wt;have e3:=e gt;have e4:=e hn;have e5:=e ak;have e6:=e usn;have e7:=e uss;have e8:=e rs
 have g:=fun(φ:Mp→Nat)=>le_S (ph:=ph) hi φ
 have g1:=g hold;have g2:=g wt;have g3:=g gt;have g4:=g hn;have g5:=g ak;have g6:=g usn;have g7:=g uss;have g8:=g rs
 have hl:=I.lo i hi
 obtain⟨i1,i2,i3,i4,lo⟩:=I
 -- what the others hold
 have key:∀(hp:loc x' p') (ho:∀j,j<J→j≠i→loc x' (ph j)) (k1:x'.l.toNat=S J (upd ph i p') hold)
   (k2:x'.s=false→S J (upd ph i p') wt=x'.n+m'+S J (upd ph i p') usn∧S J (upd ph i p') hn=0∧S J (upd ph i p') uss=0∧x'.w.toNat=m'+S J (upd ph i p') usn+S J (upd ph i p') gt+S J (upd ph i p') ak)
   (k3:x'.s=true→S J (upd ph i p') wt+S J (upd ph i p') gt+S J (upd ph i p') hn=x'.n∧x'.w=false∧S J (upd ph i p') ak=0∧S J (upd ph i p') usn=0∧x'.l.toNat+m'+S J (upd ph i p') uss+S J (upd ph i p') gt+S J (upd ph i p') hn=1∧1≤x'.n)
   (k4:x'.s=false→x'.l=false→1≤x'.n→x'.w=true∨1≤S J (upd ph i p') rs),MI J (upd ph i p') x' m':=fun hp ho k1 k2 k3 k4=>
  ⟨k1,k2,k3,k4,fun j hj=>by
   by_cases e:j=i
   ·subst e;rw [upd_same];exact hp
   ·rw [upd_ne _ _ e];exact ho j hj e⟩
 have same:x'=x→∀j,j<J→j≠i→loc x' (ph j):=fun hx j hj _=>hx ▸ lo j hj
 have nohand:S J ph hn=0→∀j,j<J→hn (ph j)=0:=fun h0 j hj=>by have h1:=le_S (ph:=ph) hj hn;omega
 have onehand:∀j,j<J→j≠i→hn (ph j)+hn (ph i)≤S J ph hn:=fun j hj hne=>by
  have h1:=S_upd (ph:=ph) hi .out hn
  have h2:=le_S (ph:=upd ph i .out) hj hn
  rw [upd_ne ph _ hne]at h2
  have h0:hn .out=0:=rfl
  rw [h0]at h1
  omega
 have nh:∀j,j<J→j≠i→hn (ph j)≤S J ph hn:=fun j hj _=>le_S hj hn
 have oth:(x.s=true→x'.s=true∨S J ph hn=0∨hn (ph i)=1)→(S J ph hn=0∨hn (ph i)=1∨x.n≤x'.n)→∀j,j<J→j≠i→loc x' (ph j):=fun h1 h2 j hj hne=>by
  have q1:=nh j hj hne
  have q2:=onehand j hj hne
  have q3:S J ph hn≤1:=by
   cases hs:x.s with
   | false=>have:=(i2 hs).2.1;omega
   | true=>have:=(i3 hs).2.2.2.2.1;omega
  refine loc_stable (lo j hj) (fun hs=>?_) (fun hh=>?_)
  ·rcases h1 hs with a|a|a
   ·exact .inl a
   ·exact .inr oM
   ·exact .inr oM
  ·rcases h2 with a|a|a<;>omega
 generalize hs1:(S J ph hold)=s1 at *
 generalize hs2:(S J ph wt)=s2 at *
 generalize hs3:(S J ph gt)=s3 at *
 generalize hs4:(S J ph hn)=s4 at *
 generalize hs5:(S J ph ak)=s5 at *
 generalize hs6:(S J ph usn)=s6 at *
 generalize hs7:(S J ph uss)=s7 at *
 generalize hs8:(S J ph rs)=s8 at *
 generalize hpi:ph i=pi at *
 generalize (S J (upd ph i p') hold)=r1 at *
 generalize (S J (upd ph i p') wt)=r2 at *
 generalize (S J (upd ph i p') gt)=r3 at *
 generalize (S J (upd ph i p') hn)=r4 at *
 generalize (S J (upd ph i p') ak)=r5 at *
 generalize (S J (upd ph i p') usn)=r6 at *
 generalize (S J (upd ph i p') uss)=r7 at *
 generalize (S J (upd ph i p') rs)=r8 at *
 clear hs1 hs2 hs3 hs4 hs5 hs6 hs7 hs8 e g nohand onehand nh lo hpi
 obtain⟨xl,xw,xs,xn⟩:=x
 obtain⟨yl,yw,ys,yn⟩:=x'
 dsimp only at i1 i2 i3 i4 key oth
 cases h with
 | @rd aw sv it=>
  have hp:loc ⟨xl,xw,xs,xn⟩ (hd ⟨xl,xw,xs,xn⟩ aw sv it):=loc_hd (fun e=>by
   subst e
   cases xs
   ·have:=(i2 Z).2.2.2;simp only [ak]at g5;cases xw<;>simp at this⊢;omega
   ·have:=(i3 Z).2.2.1;simp only [ak]at g5;omega) hl
  have q:∀φ:Mp→Nat,(φ=hold∨φ=wt∨φ=gt∨φ=hn∨φ=usn∨φ=uss∨φ=rs→φ (hd ⟨xl,xw,xs,xn⟩ aw sv it)=0):=by
   intro φ hφ
   unfold hd
   rcases hφ with rfl|rfl|rfl|rfl|rfl|rfl|rfl<;>split<;>rfl
  have qa:ak (hd ⟨xl,xw,xs,xn⟩ aw sv it)=ak (.rd aw sv it):=by unfold hd;cases aw<;>split<;>rfl
  rw [q hold sM]at e1;rw [q wt sM]at e2;rw [q gt sM]at e3;rw [q hn sM]at e4;rw [qa]at e5;rw [q usn sM]at e6;rw [q uss sM]at e7;rw [q rs sM]at e8
  simp only [hold,wt,gt,hn,usn,uss,rs]at e1 e2 e3 e4 e6 e7 e8
  refine key hp (oth (fun h=>.inl h) (.inr (.inr (Nat.le_refl _)))) oM (fun h=>?_) (fun h=>?_) (fun h1 h2 h3=>?_)
  ·have:=i2 h;omega
  ·obtain⟨a1,a2,a3,a4,a5,a6⟩:=i3 h;exact⟨oM,a2,oM,oM,oM,a6⟩
  ·rcases i4 h1 h2 h3 with a|a
   ·exact .inl a
   ·exact .inr oM
 | @gotR sv _ _ hs=>
  have hp:loc ⟨xl,xw,xs,xn⟩ (hd ⟨xl,xw,xs,xn⟩ true sv 0):=loc_hd (fun _=>by
   have:=(i2 hs).2.2.2;simp only [gt]at g3;cases xw<;>simp at this⊢;omega) (fun _=>rfl)
  have q:∀φ:Mp→Nat,(φ=hold∨φ=wt∨φ=gt∨φ=hn∨φ=usn∨φ=uss∨φ=rs→φ (hd ⟨xl,xw,xs,xn⟩ true sv 0)=0):=by
   intro φ hφ
   unfold hd
   rcases hφ with rfl|rfl|rfl|rfl|rfl|rfl|rfl<;>split<;>rfl
  have qa:ak (hd ⟨xl,xw,xs,xn⟩ true sv 0)=1:=by unfold hd;split<;>rfl
  rw [q hold sM]at e1;rw [q wt sM]at e2;rw [q gt sM]at e3;rw [q hn sM]at e4;rw [qa]at e5;rw [q usn sM]at e6;rw [q uss sM]at e7;rw [q rs sM]at e8
  simp only [hold,wt,gt,hn,ak,usn,uss,rs]at e1 e2 e3 e4 e5 e6 e7 e8
  simp only at hs
  subst hs
  refine key hp (oth (fun h=>.inl h) (.inr (.inr (Nat.le_refl _)))) oM (fun h=>?_) (fun h=>?_) (fun h1 h2 h3=>?_)
  ·have:=i2 h;omega
  ·cases h
  ·rcases i4 h1 h2 h3 with a|a
   ·exact .inl a
   ·exact .inr oM
 | l0=>
  simp only [hold,wt,gt,hn,ak,usn,uss,rs]at e1 e2 e3 e4 e5 e6 e7 e8 g1 g2 g3 g4 g5 g6 g7 g8
  refine key trivial (oth (fun h=>.inl h) (.inr (.inr (Nat.le_refl _)))) oM (fun h=>?_) (fun h=>?_) (fun h1 h2 h3=>?_)
  ·have:=i2 h;omega
  ·obtain⟨a1,a2,a3,a4,a5,a6⟩:=i3 h;exact⟨oM,a2,oM,oM,oM,oM⟩
  ·rcases i4 h1 h2 h3 with a|a
   ·exact .inl a
   ·exact .inr oM
 | le=>
  simp only [hold,wt,gt,hn,ak,usn,uss,rs]at e1 e2 e3 e4 e5 e6 e7 e8 g1 g2 g3 g4 g5 g6 g7 g8
  refine key trivial (oth (fun h=>.inl h) (.inr (.inr (Nat.le_refl _)))) oM (fun h=>?_) (fun h=>?_) (fun h1 h2 h3=>?_)
  ·have:=i2 h;omega
  ·obtain⟨a1,a2,a3,a4,a5,a6⟩:=i3 h;exact⟨oM,a2,oM,oM,oM,oM⟩
  ·rcases i4 h1 h2 h3 with a|a
   ·exact .inl a
   ·exact .inr oM
 | la=>
  simp only [hold,wt,gt,hn,ak,usn,uss,rs]at e1 e2 e3 e4 e5 e6 e7 e8 g1 g2 g3 g4 g5 g6 g7 g8
  refine key trivial (oth (fun h=>.inl h) (.inr (.inr (Nat.le_refl _)))) oM (fun h=>?_) (fun h=>?_) (fun h1 h2 h3=>?_)
  ·have:=i2 h;omega
  ·obtain⟨a1,a2,a3,a4,a5,a6⟩:=i3 h;exact⟨oM,a2,oM,oM,oM,oM⟩
  ·rcases i4 h1 h2 h3 with a|a
   ·exact .inl a
   ·exact .inr oM
 | u0=>
  simp only [hold,wt,gt,hn,ak,usn,uss,rs]at e1 e2 e3 e4 e5 e6 e7 e8 g1 g2 g3 g4 g5 g6 g7 g8
  refine key trivial (oth (fun h=>.inl h) (.inr (.inr (Nat.le_refl _)))) oM (fun h=>?_) (fun h=>?_) (fun h1 h2 h3=>?_)
  ·have:=i2 h;omega
  ·obtain⟨a1,a2,a3,a4,a5,a6⟩:=i3 h;exact⟨oM,a2,oM,oM,oM,oM⟩
  ·rcases i4 h1 h2 h3 with a|a
   ·exact .inl a
   ·exact .inr oM
 | ur=>
  simp only [hold,wt,gt,hn,ak,usn,uss,rs]at e1 e2 e3 e4 e5 e6 e7 e8 g1 g2 g3 g4 g5 g6 g7 g8
  refine key trivial (oth (fun h=>.inl h) (.inr (.inr (Nat.le_refl _)))) oM (fun h=>?_) (fun h=>?_) (fun h1 h2 h3=>?_)
  ·have:=i2 h;omega
  ·obtain⟨a1,a2,a3,a4,a5,a6⟩:=i3 h;exact⟨oM,a2,oM,oM,oM,oM⟩
  ·rcases i4 h1 h2 h3 with a|a
   ·exact .inl a
   ·exact .inr oM
 | ud=>
  simp only [hold,wt,gt,hn,ak,usn,uss,rs]at e1 e2 e3 e4 e5 e6 e7 e8 g1 g2 g3 g4 g5 g6 g7 g8
  refine key trivial (oth (fun h=>.inl h) (.inr (.inr (Nat.le_refl _)))) oM (fun h=>?_) (fun h=>?_) (fun h1 h2 h3=>?_)
  ·have:=i2 h;omega
  ·obtain⟨a1,a2,a3,a4,a5,a6⟩:=i3 h;exact⟨oM,a2,oM,oM,oM,oM⟩
  ·rcases i4 h1 h2 h3 with a|a
   ·exact .inl a
   ·exact .inr oM
 | ue=>
  simp only [hold,wt,gt,hn,ak,usn,uss,rs]at e1 e2 e3 e4 e5 e6 e7 e8 g1 g2 g3 g4 g5 g6 g7 g8
  refine key trivial (oth (fun h=>.inl h) (.inr (.inr (Nat.le_refl _)))) oM (fun h=>?_) (fun h=>?_) (fun h1 h2 h3=>?_)
  ·have:=i2 h;omega
  ·obtain⟨a1,a2,a3,a4,a5,a6⟩:=i3 h;exact⟨oM,a2,oM,oM,oM,oM⟩
  ·rcases i4 h1 h2 h3 with a|a
   ·exact .inl a
   ·exact .inr oM
 | l1N _=>
  simp only [hold,wt,gt,hn,ak,usn,uss,rs]at e1 e2 e3 e4 e5 e6 e7 e8 g1 g2 g3 g4 g5 g6 g7 g8
  refine key (fun h=>by cases h) (oth (fun h=>.inl h) (.inr (.inr (Nat.le_refl _)))) oM (fun h=>?_) (fun h=>?_) (fun h1 h2 h3=>?_)
  ·have:=i2 h;omega
  ·obtain⟨a1,a2,a3,a4,a5,a6⟩:=i3 h;exact⟨oM,a2,oM,oM,oM,oM⟩
  ·rcases i4 h1 h2 h3 with a|a
   ·exact .inl a
   ·exact .inr oM
 | t1=>
  simp only [hold,wt,gt,hn,ak,usn,uss,rs]at e1 e2 e3 e4 e5 e6 e7 e8 g1 g2 g3 g4 g5 g6 g7 g8
  refine key trivial (oth (fun h=>.inl h) (.inr (.inr (Nat.le_refl _)))) oM (fun h=>?_) (fun h=>?_) (fun h1 h2 h3=>?_)
  ·have:=i2 h;omega
  ·obtain⟨a1,a2,a3,a4,a5,a6⟩:=i3 h;exact⟨oM,a2,oM,oM,oM,oM⟩
  ·rcases i4 h1 h2 h3 with a|a
   ·exact .inl a
   ·exact .inr oM
 | t2 sv'=>
  simp only [hold,wt,gt,hn,ak,usn,uss,rs]at e1 e2 e3 e4 e5 e6 e7 e8 g1 g2 g3 g4 g5 g6 g7 g8
  refine key trivial (oth (fun h=>.inl h) (.inr (.inr (Nat.le_refl _)))) oM (fun h=>?_) (fun h=>?_) (fun h1 h2 h3=>?_)
  ·have:=i2 h;omega
  ·obtain⟨a1,a2,a3,a4,a5,a6⟩:=i3 h;exact⟨oM,a2,oM,oM,oM,oM⟩
  ·rcases i4 h1 h2 h3 with a|a
   ·exact .inl a
   ·exact .inr oM
 | @scasN o sv it _ _ _=>
  simp only [hold,wt,gt,hn,ak,usn,uss,rs]at e1 e2 e3 e4 e5 e6 e7 e8 g1 g2 g3 g4 g5 g6 g7 g8
  refine key (fun h=>by rw [hl.2.2.2.2.2]at h;cases h) (oth (fun h=>.inl h) (.inr (.inr (Nat.le_refl _)))) oM (fun h=>?_) (fun h=>?_) (fun h1 h2 h3=>?_)
  ·have:=i2 h;omega
  ·obtain⟨a1,a2,a3,a4,a5,a6⟩:=i3 h;exact⟨oM,a2,oM,oM,oM,oM⟩
  ·rcases i4 h1 h2 h3 with a|a
   ·exact .inl a
   ·exact .inr oM
 | @casN o aw sv it _ _ _=>
  cases aw
  all_goals
   simp only [hold,wt,gt,hn,ak,usn,uss,rs]at e1 e2 e3 e4 e5 e6 e7 e8 g1 g2 g3 g4 g5 g6 g7 g8
   refine key hl.2 (oth (fun h=>.inl h) (.inr (.inr (Nat.le_refl _)))) oM (fun h=>?_) (fun h=>?_) (fun h1 h2 h3=>?_)
   ·have:=i2 h;omega
   ·obtain⟨a1,a2,a3,a4,a5,a6⟩:=i3 h;exact⟨oM,a2,oM,oM,oM,oM⟩
   ·rcases i4 h1 h2 h3 with a|a
    ·exact .inl a
    ·exact .inr oM
 | @spinN o aw sv it _ _=>
  cases aw
  all_goals
   simp only [hold,wt,gt,hn,ak,usn,uss,rs]at e1 e2 e3 e4 e5 e6 e7 e8 g1 g2 g3 g4 g5 g6 g7 g8
   refine key ⟨hl.2.2.1,hl.2.2.2⟩ (oth (fun h=>.inl h) (.inr (.inr (Nat.le_refl _)))) oM (fun h=>?_) (fun h=>?_) (fun h1 h2 h3=>?_)
   ·have:=i2 h;omega
   ·obtain⟨a1,a2,a3,a4,a5,a6⟩:=i3 h;exact⟨oM,a2,oM,oM,oM,oM⟩
   ·rcases i4 h1 h2 h3 with a|a
    ·exact .inl a
    ·exact .inr oM
 | @spinY o aw sv it _ _ hit=>
  have hgen:∀p,loc ⟨xl,xw,xs,xn⟩ p→hold p=0→wt p=0→gt p=0→hn p=0→ak p=ak (.spin o aw sv it)→usn p=0→uss p=0→rs p=0→p=(if !aw && !o.w&&decide (o.n≠0)then .scas o sv it else .rd aw sv (it+1))→MI J (upd ph i (if !aw && !o.w&&decide (o.n≠0)then .scas o sv it else .rd aw sv (it+1))) ⟨xl,xw,xs,xn⟩ m:=by
   rintro p hp q1 q2 q3 q4 q5 q6 q7 q8 rfl
   rw [q1]at e1;rw [q2]at e2;rw [q3]at e3;rw [q4]at e4;rw [q5]at e5;rw [q6]at e6;rw [q7]at e7;rw [q8]at e8
   simp only [hold,wt,gt,hn,usn,uss,rs]at e1 e2 e3 e4 e6 e7 e8
   refine key hp (oth (fun h=>.inl h) (.inr (.inr (Nat.le_refl _)))) oM (fun h=>?_) (fun h=>?_) (fun h1 h2 h3=>?_)
   ·have:=i2 h;omega
   ·obtain⟨a1,a2,a3,a4,a5,a6⟩:=i3 h;exact⟨oM,a2,oM,oM,oM,oM⟩
   ·rcases i4 h1 h2 h3 with a|a
    ·exact .inl a
    ·exact .inr oM
  cases aw with
  | true=>exact hgen (.rd true sv (it+1)) (fun _=>rfl) rfl rfl rfl rfl rfl rfl rfl rfl rfl
  | false=>
   have hsv:sv=false:=by cases sv with|false=>rfl|true=>exact absurd (hl.2.2.2 rfl) sM
   subst hsv
   by_cases hc:(!o.w&&decide (o.n≠0))=true
   ·have hc':=hc
    simp only [Bool.and_eq_true,Bool.not_eq_true',decide_eq_true_eq]at hc'
    exact hgen (.scas o false it) ⟨hl.1,hl.2.1,hc'.1,oM,hit,Z⟩ Z Z Z Z Z Z Z Z (by simp only [Bool.not_false,Bool.true_and,hc,if_true])
   ·exact hgen (.rd false false (it+1)) (fun h=>by cases h) rfl rfl rfl rfl rfl rfl rfl rfl (by simp only [Bool.not_false,Bool.true_and,hc];rfl)
 | l1Y=>
  simp only [hold,wt,gt,hn,ak,usn,uss,rs]at e1 e2 e3 e4 e5 e6 e7 e8 g1 g2 g3 g4 g5 g6 g7 g8
  refine key trivial (oth (fun h=>by simp at h) (.inl (i2 Z).2.1)) (by simp at i1⊢;omega) (fun h=>?_) (fun h=>?_) (fun h1 h2 h3=>?_)
  ·have:=i2 rfl;simp at this⊢;omega
  ·cases h
  ·cases h2
 | @scasY sv it=>
  obtain⟨q1,q2,q3,q4,q5,q6⟩:=hl
  dsimp only at q1 q2 q3 q4
  subst q1 q2 q3
  simp only [hold,wt,gt,hn,ak,usn,uss,rs]at e1 e2 e3 e4 e5 e6 e7 e8 g1 g2 g3 g4 g5 g6 g7 g8
  refine key (fun _=>rfl) (oth (fun h=>by simp at h) (.inl (i2 Z).2.1)) (by simp at i1⊢;omega) (fun h=>?_) (fun h=>?_) (fun h1 h2 h3=>?_)
  ·have:=i2 rfl;simp at this⊢;omega
  ·cases h
  ·cases h2
 | @casL aw sv it _ _ hl0 hs0=>
  dsimp only at hl0 hs0
  subst hl0 hs0
  have hw:aw=true→xw=true:=hl.1
  have hs5:aw=true→1≤s5:=fun e=>by subst e;exact g5
  have hnew:A2j ⟨false,xw,false,xn⟩ aw sv=⟨true,xw && !aw,false,xn⟩:=by simp [A2j]
  have hkk:=i2 Z
  have hk4:=i1
  simp only [A2j,Bool.false_or,Bool.not_false,Bool.and_false,Bool.false_eq_true,if_false]at key oth⊢
  simp only [hold,wt,gt,hn,usn,uss,rs]at e1 e2 e3 e4 e6 e7 e8
  refine key trivial (oth (fun h=>by cases h) (.inl hkk.2.1)) (by simp at hk4⊢;omega) (fun _=>?_) (fun h=>by cases h) (fun _ h2 _=>by cases h2)
  cases aw with
  | false=>simp only [ak]at e5;simp only [Bool.not_false,Bool.and_true];omega
  | true=>
   have:=hw Z
   subst this
   have:=hs5 Z
   simp only [ak]at e5
   simp only [Bool.not_true,Bool.and_false,Bool.toNat_false,Bool.toNat_true]at hkk⊢
   omega
 | @casQ aw sv it _ _ c hls=>
  dsimp only at hls
  have hs5:aw=true→1≤s5:=fun e=>by subst e;exact g5
  have q:∀φ:Mp→Nat,φ (.t1 sv)=φ (.wait sv)→φ (if c then .t1 sv else .wait sv)=φ (.wait sv):=fun φ hφ=>by cases c<;>simp [hφ]
  rw [q hold rfl]at e1;rw [q wt rfl]at e2;rw [q gt rfl]at e3;rw [q hn rfl]at e4;rw [q ak rfl]at e5;rw [q usn rfl]at e6;rw [q uss rfl]at e7;rw [q rs rfl]at e8
  simp only [hold,wt,gt,hn,usn,uss,rs]at e1 e2 e3 e4 e6 e7 e8
  have hloc:∀y,loc y (if c then .t1 sv else .wait sv):=fun y=>by cases c<;>trivial
  obtain⟨hw,hsv⟩:=hl
  dsimp only at hw
  cases xs with
  | true=>
   obtain⟨a1,a2,a3,a4,a5,a6⟩:=i3 rfl
   subst a2
   have haw:aw=false:=by cases aw with|false=>rfl|true=>exact absurd (hw rfl) sM
   subst haw
   simp only [A2j,Bool.or_true,Bool.not_true,Bool.or_false,Bool.true_or,if_true,Bool.false_and]at key oth⊢
   simp only [ak]at e5
   refine key (hloc _) (oth (fun _=>.inl trivial) (.inr (.inr (Nat.le_succ _)))) oM (fun h=>by cases h) (fun _=>⟨oM,trivial,oM,oM,oM,oM⟩) (fun h=>by cases h)
  | false=>
   simp only [Bool.or_false]at hls
   subst hls
   obtain⟨b1,b2,b3,b4⟩:=i2 rfl
   simp only [A2j,Bool.true_or,if_true,Bool.and_true,Bool.false_or,Bool.or_false]at key oth⊢
   refine key (hloc _) (oth (fun h=>by cases h) (.inl b2)) oM (fun h=>?_) (fun h=>?_) (fun _ h2 _=>by cases h2)
   ·cases aw with
    | false=>simp only [ak]at e5;simp only [Bool.not_false,Bool.and_true];omega
    | true=>
     have:=hw Z
     subst this
     have:=hs5 Z
     simp only [ak]at e5
     simp only [Bool.not_true,Bool.and_false,Bool.toNat_false,Bool.toNat_true]at b4⊢
     omega
   ·have haw:=hsv h
    subst haw
    have:=hw Z
    subst this
    have:=hs5 Z
    simp only [ak]at e5
    simp only [Bool.toNat_true]at b4 i1⊢
    exact⟨oM,by simp,oM,oM,oM,oM⟩
 | @wait sv=>
  have q:∀φ:Mp→Nat,φ (.got sv)=φ (.t2 sv)→φ (if sv then .got sv else .t2 sv)=φ (.t2 sv):=fun φ hφ=>by cases sv<;>simp [hφ]
  rw [q hold rfl]at e1;rw [q wt rfl]at e2;rw [q gt rfl]at e3;rw [q hn rfl]at e4;rw [q ak rfl]at e5;rw [q usn rfl]at e6;rw [q uss rfl]at e7;rw [q rs rfl]at e8
  simp only [hold,wt,gt,hn,ak,usn,uss,rs]at e1 e2 e3 e4 e5 e6 e7 e8 g1 g2 g3 g4 g5 g6 g7 g8
  refine key (by cases sv<;>trivial) (oth (fun h=>.inl h) (.inr (.inr (Nat.le_refl _)))) oM (fun h=>?_) (fun h=>?_) (fun h1 h2 h3=>?_)
  ·have:=i2 h;omega
  ·obtain⟨a1,a2,a3,a4,a5,a6⟩:=i3 h;exact⟨oM,a2,oM,oM,oM,oM⟩
  ·rcases i4 h1 h2 h3 with a|a
   ·exact .inl a
   ·exact .inr oM
 | @gotH sv _ _ hs=>
  dsimp only at hs
  subst hs
  have:=i3 Z
  simp only [hold,wt,gt,hn,ak,usn,uss,rs]at e1 e2 e3 e4 e5 e6 e7 e8 g1 g2 g3 g4 g5 g6 g7 g8
  refine key ⟨Z,fun e=>by simp only [Bool.or_eq_false_iff,decide_eq_false_iff_not]at e;have:=e.2;dsimp only;omega⟩ (oth (fun h=>.inl h) (.inr (.inr (Nat.le_refl _)))) oM (fun h=>?_) (fun h=>?_) (fun h1 h2 h3=>?_)
  ·cases h
  ·obtain⟨a1,a2,a3,a4,a5,a6⟩:=i3 h;exact⟨oM,a2,oM,oM,oM,oM⟩
  ·cases h1
 | @hand ex=>
  obtain⟨q1,q2⟩:=hl
  dsimp only at q1 q2
  subst q1
  obtain⟨a1,a2,a3,a4,a5,a6⟩:=i3 rfl
  subst a2
  simp only [hold,wt,gt,hn,ak,usn,uss,rs]at e1 e2 e3 e4 e5 e6 e7 e8 g1 g2 g3 g4 g5 g6 g7 g8
  have hxl:xl.toNat=0:=oM
  refine key trivial (oth (fun _=>.inr (.inr Z)) (.inr (.inl Z))) (by simp only [Bool.toNat_true];omega) (fun h=>?_) (fun h=>?_) (fun _ h2 _=>by cases h2)
  ·simp only [Bool.toNat_false];omega
  ·simp only [Bool.true_and,Bool.not_eq_true']at h
   have:=q2 h
   simp only [Bool.toNat_true]
   exact⟨oM,trivial,oM,oM,oM,oM⟩
 | ua=>
  have hxl:xl=true:=by simp only [hold]at g1;cases xl with|true=>rfl|false=>simp only [Bool.toNat_false]at i1;omega
  subst hxl
  simp only [Bool.toNat_true]at i1
  cases xs with
  | true=>
   obtain⟨a1,a2,a3,a4,a5,a6⟩:=i3 rfl
   simp only [A3y,if_true]at key e1 e2 e3 e4 e5 e6 e7 e8⊢
   simp only [hold,wt,gt,hn,ak,usn,uss,rs]at e1 e2 e3 e4 e5 e6 e7 e8 g1 g2 g3 g4 g5 g6 g7 g8
   simp only [Bool.toNat_true]at a5
   refine key trivial (oth (fun h=>.inl h) (.inr (.inr (Nat.le_refl _)))) (by(try dsimp only);simp only [Bool.toNat_false];omega) (fun h=>by cases h) (fun _=>?_) (fun h=>by cases h)
   simp only [Bool.toNat_false]
   exact⟨oM,a2,oM,oM,oM,oM⟩
  | false=>
   have hi2:=i2 Z
   by_cases hc:xn=0∨xw=true
   ·have ha:A3y ⟨false,xw,false,xn⟩ = .ue:=by simp only [A3y,A3i,Bool.false_eq_true,if_false,false_or,or_false];rw [if_pos hc]
    rw [ha]at key e1 e2 e3 e4 e5 e6 e7 e8⊢
    simp only [hold,wt,gt,hn,ak,usn,uss,rs]at e1 e2 e3 e4 e5 e6 e7 e8 g1 g2 g3 g4 g5 g6 g7 g8
    refine key trivial (oth (fun h=>.inl h) (.inr (.inr (Nat.le_refl _)))) (by(try dsimp only);simp only [Bool.toNat_false];omega) (fun _=>by(try dsimp only);omega) (fun h=>by cases h) (fun _ _ h3=>?_)
    rcases hc with hc|hc
    ·exfalso;dsimp only at h3;omega
    ·exact .inl hc
   ·have ha:A3y ⟨false,xw,false,xn⟩ = .uc ⟨false,xw,false,xn⟩:=by simp only [A3y,A3i,Bool.false_eq_true,if_false,false_or,or_false];rw [if_neg hc]
    rw [ha]at key e1 e2 e3 e4 e5 e6 e7 e8⊢
    simp only [hold,wt,gt,hn,ak,usn,uss,rs]at e1 e2 e3 e4 e5 e6 e7 e8 g1 g2 g3 g4 g5 g6 g7 g8
    simp only [not_or,Bool.not_eq_true]at hc
    refine key ⟨Z,hc.2,Z,by have:=hc.1;dsimp only;omega⟩ (oth (fun h=>.inl h) (.inr (.inr (Nat.le_refl _)))) (by(try dsimp only);simp only [Bool.toNat_false];omega) (fun _=>by(try dsimp only);omega) (fun h=>by cases h) (fun _ _ _=>.inr oM)
 | ucY=>
  obtain⟨q1,q2,q3,q4⟩:=hl
  dsimp only at q1 q2 q3 q4
  subst q1 q2 q3
  simp only [hold,wt,gt,hn,ak,usn,uss,rs]at e1 e2 e3 e4 e5 e6 e7 e8 g1 g2 g3 g4 g5 g6 g7 g8
  have hi2:=i2 Z
  simp only [Bool.toNat_false]at hi2
  refine key trivial (oth (fun h=>by cases h) (.inl hi2.2.1)) (by dsimp only;simp only [Bool.toNat_false]at i1⊢;omega) (fun _=>by dsimp only;simp only [Bool.toNat_true];omega) (fun h=>by cases h) (fun _ _ _=>.inl rfl)
 | ucN _=>
  simp only [hold,wt,gt,hn,ak,usn,uss,rs]at e1 e2 e3 e4 e5 e6 e7 e8 g1 g2 g3 g4 g5 g6 g7 g8
  refine key trivial (oth (fun h=>.inl h) (.inr (.inr (Nat.le_refl _)))) oM (fun h=>?_) (fun h=>?_) (fun h1 h2 h3=>?_)
  ·have:=i2 h;omega
  ·obtain⟨a1,a2,a3,a4,a5,a6⟩:=i3 h;exact⟨oM,a2,oM,oM,oM,oM⟩
  ·rcases i4 h1 h2 h3 with a|a
   ·exact .inl a
   ·exact .inr oM
 | ux=>
  by_cases hc:xn=0∨xl=true∨xw=true∨xs=true
  ·have ha:A3i ⟨xl,xw,xs,xn⟩ = .ue:=by simp only [A3i];rw [if_pos hc]
   rw [ha]at key e1 e2 e3 e4 e5 e6 e7 e8⊢
   simp only [hold,wt,gt,hn,ak,usn,uss,rs]at e1 e2 e3 e4 e5 e6 e7 e8 g1 g2 g3 g4 g5 g6 g7 g8
   refine key trivial (oth (fun h=>.inl h) (.inr (.inr (Nat.le_refl _)))) oM (fun h=>?_) (fun h=>?_) (fun h1 h2 h3=>?_)
   ·have:=i2 h;omega
   ·obtain⟨a1,a2,a3,a4,a5,a6⟩:=i3 h;exact⟨oM,a2,oM,oM,oM,oM⟩
   ·rcases hc with hc|hc|hc|hc
    ·omega
    ·rw [h2]at hc;cases hc
    ·exact .inl hc
    ·rw [h1]at hc;cases hc
  ·have ha:A3i ⟨xl,xw,xs,xn⟩ = .uc ⟨xl,xw,xs,xn⟩:=by simp only [A3i];rw [if_neg hc]
   rw [ha]at key e1 e2 e3 e4 e5 e6 e7 e8⊢
   simp only [hold,wt,gt,hn,ak,usn,uss,rs]at e1 e2 e3 e4 e5 e6 e7 e8 g1 g2 g3 g4 g5 g6 g7 g8
   simp only [not_or,Bool.not_eq_true]at hc
   refine key ⟨hc.2.1,hc.2.2.1,hc.2.2.2,by have:=hc.1;dsimp only;omega⟩ (oth (fun h=>.inl h) (.inr (.inr (Nat.le_refl _)))) oM (fun h=>?_) (fun h=>?_) (fun h1 h2 h3=>.inr oM)
   ·have:=i2 h;omega
   ·obtain⟨a1,a2,a3,a4,a5,a6⟩:=i3 h;exact⟨oM,a2,oM,oM,oM,oM⟩
 | @us st=>
  cases st
  all_goals
   simp only [hold,wt,gt,hn,ak,usn,uss,rs]at e1 e2 e3 e4 e5 e6 e7 e8 g1 g2 g3 g4 g5 g6 g7 g8
   refine key trivial (oth (fun h=>.inl h) (.inr (.inr (Nat.le_refl _)))) oM (fun h=>?_) (fun h=>?_) (fun h1 h2 h3=>?_)
   ·have:=i2 h;omega
   ·obtain⟨a1,a2,a3,a4,a5,a6⟩:=i3 h;exact⟨oM,a2,oM,oM,oM,oM⟩
   ·rcases i4 h1 h2 h3 with a|a
    ·exact .inl a
    ·exact .inr oM
end Go.Pal.Mu
end
