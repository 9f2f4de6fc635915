/- Part 16. -/
import Derived.Test.YtclejblcnfaeaaaGreatDoorPao
set_option linter.all false
section
namespace Go.Pal.Fan
open Go Go.Conc Go.Pal
open Go.ConcN (sumTo upd sumTo_upd upd_ne upd_same sumTo_congr le_sumTo)
open Go.Pal.Mu (wgV wgB)
structure Par where
 M:Type
 J:Nat
 Ls:Nat→List M
 Wg:Nat
 Ch:Nat
 tW:TypeId
 msg:M→Value→View→Prop
 J1:1≤J
 J2:J≤200
 wc:Wg≠Ch
section
variable{M:Type}
def A5u:Cl→Bool | .off=>true|_=>false
def dfW:Wk M→Nat | .d2 | .d3 | .d4 | .d5=>1|_=>0
def dfM:Mn M→Nat | .a1 _ | .ar _ | .a2 _=>1|_=>0
def dfC:Cl→Nat | .w1 | .wc _ | .ww | .w3 | .w4 | .w5=>1|_=>0
def relW:Wk M→Bool | .d1 | .d2 | .d3 | .d4 | .d5=>true|_=>false
def tkW(base J:Nat)(W:Addr)(c:Cl)(f:Bool):Wk M→K.Pl
 | .un | .sd _=>.own
 | _=>match c with
  | .cl=>.know (base+J)
  | .off=>if f then .know 0 else .shut
  | _=>.at W
def tkC(f:Bool):Cl→K.Pl | .off=>if f then .know 0 else .shut|_=>.own
def wM(J:Nat):Mn M→Nat
 | .a0 k=>(J-k)*5+10 | .a1 k=>(J-k)*5+9 | .ar k=>(J-k)*5+8 | .a2 k=>(J-k)*5+7 | .go k=>(J-k)*5+6
 | .gc=>5 | .rc _=>4 | .fin _=>3
def wC:Cl→Nat | .un=>30 | .w0=>20 | .w1=>15 | .wc _=>15 | .ww=>14 | .w3=>12 | .w4=>10 | .w5=>5 | .w6=>4 | .cl=>3 | .off=>0
def wW(Ls:Nat→List M)(j:Nat):Wk M→Nat | .un=>20+10*(Ls j).length | .sd l=>15+10*l.length | .d1=>14 | .d2=>13 | .d3=>10 | .d4=>9 | .d5=>8 | .off=>0
def lC(v:Nat):Cl→Nat | .w1=>2 | .wc o=>if o=v then 1 else 3|_=>0
def wgt(J:Nat)(Ls:Nat→List M)(γ:FS M):Nat:=sumTo J (fun j=>wW Ls j (γ.ph j))+3*γ.sm+wM J γ.mn+wC γ.cl
theorem lC_le(v:Nat)(c:Cl):lC v c≤3:=by cases c<;>simp only [lC]<;>(try split)<;>omega
end
def shF(A:Par)(γ:FS A.M):View:=fun b=>
 if b=A.Wg then some (true,wgB A.tW γ.v γ.wt γ.sm)else if b=A.Ch then some (true,.chan 0 #[] (A5u γ.cl) γ.s γ.s false)else none
abbrev TF(A:Par):Type:=Mn A.M ⊕ Wk A.M ⊕ Cl
def thF(A:Par)(base:Nat)(γ:FS A.M)(i:Nat):Option (TF A):=
 if i=0 then some (.inl γ.mn)else if base≤i∧i<base+A.J then(match γ.ph (i-base)with | .un | .off=>none|q=>some (.inr (.inl q)))
 else if i=base+A.J then(match γ.cl with | .un | .off=>none|q=>some (.inr (.inr q)))else none
def blkF(A:Par)(base:Nat)(γ:FS A.M)(i:Nat):Prop:=i=base+A.J∧γ.cl = .w3∧γ.sm=0
def A7p(A:Par)(γ:FS A.M):Nat:=1000*wgt A.J A.Ls γ+lC γ.v γ.cl
def tokF(A:Par)(base:Nat)(γ:FS A.M)(i:Nat):K.Pl:=if i<base then .own else if i<base+A.J then tkW base A.J ⟨A.Wg,0,none⟩ γ.cl (isF γ.mn) (γ.ph (i-base))else tkC (isF γ.mn) γ.cl
def nxtF{A:Par}:TF A→TF A | .inr (.inl (.sd (_::l)))=>.inr (.inl (.sd l))|τ=>τ
def gotF{A:Par}:TF A→A.M→TF A | .inl (.rc g),m=>.inl (.rc (g++[m]))|τ,_=>τ
def finF{A:Par}:TF A→TF A | .inl (.rc g)=>.inl (.fin g)|τ=>τ
def sndF{A:Par}:TF A→Option A.M | .inr (.inl (.sd (m::_)))=>some m|_=>none
def rcvF{A:Par}:TF A→Bool | .inl (.rc _)=>true|_=>false
abbrev A0w(A:Par)(base:Nat):K.Proto where
 G:=FS A.M
 T:=TF A
 M:=A.M
 th:=thF A base
 ok:=fun γ=>Ok A.J A.Ls γ
 size:=fun γ=>base+γ.st
 rank:=A7p A
 sh:=shF A
 atb:=fun _ b=>b=A.Wg∨b=A.Ch
 usr:=fun γ b j=>(b=A.Wg∨b=A.Ch)∧(j=0∨(base≤j∧j<base+γ.st))
 say:=fun γ _=>if γ.st≤A.J then 0 else base+A.J
 lock:=fun _=>⟨A.Wg,0,none⟩
 deaf:=fun | .inl m=>dfM m | .inr (.inl q)=>dfW q | .inr (.inr c)=>dfC c
 rel:=fun | .inr (.inl q)=>relW q|_=>false
 tok:=tokF A base
 blocks:=blkF A base
 wakes:=fun | .inr (.inl .d5)=>true | .inr (.inr .cl)=>true|_=>false
 ch:=A.Ch
 shut:=fun γ=>A5u γ.cl
 msg:=A.msg
 snd:=sndF
 rcv:=rcvF
 nxt:=nxtF
 got:=gotF
 fin:=finF
 cmm:=fun γ i _=>cmm base γ i
 fnd:=fun γ _=>fnd γ
 over:=fun γ=>isF γ.mn=true
 tr:=Tr A.J A.Ls base
section
variable{A:Par}{base:Nat}{γ γ':FS A.M}
theorem A2o:thF A base γ 0=some (.inl γ.mn):=by simp [thF]
theorem A9f(hb:0<base){j:Nat}(hj:j<A.J){q:Wk A.M}(hq:γ.ph j=q)(h1:q≠.un)(h2:q≠.off):thF A base γ (base+j)=some (.inr (.inl q)):=by
 unfold thF
 rw [if_neg oM,if_pos ⟨oM,oM⟩,show base+j-base=j by omega,hq]
 cases q<;>first|rfl|exact absurd rfl h1|exact absurd rfl h2
theorem th_off(hb:0<base){j:Nat}(hj:j<A.J)(hq:γ.ph j = .off):thF A base γ (base+j)=none:=by
 unfold thF
 rw [if_neg oM,if_pos ⟨oM,oM⟩,show base+j-base=j by omega,hq]
theorem B1i(hb:0<base){q:Cl}(hq:γ.cl=q)(h1:q≠.un)(h2:q≠.off):thF A base γ (base+A.J)=some (.inr (.inr q)):=by
 unfold thF
 rw [if_neg oM,if_neg oM,if_pos Y,hq]
 cases q<;>first|rfl|exact absurd rfl h1|exact absurd rfl h2
theorem th_cloff(hb:0<base)(hq:γ.cl = .off):thF A base γ (base+A.J)=none:=by
 unfold thF
 rw [if_neg oM,if_neg oM,if_pos Y,hq]
theorem B0e{i:Nat}{τ:TF A}(h:thF A base γ i=some τ):(i=0∧τ = .inl γ.mn)∨(∃j,i=base+j∧j<A.J∧γ.ph j≠.un∧γ.ph j≠.off∧τ = .inr (.inl (γ.ph j)))∨(i=base+A.J∧γ.cl≠.un∧γ.cl≠.off∧τ = .inr (.inr γ.cl)):=by
 unfold thF at h
 split at h
 ·cases h;exact .inl ⟨by assumption,rfl⟩
 ·split at h
  ·rename_i h1
   refine .inr (.inl ⟨i-base,oM,oM,?_⟩)
   split at h
   ·cases h
   ·cases h
   ·rename_i h2 h3
    cases h
    exact⟨h2,h3,Y⟩
  ·split at h
   ·rename_i h1
    refine .inr (.inr ⟨h1,?_⟩)
    split at h
    ·cases h
    ·cases h
    ·rename_i h2 h3
     cases h
     exact⟨h2,h3,Y⟩
   ·cases h
theorem A6g{i:Nat}(h0:i≠0)(h:∀j,j<A.J→i=base+j→γ'.ph j=γ.ph j)(hc:i=base+A.J→γ'.cl=γ.cl):thF A base γ' i=thF A base γ i:=by
 unfold thF
 rw [if_neg h0,if_neg h0]
 split
 ·rename_i h1;rw [h (i-base) oM oM]
 ·split
  ·rename_i h1;rw [hc h1]
  ·rfl
theorem sum_upd{j:Nat}(hj:j<A.J)(q:Wk A.M):sumTo A.J (fun a=>wW A.Ls a (upd γ.ph j q a))+wW A.Ls j (γ.ph j)=sumTo A.J (fun a=>wW A.Ls a (γ.ph a))+wW A.Ls j q:=by
 have h1:=sumTo_upd (fun a=>wW A.Ls a (γ.ph a)) (wW A.Ls j q) id hj
 simp only [id]at h1
 rw [sumTo_congr (f:=fun a=>wW A.Ls a (upd γ.ph j q a)) (g:=fun a=>upd (fun a=>wW A.Ls a (γ.ph a)) j (wW A.Ls j q) a) fun a _=>by
  by_cases e:a=j
  ·subst e;rw [upd_same,upd_same]
  ·rw [upd_ne _ _ e,upd_ne _ _ e]]
 exact h1
theorem A3m(hw:wgt A.J A.Ls γ'<wgt A.J A.Ls γ):A7p A γ'<A7p A γ:=by
 have h2:=lC_le γ'.v γ'.cl
 unfold A7p
 omega
theorem rank_step(O:Ok A.J A.Ls γ){i:Nat}(h:Tr A.J A.Ls base γ i γ'):A7p A γ'<A7p A γ:=by
 have main:∀{mn:Mn A.M} {v:Nat},wM A.J mn<wM A.J γ.mn→A7p A {γ with mn:=mn,v:=v }<A7p A γ:=fun h=>A3m (by unfold wgt;dsimp only;omega)
 have clo:∀{c:Cl} {wt sm:Nat},wC c+3*sm<wC γ.cl+3*γ.sm→A7p A {γ with cl:=c,wt:=wt,sm:=sm }<A7p A γ:=fun h=>A3m (by unfold wgt;dsimp only;omega)
 have work:∀{j:Nat} {q:Wk A.M} {v wt sm:Nat},j<A.J→wW A.Ls j q+3*sm<wW A.Ls j (γ.ph j)+3*γ.sm→A7p A {γ with ph:=upd γ.ph j q,v:=v,wt:=wt,sm:=sm }<A7p A γ:=fun {j q v wt sm} hj h=>
  A3m (by
   have:=sum_upd (γ:=γ) hj q
   unfold wgt;dsimp only;omega)
 cases h with
 | a0 h=>exact main (mn:=.a1 _) (by rw [h];simp only [wM];omega)
 | @a1 k h=>exact main (by rw [h];split<;>simp only [wM]<;>omega)
 | ar h=>exact main (mn:=.a2 _) (by rw [h];simp only [wM];omega)
 | a2 h=>exact main (mn:=.go _) (by rw [h];simp only [wM];omega)
 | @go k h=>
  have k1:=O.stk;rw [h]at k1
  obtain⟨hst,hk⟩:=k1 k rfl
  have hoff:γ.ph k = .un:=(O.uns k).2 (.inl oM)
  have:=sum_upd (γ:=γ) hk (.sd (A.Ls k))
  rw [hoff]at this
  have w1:wW A.Ls k (.un:Wk A.M)=20+10*(A.Ls k).length:=rfl
  have w2:wW A.Ls k (.sd (A.Ls k))=15+10*(A.Ls k).length:=rfl
  rw [w1,w2]at this
  refine A3m ?_
  unfold wgt
  rw [h]
  dsimp only
  split<;>simp only [wM]<;>omega
 | gc h=>
  have k4:γ.cl = .un:=O.cls.2 (by have:=O.stg h;omega)
  refine A3m ?_
  unfold wgt
  rw [h,k4]
  simp only [wM,wC]
  omega
 | w0 h=>exact clo (c:=.w1) (by rw [h];simp only [wC];omega)
 | w1Z h=>exact clo (c:=.w5) (by rw [h];simp only [wC];omega)
 | w1 h=>unfold A7p wgt;rw [h];simp only [wC,lC,if_true];omega
 | wcY h=>exact clo (c:=.ww) (by rw [h];simp only [wC];omega)
 | @wcN o h hv=>unfold A7p wgt;rw [h];simp only [wC,lC];rw [if_neg (Ne.symm hv)];omega
 | ww h=>exact clo (c:=.w3) (by rw [h];simp only [wC];omega)
 | @w3 s h hs=>exact clo (c:=.w4) (by rw [h,hs];simp only [wC];omega)
 | w4 h=>exact clo (c:=.w5) (by rw [h];simp only [wC];omega)
 | w5 h=>exact clo (c:=.w6) (by rw [h];simp only [wC];omega)
 | w6 h=>exact clo (c:=.cl) (by rw [h];simp only [wC];omega)
 | cl h=>exact clo (c:=.off) (by rw [h];simp only [wC];omega)
 | @d0 j hj hp=>exact work hj (by rw [hp];simp only [wW,List.length_nil];omega)
 | @d1 j hj hp=>exact work hj (by rw [hp];simp only [wW];omega)
 | @d2 j v hj hp=>exact work hj (by rw [hp];simp only [wW];omega)
 | @d2L j hj hp=>exact work hj (by rw [hp];simp only [wW];omega)
 | @d3 j hj hp=>exact work hj (by rw [hp];simp only [wW];omega)
 | @d4 j hj hp=>exact work hj (by rw [hp];simp only [wW];omega)
 | @d5 j hj hp=>exact work hj (by rw [hp];simp only [wW];omega)
theorem tr_ph{i:Nat}(O:Ok A.J A.Ls γ)(h:Tr A.J A.Ls base γ i γ') :
  (∃k,γ.mn = .go k∧i=0∧γ'.ph=upd γ.ph k (.sd (A.Ls k))∧γ.st=k∧k<A.J∧γ'.st=k+1∧γ'.sm=γ.sm∧γ'.cl=γ.cl∧isF γ'.mn=false)∨(γ.mn = .gc∧i=0∧γ'.ph=γ.ph∧γ.st=A.J∧γ'.st=A.J+1∧γ'.sm=γ.sm∧γ.cl = .un∧γ'.cl = .w0∧isF γ'.mn=false)∨
  (i=0∧γ'.ph=γ.ph∧γ'.st=γ.st∧γ'.sm=γ.sm∧γ'.cl=γ.cl∧isF γ'.mn=isF γ.mn)∨
  (i=base+A.J∧γ'.ph=γ.ph∧γ'.st=γ.st∧γ'.mn=γ.mn∧γ.cl≠.un∧γ.cl≠.off∧γ'.cl≠.un∧(γ'.cl = .off→γ.cl = .cl))∨
  (∃j q,j<A.J∧i=base+j∧γ'.ph=upd γ.ph j q∧q≠.un∧γ'.st=γ.st∧γ'.mn=γ.mn∧γ'.cl=γ.cl∧γ.ph j≠.un∧γ.ph j≠.off∧(γ.sm<γ'.sm→γ.ph j = .d5)):=by
 have clo:∀{c:Cl} {wt sm:Nat},γ.cl≠.un→γ.cl≠.off→c≠.un→(c = .off→γ.cl = .cl)→(base+A.J=base+A.J∧γ.ph=γ.ph∧γ.st=γ.st∧γ.mn=γ.mn∧γ.cl≠.un∧γ.cl≠.off∧c≠.un∧(c = .off→γ.cl = .cl)):=fun a b c d=>⟨Y,Y,Y,Y,a,b,c,d⟩
 cases h with
 | @go k h=>
  obtain⟨h1,h2⟩:=O.stk k (by rw [h];rfl)
  exact .inl ⟨k,h,Y,Y,h1,h2,Y,Y,Y,by dsimp only;split<;>rfl⟩
 | gc h=>exact .inr (.inl ⟨h,rfl,rfl,O.stg h,rfl,rfl,O.cls.2 (by have:=O.stg h;omega),rfl,rfl⟩)
 | a0 h=>exact .inr (.inr (.inl ⟨rfl,rfl,rfl,rfl,rfl,by rw [h];rfl⟩))
 | a1 h=>exact .inr (.inr (.inl ⟨rfl,rfl,rfl,rfl,rfl,by rw [h];dsimp only;split<;>rfl⟩))
 | ar h=>exact .inr (.inr (.inl ⟨rfl,rfl,rfl,rfl,rfl,by rw [h];rfl⟩))
 | a2 h=>exact .inr (.inr (.inl ⟨rfl,rfl,rfl,rfl,rfl,by rw [h];rfl⟩))
 | cl h=>exact .inr (.inr (.inr (.inl ⟨rfl,rfl,rfl,rfl,by rw [h];simp,by rw [h];simp,by simp,fun _=>h⟩)))
 | @d0 j hj hp=>exact .inr (.inr (.inr (.inr ⟨j,_,hj,rfl,rfl,by simp,rfl,rfl,rfl,by rw [hp];simp,by rw [hp];simp,fun h=>absurd h (Nat.lt_irrefl _)⟩)))
 | @d1 j hj hp=>exact .inr (.inr (.inr (.inr ⟨j,_,hj,rfl,rfl,by simp,rfl,rfl,rfl,by rw [hp];simp,by rw [hp];simp,fun h=>absurd h (Nat.lt_irrefl _)⟩)))
 | @d2 j v hj hp=>exact .inr (.inr (.inr (.inr ⟨j,_,hj,rfl,rfl,by simp,rfl,rfl,rfl,by rw [hp];simp,by rw [hp];simp,fun h=>absurd h (Nat.lt_irrefl _)⟩)))
 | @d2L j hj hp=>exact .inr (.inr (.inr (.inr ⟨j,_,hj,rfl,rfl,by simp,rfl,rfl,rfl,by rw [hp];simp,by rw [hp];simp,fun h=>absurd h (Nat.lt_irrefl _)⟩)))
 | @d3 j hj hp=>exact .inr (.inr (.inr (.inr ⟨j,_,hj,rfl,rfl,by simp,rfl,rfl,rfl,by rw [hp];simp,by rw [hp];simp,fun h=>absurd h (Nat.lt_irrefl _)⟩)))
 | @d4 j hj hp=>exact .inr (.inr (.inr (.inr ⟨j,_,hj,rfl,rfl,by simp,rfl,rfl,rfl,by rw [hp];simp,by rw [hp];simp,fun h=>absurd h (Nat.lt_irrefl _)⟩)))
 | @d5 j hj hp=>exact .inr (.inr (.inr (.inr ⟨j,_,hj,rfl,rfl,by simp,rfl,rfl,rfl,by rw [hp];simp,by rw [hp];simp,fun _=>hp⟩)))
 | _ h=>exact .inr (.inr (.inr (.inl ⟨rfl,rfl,rfl,rfl,by rw [h];simp,by rw [h];simp,by simp,fun e=>(by cases e)⟩)))
theorem A9l:shF A γ A.Wg=some (true,wgB A.tW γ.v γ.wt γ.sm):=by simp [shF]
theorem sh_ch:shF A γ A.Ch=some (true,.chan 0 #[] (A5u γ.cl) γ.s γ.s false):=by simp [shF,Ne.symm A.wc]
theorem sh_atb{b:Nat}(h:b=A.Wg∨b=A.Ch):shF A γ b≠none:=by
 rcases h with rfl|rfl
 ·rw [A9l];simp
 ·rw [sh_ch];simp
theorem shut_iff:A5u γ.cl=true↔γ.cl = .off:=by cases γ.cl<;>simp [A5u]
theorem B1r{h:Nat}{σ:TF A}(hth:thF A base γ h=some σ)(hr:rcvF σ=true):h=0∧∃g,γ.mn = .rc g∧σ = .inl (.rc g):=by
 rcases B0e hth with ⟨rfl,rfl⟩|⟨_,_,_,_,_,rfl⟩|⟨_,_,_,rfl⟩
 ·cases hm:γ.mn<;>rw [hm]at hr<;>first|(cases hr;done)|exact⟨rfl,_,rfl,rfl⟩
 ·cases hr
 ·cases hr
theorem snd_inv{i:Nat}{τ:TF A}{m:A.M}(hth:thF A base γ i=some τ)(hs:sndF τ=some m):∃j l,i=base+j∧j<A.J∧γ.ph j = .sd (m::l)∧τ = .inr (.inl (.sd (m::l))):=by
 rcases B0e hth with ⟨rfl,rfl⟩|⟨j,rfl,hj,_,_,rfl⟩|⟨_,_,_,rfl⟩
 ·cases hs
 ·cases hp:γ.ph j with
  | sd l=>
   rw [hp]at hs
   cases l with
   | nil=>cases hs
   | cons m' l=>simp only [sndF,Option.some.injEq]at hs;subst hs;exact⟨j,l,rfl,hj,hp,rfl⟩
  | _=>rw [hp]at hs;cases hs
 ·cases hs
theorem laws(A:Par)(base:Nat)(hb:0<base):K.Laws (A0w A base) base where
  ok:=fun O h=>Ok.step O h
  rank:=fun O h=>rank_step O h
  oth:=fun {γ i γ'} O h j hji hjs=>by
    show thF A base γ' j=thF A base γ j
    by_cases h0:j=0
    · subst h0
      rcases tr_ph O h with ⟨k,_,rfl,_⟩|⟨_,rfl,_⟩|⟨rfl,_⟩|⟨_,_,_,h4,_⟩|⟨j',q,_,_,_,_,_,h5,_⟩
      · exact absurd Y hji
      · exact absurd Y hji
      · exact absurd Y hji
      · rw [A2o,A2o,h4]
      · rw [A2o,A2o,h5]
    · rcases tr_ph O h with ⟨k,_,rfl,h2,h3,_,_,_,h4,_⟩|⟨_,rfl,h2,h3,_⟩|⟨rfl,h2,_,_,h3,_⟩|⟨rfl,h2,_⟩|⟨j',q,_,rfl,h3,_,_,_,h4,_⟩
      · refine A6g h0 (fun a _ ha=>?_) fun _=>h4
        rw [h2,upd_ne]
        intro e
        apply hjs
        show j=base+γ.st
        omega
      · refine A6g h0 (fun a _ ha=>by rw [h2]) fun e=>absurd (show j=base+γ.st by omega) hjs
      · exact A6g h0 (fun a _ ha=>by rw [h2]) fun _=>h3
      · exact A6g h0 (fun a _ ha=>by rw [h2]) fun e=>absurd e hji
      · refine A6g h0 (fun a _ ha=>?_) fun _=>h4
        rw [h3,upd_ne]
        intro e
        apply hji
        rw [ha,e]
  lt:=fun {γ j τ} O h=>by
    rcases B0e h with ⟨rfl,_⟩|⟨a,rfl,h2,h3,_⟩|⟨rfl,h2,_⟩
    · exact .inl Y
    · refine .inr ⟨oM,?_⟩
      show base+a<base+γ.st
      have:a<γ.st:=Classical.byContradiction fun hn=>h3 ((O.uns a).2 (.inl oM))
      omega
    · refine .inr ⟨oM,?_⟩
      show base+A.J<base+γ.st
      have:A.J<γ.st:=Classical.byContradiction fun hn=>h2 (O.cls.2 oM)
      omega
  baseLe:=fun {γ} _=>Nat.le_add_right base γ.st
  live:=fun {γ} O=>by
    have nb:∀j,j≠base+A.J→¬blkF A base γ j:=fun j hj ⟨e,_⟩=>hj e
    cases hm:γ.mn with
    | rc g=>
      have hst:=O.stw (by rw [hm];rfl)
      have hcl:γ.cl≠.un:=fun e=>by have:=O.cls.1 e;omega
      by_cases hoff:γ.cl = .off
      · exact⟨0,_,A2o (A:=A) (base:=base),.inr ⟨by rw [hm];rfl,.inl (by show A5u γ.cl=true;rw [hoff];rfl)⟩⟩
      by_cases hw:γ.cl = .w3∧γ.sm=0
      · obtain⟨hc,hs⟩:=hw
        have find:∀j,j<A.J→γ.ph j≠.un→γ.ph j≠.off→∃i τ,thF A base γ i=some τ∧((sndF τ=none∧rcvF τ=false∧¬blkF A base γ i)∨(rcvF τ=true∧(A5u γ.cl=true∨∃j σ,thF A base γ j=some σ∧sndF σ≠none))):=fun j hj h1 h2=>by
          have hth:=A9f (A:=A) (γ:=γ) hb hj Y h1 h2
          by_cases hs:sndF (A:=A) (.inr (.inl (γ.ph j)))=none
          · exact⟨base+j,_,hth,.inl ⟨hs,Y,nb _ oM⟩⟩
          · exact⟨0,_,A2o (A:=A) (base:=base),.inr ⟨by rw [hm];rfl,.inr ⟨base+j,_,hth,hs⟩⟩⟩
        rcases O.wq (by rw [hc];rfl)with ⟨_,_,h3,_⟩|⟨_,_,_,h4⟩
        · by_cases hv:γ.v=0
          · obtain⟨j,hj,h⟩:=Sw_pos (ph:=γ.ph) (φ:=d34) (J:=A.J) (by have:=h3 hv;omega)
            exact find j hj (fun e=>by rw [e]at h;simp [d34]at h) (fun e=>by rw [e]at h;simp [d34]at h)
          · have hcn:=O.cnt
            rw [hm]at hcn
            simp only [pend]at hcn
            obtain⟨j,hj,h⟩:=Sw_pos (ph:=γ.ph) (φ:=A3y) (J:=A.J) oM
            exact find j hj (fun e=>by rw [e]at h;simp [A3y]at h) (fun e=>by rw [e]at h;simp [A3y]at h)
        · obtain⟨j,hj,h⟩:=Sw_pos (ph:=γ.ph) (φ:=d5c) (J:=A.J) oM
          exact find j hj (fun e=>by rw [e]at h;simp [d5c]at h) (fun e=>by rw [e]at h;simp [d5c]at h)
      · exact⟨base+A.J,_,B1i (A:=A) hb Y hcl hoff,.inl ⟨Y,Y,fun⟨_,h⟩=>hw h⟩⟩
    | _=>exact⟨0,_,A2o (A:=A) (base:=base),.inl ⟨rfl,by rw [hm];rfl,nb 0 oM⟩⟩
  wake:=fun {γ i γ' τ j} O hth h hji hbl hnb=>by
    obtain⟨rfl,hb1,hb2⟩:blkF A base γ j:=hbl
    have hnb:¬blkF A base γ' (base+A.J):=hnb
    rcases tr_ph O h with ⟨k,_,rfl,_,_,_,_,h2,h3,_⟩|⟨_,rfl,_,_,_,_,h2,_⟩|⟨rfl,_,_,h2,h3,_⟩|⟨rfl,_⟩|⟨a,q,ha,rfl,_,_,_,_,h3,h4,h5,h6⟩
    · exact absurd ⟨Y,by rw [h3];exact hb1,by rw [h2];exact hb2⟩ hnb
    · rw [hb1]at h2;cases h2
    · exact absurd ⟨Y,by rw [h3];exact hb1,by rw [h2];exact hb2⟩ hnb
    · exact absurd Y hji
    · have hτ:=hth
      rw [show(A0w A base).th γ (base+a)=thF A base γ (base+a)from Y,A9f hb ha Y h4 h5]at hτ
      cases hτ
      have:γ.sm<γ'.sm:=Classical.byContradiction fun hn=>hnb ⟨Y,by rw [h3];exact hb1,oM⟩
      rw [h6 this]
  main:=fun {γ} _=>⟨_,A2o (A:=A) (base:=base),rfl⟩
  over:=fun {γ} O h=>by
    have hc:γ.cl = .off:=O.fin h
    have hgone:=O.gone (by rw [hc];rfl)
    have hst:γ.st=A.J+1:=by
      cases hm:γ.mn<;>rw [show(A0w A base).over γ=(isF γ.mn=true)from rfl,hm]at h<;>first|(cases h;done)|exact O.stw (by rw [hm];rfl)
    refine⟨fun j hj=>?_,fun j h1 h2=>?_,fun τ hτ=>?_⟩
    · cases e:thF A base γ j with
      | none=>exact e
      | some ρ=>
        rcases B0e e with ⟨h,_⟩|⟨a,_,ha,_,h,_⟩|⟨_,_,h,_⟩
        · exact absurd h hj
        · exact absurd (hgone a ha) h
        · exact absurd hc h
    · have h:isF γ.mn=true:=h
      show tokF A base γ j=_
      unfold tokF
      rw [if_neg oM]
      split
      · rw [hgone (j-base) oM,hc,h];rfl
      · rw [hc,h];rfl
    · rw [show(A0w A base).th γ 0=thF A base γ 0 from Y,A2o]at hτ
      cases hτ
      have h:isF γ.mn=true:=h
      cases hm:γ.mn<;>rw [hm]at h<;>first|(cases h;done)|rfl
  atbS:=fun {γ b} _ h=>sh_atb h
  usrS:=fun {γ b j} _ h=>sh_atb h.1
  tokR:=fun {γ i τ} O hth hbi=>by
    rcases B0e hth with ⟨rfl,_⟩|⟨a,rfl,ha,h1,h2,rfl⟩|⟨rfl,h1,h2,rfl⟩
    · omega
    · show tokF A base γ (base+a)=_∨_
      unfold tokF
      rw [if_neg oM,if_pos oM,show base+a-base=a by omega]
      show _∨relW (γ.ph a)=true
      cases hp:γ.ph a<;>first|exact .inl rfl|exact .inr rfl|exact absurd hp h2
    · left
      show tokF A base γ (base+A.J)=_
      unfold tokF
      rw [if_neg oM,if_neg oM]
      cases hc:γ.cl<;>first|rfl|exact absurd hc h2
  chS:=fun {γ} _=>⟨γ.s,sh_ch⟩
  sndR:=fun {γ i τ} _ hth hs=>by
    cases e:sndF τ with
    | none=>exact absurd e hs
    | some m=>
      obtain⟨j,l,_,_,_,rfl⟩:=snd_inv hth e
      exact⟨Y,Y,Y⟩
  rcvR:=fun {γ i τ} _ hth hr=>by
    obtain⟨_,g,_,rfl⟩:=B1r hth hr
    exact⟨Y,Y⟩
  noSnd:=fun {γ i τ} O hs hth=>by
    cases e:sndF τ with
    | none=>exact e
    | some m=>
      obtain⟨j,l,_,hj,hp,_⟩:=snd_inv hth e
      have hc:γ.cl = .off:=shut_iff.1 hs
      rw [O.gone (by rw [hc];rfl) j hj]at hp
      cases hp
  shutW:=fun {γ i γ' τ} O hth h h1 h2=>by
    have h2:γ'.cl = .off:=shut_iff.1 h2
    have h1:γ.cl≠.off:=fun e=>by
      have h1:A5u γ.cl=false:=h1
      rw [e]at h1;cases h1
    rcases tr_ph O h with ⟨k,_,rfl,_,_,_,_,_,h3,_⟩|⟨_,rfl,_,_,_,_,_,h3,_⟩|⟨rfl,_,_,_,h3,_⟩|⟨rfl,_,_,_,h4,h5,_,h6⟩|⟨a,q,ha,rfl,_,_,_,_,h3,_⟩
    · exact absurd (h3 ▸ h2) h1
    · rw [h3]at h2;cases h2
    · exact absurd (h3 ▸ h2) h1
    · rw [show(A0w A base).th γ (base+A.J)=thF A base γ (base+A.J)from Y,B1i hb Y h4 h5]at hth
      cases hth
      rw [h6 h2]
    · exact absurd (h3 ▸ h2) h1
  cm:=fun {γ i h τ σ m} O hth hs hth' hr s hch=>by
    obtain⟨j,l,rfl,hj,hp,rfl⟩:=snd_inv hth hs
    obtain⟨rfl,g,hm,rfl⟩:=B1r hth' hr
    have hc:γ.cl≠.off:=fun e=>by
      rw [show(A0w A base).sh γ A.Ch=shF A γ A.Ch from Y,sh_ch,e]at hch;cases hch
    have hs':γ.s=s:=by
      rw [show(A0w A base).sh γ A.Ch=shF A γ A.Ch from Y,sh_ch]at hch
      simp only [Option.some.injEq,Prod.mk.injEq,Obj.chan.injEq]at hch
      exact hch.2.2.2.2.1
    have hsc:A5u γ.cl=false:=by
      cases e:A5u γ.cl with
      | false=>rfl
      | true=>exact absurd (shut_iff.1 e) hc
    show Ok _ _ (cmm base γ (base+j))∧A7p A (cmm base γ (base+j))<_∧base+(cmm base γ (base+j)).st=_∧thF A base (cmm base γ (base+j)) (base+j)=_∧thF A base (cmm base γ (base+j)) 0=_∧(∀a,a≠base+j→a≠0→thF A base (cmm base γ (base+j)) a=thF A base γ a)∧shF A (cmm base γ (base+j))=_∧_
    rw [cmm_eq hp hm]
    refine⟨O.comm hj hp hm,A3m ?_,Y,A9f hb hj (upd_same _ _ _) sM sM,A2o,fun a ha h0=>?_,?_,Y,?_,?_,?_,fun a ha=>?_⟩
    · have:=sum_upd (γ:=γ) hj (.sd l)
      rw [hp]at this
      have w1:wW A.Ls j (.sd (m::l))=15+10*(l.length+1):=rfl
      have w2:wW A.Ls j (.sd l)=15+10*l.length:=rfl
      rw [w1,w2]at this
      unfold wgt
      rw [hm]
      simp only [wM]
      omega
    · exact A6g h0 (fun b _ hb'=>upd_ne _ _ (fun e=>ha (by rw [hb',e]))) fun _=>rfl
    · funext b
      unfold shF View.set
      show _=if b=A.Ch then _ else _
      by_cases e:b=A.Ch
      · subst e
        rw [if_neg (Ne.symm A.wc),if_pos Y,if_pos rfl]
        dsimp only
        rw [hsc,hs']
      · rw [if_neg e,if_neg e]
        show _=if b=A.Wg then _ else if b=A.Ch then _ else _
        rw [if_neg e]
    · show(A0w A base).usr (cmm base γ (base+j))=_
      rw [cmm_eq hp hm]
    · show(A0w A base).say (cmm base γ (base+j))=_
      rw [cmm_eq hp hm]
    · funext a
      show tokF A base (cmm base γ (base+j)) a=tokF A base γ a
      rw [cmm_eq hp hm]
      unfold tokF
      dsimp only
      rw [hm]
      split
      · rfl
      · split
        · by_cases e:a-base=j
          · rw [e,upd_same,hp];rfl
          · rw [upd_ne _ _ e];rfl
        · rfl
    · have ha:blkF A base γ a:=ha
      show blkF A base (cmm base γ (base+j)) a
      rw [cmm_eq hp hm]
      exact ha
  cmR:=fun {γ i h τ σ m} O hth hs hth' hr=>by
    obtain⟨j,l,rfl,hj,hp,rfl⟩:=snd_inv hth hs
    obtain⟨rfl,g,hm,rfl⟩:=B1r hth' hr
    exact⟨Y,Y,Y,Y⟩
  fd:=fun {γ h σ} O hth hr hs=>by
    obtain⟨rfl,g,hm,rfl⟩:=B1r hth hr
    have hc:γ.cl = .off:=shut_iff.1 hs
    have hgone:=O.gone (by rw [hc];rfl)
    show Ok _ _ (fnd γ)∧A7p A (fnd γ)<_∧base+(fnd γ).st=_∧thF A base (fnd γ) 0=_∧(∀a,a≠0→thF A base (fnd γ) a=thF A base γ a)∧shF A (fnd γ)=_∧_
    rw [fnd_eq hm]
    refine⟨O.found hm hc,A3m ?_,Y,A2o,fun a h0=>A6g h0 (fun b _ hb'=>rfl) fun _=>rfl,Y,Y,?_,?_,fun a=>?_,fun a ha=>?_,?_⟩
    · unfold wgt
      rw [hm]
      simp only [wM]
      omega
    · show(A0w A base).usr (fnd γ)=_
      rw [fnd_eq hm]
    · show(A0w A base).say (fnd γ)=_
      rw [fnd_eq hm]
    · show tokF A base (fnd γ) a=tokF A base γ a∨(a≠0∧tokF A base γ a = .shut∧tokF A base (fnd γ) a = .know 0)
      rw [fnd_eq hm]
      unfold tokF
      dsimp only
      rw [hm,hc]
      by_cases h1:a<base
      · rw [if_pos h1,if_pos h1];exact .inl Y
      · rw [if_neg h1,if_neg h1]
        right
        refine⟨oM,?_⟩
        split
        · rename_i h2
          rw [hgone (a-base) oM]
          exact⟨Y,Y⟩
        · exact⟨Y,Y⟩
    · have ha:blkF A base γ a:=ha
      show blkF A base (fnd γ) a
      rw [fnd_eq hm]
      exact ha
    · show A5u (fnd γ).cl=true
      rw [fnd_eq hm]
      exact hs
  fdR:=fun {γ h σ} O hth hr=>by
    obtain⟨rfl,g,hm,rfl⟩:=B1r hth hr
    exact⟨Y,Y⟩
end
end Go.Pal.Fan
end
section
namespace Go.Pal.Fan
open Go Go.Conc Go.Pal View
open Go.ConcN (sumTo upd sumTo_upd upd_ne upd_same sumTo_congr le_sumTo)
open Go.Pal.Mu (wgV wgB OnB BkE MuteD cell_of thaw_of)
section
variable{P:Program}{A:Par}{base:Nat}{Z:View→Goroutine→Prop}{γ γ':FS A.M}{u:View}{w w':World}{es:Array Event}{i B:Nat}{o:Obj}{τ:TF A}
theorem A9m(hB:(B=A.Wg∧γ'.s=γ.s∧γ'.cl=γ.cl)∨(B=A.Wg∧γ'.s=γ.s∧A5u γ'.cl=A5u γ.cl)∨(B=A.Ch∧γ'.v=γ.v∧γ'.wt=γ.wt∧γ'.sm=γ.sm)):∀b,b≠B→shF A γ' b=shF A γ b:=fun b hb=>by
 unfold shF
 rcases hB with ⟨rfl,h1,h2⟩|⟨rfl,h1,h2⟩|⟨rfl,h1,h2,h3⟩
 ·rw [if_neg hb,if_neg hb,h1,h2]
 ·rw [if_neg hb,if_neg hb,h1,h2]
 ·rw [h1,h2,h3]
  split
  ·rfl
  ·rfl
theorem ss_of(htr:Tr A.J A.Ls base γ i γ')(hsz:γ'.st=γ.st)(hag:u.Agree w)(hS:(shF A γ).Agree w)(hd:Disj u (shF A γ))(hB:B=A.Wg∨B=A.Ch)(hw:OnB B o w w')
    (hB':shF A γ' B=some (true,o))(hoth:∀b,b≠B→shF A γ' b=shF A γ b)(hes:∀e∈es,K.EvS (A0w A base) γ i w.heap.size e)(hdf:∀σ,thF A base γ' i=some σ→deafBehind ((A0w A base).deaf τ) es=(A0w A base).deaf σ)
    (hobj:(∀e∈es,∀c wr,e≠⟨.obj c,wr,true⟩)∨(es=K.closeE A.Ch∧(A0w A base).deaf τ=0∧base≤i∧i<base+γ.st))
    (hmute:(A0w A base).rel τ=true→MuteD ((A0w A base).deaf τ) es)
    (hmv:∀j,base≤j→j<base+γ.st→K.Move (A0w A base) γ τ i es γ' j):K.SS (A0w A base) base i γ τ u w γ' u w' es:=by
  have hBn:=sh_atb (γ:=γ) hB
  have huB:u B=none:=(hd B).resolve_right hBn
  refine⟨htr,?_,hw.tape,hw.output,hw.os,hw.size,?_,?_,?_,?_,hes,hdf,fun b h=>.inl h,fun b h=>.inl h,fun b h=>.inl ?_,fun b h=>h,fun b h=>.inl h,fun b j h=>.inl ?_,fun b _=>?_,hobj,hmute,hmv⟩
  · show base+_=base+_;rw [hsz]
  · intro b p x e
    rw [hw.else_ b (fun e'=>by subst e';rw [huB]at e;cases e)]
    exact hag b p x e
  · intro b p x e
    have e:shF A γ' b=some (p,x):=e
    by_cases e':b=B
    · subst e';rw [hB']at e;cases e;exact hw.here
    · rw [hw.else_ b e']
      rw [hoth b e']at e
      exact hS b p x e
  · intro b _ h
    exact hw.else_ b (fun e'=>by subst e';exact hBn h)
  · intro b
    rcases hd b with h|h
    · exact .inl h
    · exact .inr (by
        show shF A γ' b=none
        rw [hoth b (fun e'=>by subst e';exact hBn h)];exact h)
  · by_cases e':b=B
    · subst e';exact hBn
    · have h:shF A γ' b≠none:=h
      rw [hoth b e']at h;exact h
  · have h:(b=A.Wg∨b=A.Ch)∧(j=0∨(base≤j∧j<base+γ'.st)):=h
    rw [hsz]at h
    exact h
  · show(if γ'.st≤A.J then _ else _)=if γ.st≤A.J then _ else _
    rw [hsz]
theorem ss_none(h:K.SS (A0w A base) base i γ τ u w γ' u w' es):K.SS (A0w A base) base i γ τ u w γ' noView w' es:=
 ⟨h.tr,h.size,h.tape,h.output,h.os,h.heap,fun _ _ _ e=>(by cases e),h.agreeS,h.keep,fun _=>.inl rfl,h.ev,h.deaf,fun _ e=>absurd rfl e,fun _ ⟨_,e⟩=>(by cases e),h.lose,h.atm,h.atn,h.usr,h.say,h.obj,h.mute,h.mv⟩
theorem usr_of(hb0:0<base)(O:Ok A.J A.Ls γ)(hth:thF A base γ i=some τ):i=0∨(base≤i∧i<base+γ.st):=(laws A base hb0).lt O hth
theorem evS_bk(hb0:0<base)(O:Ok A.J A.Ls γ)(hth:thF A base γ i=some τ)(hlt:A.Wg<w.heap.size){e:Event}(h:BkE A.Wg e):K.EvS (A0w A base) γ i w.heap.size e:=by
 rcases h with rfl|rfl|⟨off,wr,rfl⟩
 ·trivial
 ·trivial
 ·exact⟨.inl Y,⟨.inl Y,usr_of hb0 O hth⟩,hlt⟩
theorem A5l(h:∀e∈es,BkE B e):∀e∈es,∀c wr,e≠⟨.obj c,wr,true⟩:=fun e he c wr e'=>by
 subst e'
 rcases h _ he with h|h|⟨off,wr',h⟩<;>cases h
theorem tok_work{j:Nat}(hj:j<A.J):tokF A base γ (base+j)=tkW base A.J ⟨A.Wg,0,none⟩ γ.cl (isF γ.mn) (γ.ph j):=by
 unfold tokF
 rw [if_neg oM,if_pos oM,show base+j-base=j by omega]
theorem tok_clo:tokF A base γ (base+A.J)=tkC (isF γ.mn) γ.cl:=by
 unfold tokF
 rw [if_neg oM,if_neg oM]
theorem tok_same(hp:γ'.ph=γ.ph)(hc:γ'.cl=γ.cl)(hf:isF γ'.mn=isF γ.mn)(j:Nat):tokF A base γ' j=tokF A base γ j:=by
 unfold tokF
 rw [hp,hc,hf]
theorem mv_main(hb0:0<base)(hp:γ'.ph=γ.ph)(hc:γ'.cl=γ.cl)(hf:isF γ'.mn=isF γ.mn):∀j,base≤j→j<base+γ.st→K.Move (A0w A base) γ τ 0 es γ' j:=fun j hj _=>
 .inl ⟨tok_same hp hc hf j,fun e=>by omega⟩
def midC:Cl→Bool | .w0 | .w1 | .wc _ | .ww | .w3 | .w4 | .w5 | .w6=>true|_=>false
theorem tkW_mid{M:Type}{c c':Cl}{W:Addr}{f:Bool}{q:Wk M}{J:Nat}(h:midC c=true)(h':midC c'=true):tkW base J W c f q=tkW base J W c' f q:=by
 cases c<;>cases h<;>cases c'<;>cases h'<;>cases q<;>rfl
theorem mv_clo(hb0:0<base)(hp:γ'.ph=γ.ph)(hm:γ'.mn=γ.mn)(h:midC γ.cl=true)(h':midC γ'.cl=true):∀j,base≤j→j<base+γ.st→K.Move (A0w A base) γ τ (base+A.J) es γ' j:=fun j hj _=>by
 have hown:∀{c:Cl} {f:Bool},midC c=true→tkC f c = .own:=fun {c f} h=>by cases c<;>cases h<;>rfl
 have hne:∀{c:Cl},midC c=true→c≠.un∧c≠.off:=fun {c} h=>by cases c<;>cases h<;>simp
 refine .inl ⟨?_,fun e=>.inl ⟨?_,.inr (.inr γ'.cl),B1i hb0 Y (hne h').1 (hne h').2,Y⟩⟩
 ·show tokF A base γ' j=tokF A base γ j
  unfold tokF
  rw [hp,hm]
  split
  ·rfl
  ·split
   ·exact(tkW_mid h h').symm
   ·rw [hown h,hown h']
 ·show tokF A base γ (base+A.J) = .own
  rw [tok_clo]
  exact hown h
theorem mv_rel{j:Nat}{q:Wk A.M}(hj:j<A.J)(hp:γ'.ph=upd γ.ph j q)(hc:γ'.cl=γ.cl)(hm:γ'.mn=γ.mn)(h1:relW (γ.ph j)=true)(h2:relW q=true∨q = .off) :
    ∀a,base≤a→a<base+γ.st→K.Move (A0w A base) γ (.inr (.inl (γ.ph j))) (base+j) es γ' a:=fun a ha _=>by
  refine .inl ⟨?_,fun e=>.inr h1⟩
  show tokF A base γ' a=tokF A base γ a
  unfold tokF
  rw [hp,hc,hm]
  split
  · rfl
  · split
    · by_cases e:a-base=j
      · rw [e,upd_same]
        rcases h2 with h2|rfl
        · cases q<;>cases h2<;>revert h1<;>cases γ.ph j<;>intro h1<;>cases h1<;>rfl
        · revert h1;cases γ.ph j<;>intro h1<;>cases h1<;>rfl
      · rw [upd_ne _ _ e]
    · rfl
abbrev AtK(P:Program)(A:Par)(base:Nat)(Z:View→Goroutine→Prop)(n i:Nat)(τ:TF A):View→Goroutine→Prop:=K.AtX P (A0w A base) base Z (K.Job P (A0w A base) base Z n) i τ
abbrev JK(P:Program)(A:Par)(base:Nat)(Z:View→Goroutine→Prop)(n i:Nat)(τ:TF A)(N:Nat)(b:Frame)(its:List Item)(cs:List Frame)(ds:List Deferred)(ρ:Regs)(v:View):Prop:=
 XG (K.Job P (A0w A base) base Z n i τ v) N b its cs ds ρ
abbrev XK(P:Program)(main:Bool)(A:Par)(base:Nat)(Z:View→Goroutine→Prop)(n i:Nat)(τ:TF A)(N:Nat)(b:Frame)(its:List Item)(cs:List Frame)(ds:List Deferred)(ρ:Regs)(v:View):Prop:=
 XF P main (K.Proto.Wd (A0w A base)) (AtK P A base Z n i τ) N b its cs ds ρ v
variable{n:Nat}{N:Nat}{b:Frame}{its:List Item}{cs:List Frame}{ds:List Deferred}{ρ:Regs}{v:View}{main:Bool}
theorem A6j{g:Goroutine}(hm:(i==0)=main)(hr:(A0w A base).rel τ=false)(h:∀m,n=m+1→RunW P main (K.Proto.Wd (A0w A base)) (AtK P A base Z m i τ) v g):K.Job P (A0w A base) base Z n i τ v g:=by
 cases n with
 | zero=>trivial
 | succ m=>
  refine .inl ⟨hr,?_⟩
  rw [hm]
  exact h m Y
theorem A5z(hm:(i==0)=main)(hr:(A0w A base).rel τ=false)(h:∀m,n=m+1→XK P main A base Z m i τ N b its cs ds ρ v):JK P A base Z n i τ N b its cs ds ρ v:=fun a hf=>A6j hm hr fun m hm=>h m hm a hf
theorem job_out{g:Goroutine}(hm:(i==0)=main)(hr:(A0w A base).rel τ=false)(h:K.Job P (A0w A base) base Z (n+1) i τ v g):RunW P main (K.Proto.Wd (A0w A base)) (AtK P A base Z n i τ) v g:=by
 rcases h with ⟨_,h2⟩|⟨h1,_⟩
 ·rw [hm]at h2;exact h2
 ·rw [hr]at h1;cases h1
theorem A3s(hm:(i==0)=main)(hr:(A0w A base).rel τ=false):Sil P main (K.Job P (A0w A base) base Z n i τ v):=⟨fun {g g'} hs h r=>by
 cases n with
 | zero=>trivial
 | succ m=>exact A6j hm hr (fun m' hm'=>by
   obtain rfl:m=m':=oM
   exact Sil.step (R:=RunW P main (K.Proto.Wd (A0w A base)) (AtK P A base Z m i τ) v) hs h (job_out hm hr r))⟩
theorem B0t(hr:(A0w A base).rel τ=true):Sil P false (K.Job P (A0w A base) base Z n i τ noView):=⟨fun {g g'} hs h r=>by
 cases n with
 | zero=>trivial
 | succ m=>
  rcases r with ⟨h1,_⟩|⟨h1,h2,h3⟩
  ·rw [hr]at h1;cases h1
  ·exact .inr ⟨h1,h2,.step hs h h3⟩⟩
abbrev AtR(P:Program)(A:Par)(base:Nat)(Z:View→Goroutine→Prop)(n i:Nat)(τ:TF A):Goroutine→Prop:=K.AtF P (A0w A base) base Z (K.Job P (A0w A base) base Z n) i τ noView
theorem jr_run(hr:(A0w A base).rel τ=true)(h:∀m,n=m+1→XG (MRun P (AtR P A base Z m i τ)) N b its cs ds ρ):JK P A base Z n i τ N b its cs ds ρ noView:=fun a hf=>by
 cases n with
 | zero=>trivial
 | succ m=>exact .inr ⟨hr,rfl,h m rfl a hf⟩
theorem loop_jk{I:TF A→Regs→Prop}{body:Code}{k:List Item}(hm:(i==0)=main)(n0:Nat)(hI:∀τ ρ,I τ ρ→(A0w A base).rel τ=false)
  (h:∀m,m<n0→∀τ ρ,I τ ρ→(∀m',m'≤m→∀τ' ρ',I τ' ρ'→JK P A base Z m' i τ' N b (.inLoop body::k) cs ds ρ' v)→XK P main A base Z m i τ N b (.code body::.inLoop body::k) cs ds ρ v)
  (hq:I τ ρ):JK P A base Z n0 i τ N b (.code (.loop body)::k) cs ds ρ v:=by
 have key:∀n,n≤n0→∀τ ρ,I τ ρ→JK P A base Z n i τ N b (.inLoop body::k) cs ds ρ v:=by
  intro n
  induction n using Nat.strongRecOn with
  | _ n ih=>
   intro hn τ ρ hq
   refine A5z hm (hI τ ρ hq) fun m hm=>A5q ?_
   exact h m oM τ ρ hq fun m' hm'=>ih m' oM oM
 exact A5z hm (hI τ ρ hq) fun m hm=>F_loop (h m oM τ ρ hq fun m' hm'=>key m' oM)
end
end Go.Pal.Fan
end
section
namespace Go.Pal.Fan
open Go Go.Conc Go.Pal View
open Go.ConcN (sumTo upd sumTo_upd upd_ne upd_same sumTo_congr le_sumTo)
open Go.Pal.Mu (wgV wgB OnB BkE MuteD cell_of thaw_of mute_dis mute_one mute_rw mute_sem bk_dis bk_en bk_r bk_w bk_rw bk_sem deaf_dis deaf_en deaf_r deaf_rw deaf_sem deaf_nil)
section
variable{P:Program}{A:Par}{base:Nat}{Z:View→Goroutine→Prop}{n j:Nat}{N:Nat}{b:Frame}{cs:List Frame}{ds:List Deferred}{ρ:Regs}{v:View}{k:List Item}{ops:Array Oper}{i:Nat}{rest:List Nat}{d:Nat}{op:Op}{ty:TypeId}{pos:String}{af:Array Edge}{gu:Option (Nat×Bool)}
variable{f:FuncId}{fn:Func}{aS:Array Operand}{ats:Array TypeId}{o1 o2 o3:Operand}{γ:FS A.M}{X:Nat→TF A→View→Goroutine→Prop}{g:Goroutine}
theorem onWg0{w:World}{v wt sm v' wt':Nat}(h:w.heap[A.Wg]?=some (wgB A.tW v wt sm)):OnB A.Wg (wgB A.tW v' wt' sm) w (w.setCell ⟨A.Wg,0,none⟩ (.int .u64 (wgV v' wt'))):=OnB.set (off:=0) (.int .u64 (wgV v' wt')) h
theorem onWg1{w:World}{v wt sm sm':Nat}(h:w.heap[A.Wg]?=some (wgB A.tW v wt sm)):OnB A.Wg (wgB A.tW v wt sm') w (w.setCell ⟨A.Wg,1,none⟩ (.int .u32 sm')):=OnB.set (off:=1) (.int .u32 sm') h
theorem wgV_inj{v v':Nat}(h:wgV v 0=wgV v' 0):v=v':=by simp only [wgV]at h;omega
theorem A5e{w:World}(h:w.heap[A.Wg]?=some (wgB A.tW γ.v γ.wt γ.sm)):A.Wg<w.heap.size:=(Array.getElem?_eq_some_iff.1 h).1
theorem v_le(O:Ok A.J A.Ls γ):γ.v≤201:=by
  have h1:=O.cnt
  have h2:Sw A.J γ.ph A3y≤A.J:=by
    have:∀n,sumTo n (fun a=>A3y (γ.ph a))≤n:=fun n=>by
      induction n with
      | zero=>exact Nat.le_refl _
      | succ n ih => simp only [sumTo];have:A3y (γ.ph n)≤1:=by cases γ.ph n<;>simp [A3y]
                     omega
    exact this A.J
  have h3:pend γ.mn≤1:=by cases γ.mn<;>simp [pend]
  have:=A.J2
  omega
theorem wt_le(O:Ok A.J A.Ls γ):γ.wt≤1:=by
 cases h:isQ γ.cl with
 | true=>rcases O.wq h with ⟨h1,_⟩|⟨h1,_⟩<;>omega
 | false=>have:=(O.wn h).1;omega
theorem at_d34(O:Ok A.J A.Ls γ)(hj:j<A.J)(h:d34 (γ.ph j)=1):γ.v=0∧γ.wt=1:=by
 have h1:=le_Sw (ph:=γ.ph) hj d34
 cases hq:isQ γ.cl with
 | true=>
  rcases O.wq hq with ⟨a,b,c,e⟩|⟨a,b,c,e⟩
  ·refine⟨?_,a⟩
   apply Classical.byContradiction
   intro hv
   have:=e hv
   omega
  ·omega
 | false=>have:=(O.wn hq).2.1;omega
theorem at_d5c(O:Ok A.J A.Ls γ)(hj:j<A.J)(h:d5c (γ.ph j)=1):γ.v=0∧γ.wt=0∧γ.sm=0:=by
 have h1:=le_Sw (ph:=γ.ph) hj d5c
 cases hq:isQ γ.cl with
 | true=>
  rcases O.wq hq with ⟨a,b,c,e⟩|⟨a,b,c,e⟩
  ·omega
  ·exact⟨b,a,oM⟩
 | false=>have:=(O.wn hq).2.2;omega
theorem ph_of(hb0:0<base)(hj:j<A.J){q:Wk A.M}(h:thF A base γ (base+j)=some (.inr (.inl q))):γ.ph j=q∧q≠.un∧q≠.off:=by
 rcases B0e h with ⟨h0,_⟩|⟨j',h1,_,h3,h4,h5⟩|⟨h1,_⟩
 ·omega
 ·obtain rfl:j=j':=oM
  simp only [Sum.inr.injEq,Sum.inl.injEq]at h5
  subst h5
  exact⟨Y,h3,h4⟩
 ·omega
theorem nblk(hj:j<A.J):¬blkF A base γ (base+j):=fun⟨e,_⟩=>by omega
theorem at_rl(hb0:0<base)(hj:j<A.J){q:Wk A.M}(hrun:g.status = .running)(hoff:g.offers=none)(hr:relW q=true)(hwk:q = .d5→mayWake P g=true)
  (h:∀γ w,Ok A.J A.Ls γ→γ.ph j=q→w.heap[A.Wg]?=some (wgB A.tW γ.v γ.wt γ.sm)→∃q' v' wt' sm' g' w' es,stepG P false g w = .go g' w' es∧Tr A.J A.Ls base γ (base+j) {γ with ph:=upd γ.ph j q',v:=v',wt:=wt',sm:=sm' }∧
   OnB A.Wg (wgB A.tW v' wt' sm') w w'∧(∀e∈es,BkE A.Wg e)∧MuteD (dfW q) es∧
   ((relW q'=true∧deafBehind (dfW q) es=dfW q'∧X (base+j) (.inr (.inl q')) noView g')∨(q' = .off∧g'.status = .running∧A8w P (deafBehind (dfW q) es) g'))) :
  K.AtF P (A0w A base) base Z X (base+j) (.inr (.inl q)) noView g:=by
 refine⟨hrun,hoff,fun e=>hwk (by cases q<;>first|rfl|(cases e)),fun γ w O hth hag hS hd hcalm=>?_⟩
 have hth:thF A base γ (base+j)=some (.inr (.inl q)):=hth
 obtain⟨hph,hq1,hq2⟩:=ph_of hb0 hj hth
 have hi0:base+j≠0:=oM
 have hbq:(base+j==0)=false:=by simpa using hi0
 rw [hbq]
 refine⟨fun hbl=>absurd hbl (nblk hj),fun _=>?_⟩
 have hwg:w.heap[A.Wg]?=some (wgB A.tW γ.v γ.wt γ.sm):=hS A.Wg true _ A9l
 obtain⟨q',v',wt',sm',g',w',es,h1,h2,h8,h11,h12,h13⟩:=h γ w O hph hwg
 have hrel:relW (γ.ph j)=true:=by rw [hph];exact hr
 have hmk:∀{u:View},u.Agree w→Disj u (shF A γ)→(∀σ,thF A base {γ with ph:=upd γ.ph j q',v:=v',wt:=wt',sm:=sm' } (base+j)=some σ→deafBehind (dfW q) es=(A0w A base).deaf σ)→(relW q'=true∨q' = .off)→K.SS (A0w A base) base (base+j) γ (.inr (.inl q)) u w {γ with ph:=upd γ.ph j q',v:=v',wt:=wt',sm:=sm' } u w' es:=fun {u} hag hd hdf hq'=>by
  refine ss_of h2 Y hag hS hd (.inl Y) h8 A9l (A9m (.inl ⟨Y,Y,Y⟩)) (fun e he=>evS_bk hb0 O hth (A5e hwg) (h11 e he)) hdf (.inl (A5l h11)) (fun _=>h12) ?_
  have:=mv_rel (base:=base) (es:=es) (γ:=γ) (γ':={γ with ph:=upd γ.ph j q',v:=v',wt:=wt',sm:=sm' }) hj rfl rfl rfl hrel hq'
  rw [hph]at this
  exact this
 rcases h13 with ⟨h4,h5,hx⟩|⟨rfl,hs,hq⟩
 ·have hth':thF A base {γ with ph:=upd γ.ph j q',v:=v',wt:=wt',sm:=sm' } (base+j)=some (.inr (.inl q')):=A9f hb0 hj (upd_same _ _ _) (fun e=>by rw [e]at h4;cases h4) (fun e=>by rw [e]at h4;cases h4)
  exact .on _ (.inr (.inl q')) noView g' w' es (by rw [hbq];exact h1) (hmk hag hd (fun σ hσ=>by rw [hth']at hσ;cases hσ;exact h5) (.inl h4)) hth' (fun _=>rfl) hx
 ·have hth':thF A base {γ with ph:=upd γ.ph j .off,v:=v',wt:=wt',sm:=sm' } (base+j)=none:=th_off hb0 hj (upd_same _ _ _)
  obtain⟨kq,hk⟩:=hq
  exact .quit _ g' w' es kq hi0 h1 hs (hmk hag hd (fun σ hσ=>by rw [hth']at hσ;cases hσ) (.inr rfl)) hth' hk
theorem s_d0(hb0:0<base)(hj:j<A.J)(hk:b.kind≠.early)(hr:b.roundOf=none)(ho:ops[i]?=some ⟨some d,.call {callee:=.value (.func f),args:=#[o1],argTypes:=ats },ty,pos,af,gu⟩)
    (hw:A0p ops gu ρ=some true)(hn:Nat.blt d N=true)(E:Ext P f fn (Extern.Race.marked .releaseMerge))(h1:ρ.val o1=some (.pointer (some ⟨A.Wg,0,none⟩)))
    (h:JK P A base Z n (base+j) (.inr (.inl .d1)) N b (.inRegion ops rest::k) cs ds ((d,.tuple #[])::ρ) noView) :
    XK P false A base Z n (base+j) (.inr (.inl (.sd []))) N b (.inRegion ops (i::rest)::k) cs ds ρ v:=fun c hf=>by
  refine .stop (Le.refl v) (.inl ⟨Y,Y,Y,Y,fun e=>(by cases e),fun γ w O hth hag hS hd hcalm=>?_⟩)
  have hth:thF A base γ (base+j)=some (.inr (.inl (.sd []))):=hth
  obtain⟨hph,_⟩:=ph_of hb0 hj hth
  have hi0:base+j≠0:=oM
  have hbq:(base+j==0)=false:=by simpa using hi0
  rw [hbq]
  have hwg:w.heap[A.Wg]?=some (wgB A.tW γ.v γ.wt γ.sm):=hS A.Wg true _ A9l
  refine⟨fun hbl=>absurd hbl (nblk hj),fun _=>?_⟩
  have e1:((#[o1]:Array Operand).map c.eval)[0]?=some (.pointer (some ⟨A.Wg,0,none⟩)):=by simp [A0k hf _ _ h1]
  have hstep:stepG P false (G (b.on c (.inRegion ops (i::rest)::k)) cs) w = .go (G (b.on (c.put (some d) (.tuple #[])) (.inRegion ops rest::k)) cs) w #[mkE (.releaseMerge ⟨A.Wg,0,none⟩)]:=by
    rw [A1u hr,A1u hr]
    exact stepG_markAt .releaseMerge (fun ad g e=>by cases e) ho (A0m hf (A0j hw)) hk rfl E.hf E.hname E.hb E.hn E.he e1
  have hth':thF A base {γ with ph:=upd γ.ph j .d1 } (base+j)=some (.inr (.inl .d1)):=A9f hb0 hj (upd_same _ _ _) sM sM
  have hcl:isP γ.cl=false:=by
    cases e:isP γ.cl with
    | false=>rfl
    | true=>have:=O.gone e j hj;rw [hph]at this;cases this
  refine .on {γ with ph:=upd γ.ph j .d1 } (.inr (.inl .d1)) noView _ w _ (by rw [hbq];exact hstep) (ss_none (ss_of (o:=wgB A.tW γ.v γ.wt γ.sm) (.d0 hj hph) Y hag hS hd (.inl Y) (.same hwg) A9l (A9m (.inl ⟨Y,Y,Y⟩)) ?_ ?_ (.inl ?_) (fun h=>(by cases h)) fun a ha1 ha2=>?_)) hth' (fun _=>rfl) (h _ (A0x hf (show A2p N (some d)=true from hn)))
  · intro e he
    simp only [List.mem_toArray,List.mem_singleton]at he
    subst he
    exact A5e hwg
  · intro σ hσ;rw [hth']at hσ;cases hσ;simp [deafBehind,dfW]
  · intro e he c wr e'
    simp only [List.mem_toArray,List.mem_singleton]at he
    rw [he]at e';cases e'
  · by_cases e:a=base+j
    · subst e
      refine .inr (.inl ⟨_,Y,Y,?_,.inl Y⟩)
      show tokF A base {γ with ph:=upd γ.ph j .d1 } (base+j)=_
      rw [tok_work hj]
      dsimp only
      rw [upd_same]
      cases hc:γ.cl<;>rw [hc]at hcl<;>first|rfl|cases hcl
    · refine .inl ⟨?_,fun e'=>absurd e' e⟩
      show tokF A base {γ with ph:=upd γ.ph j .d1 } a=tokF A base γ a
      unfold tokF
      dsimp only
      split
      · rfl
      · split
        · rw [upd_ne _ _ oM]
        · rfl
theorem s_rl(hb0:0<base)(hj:j<A.J){q:Wk A.M}(hr:relW q=true)(hn:Nat.blt d N=true)(hwk:q = .d5→∀c,mayWake P (G (b.on c (.inRegion ops (i::rest)::k)) cs)=true)
  (h:∀γ w c,Ok A.J A.Ls γ→γ.ph j=q→w.heap[A.Wg]?=some (wgB A.tW γ.v γ.wt γ.sm)→Fits N ⟨ds,ρ,[]⟩ c→∃y q' v' wt' sm' w' es,stepG P false (G (b.on c (.inRegion ops (i::rest)::k)) cs) w = .go (G (b.on (c.put (some d) y) (.inRegion ops rest::k)) cs) w' es∧
   Tr A.J A.Ls base γ (base+j) {γ with ph:=upd γ.ph j q',v:=v',wt:=wt',sm:=sm' }∧OnB A.Wg (wgB A.tW v' wt' sm') w w'∧(∀e∈es,BkE A.Wg e)∧MuteD (dfW q) es∧
   ((relW q'=true∧deafBehind (dfW q) es=dfW q'∧JK P A base Z n (base+j) (.inr (.inl q')) N b (.inRegion ops rest::k) cs ds ((d,y)::ρ) noView)∨(q' = .off∧XG (A8w P (deafBehind (dfW q) es)) N b (.inRegion ops rest::k) cs ds ((d,y)::ρ)))) :
  XG (MRun P (AtR P A base Z n (base+j) (.inr (.inl q)))) N b (.inRegion ops (i::rest)::k) cs ds ρ:=fun c hf=>by
 refine .stop (at_rl hb0 hj Y Y hr (fun e=>hwk e c) fun γ w O hph hwg=>?_)
 obtain⟨y,q',v',wt',sm',w',es,h1,h2,h3,h4,h5,h6⟩:=h γ w c O hph hwg hf
 refine⟨q',v',wt',sm',_,w',es,h1,h2,h3,h4,h5,?_⟩
 rcases h6 with ⟨a1,a2,a3⟩|⟨a1,a2⟩
 ·exact .inl ⟨a1,a2,a3 _ (A0x hf (show A2p N (some d)=true from hn))⟩
 ·exact .inr ⟨a1,Y,a2 _ (A0x hf (show A2p N (some d)=true from hn))⟩
theorem s_d1(hb0:0<base)(hj:j<A.J)(hk:b.kind≠.early)(hr:b.roundOf=none)(ho:ops[i]?=some ⟨some d,.call {callee:=.value (.func f),args:=aS,argTypes:=ats },ty,pos,af,gu⟩)
  (hw:A0p ops gu ρ=some true)(hn:Nat.blt d N=true)(E:Ext P f fn (fun _=>do mark .disable;pure Extern.Race.none_))
  (h:JK P A base Z n (base+j) (.inr (.inl .d2)) N b (.inRegion ops rest::k) cs ds ((d,.tuple #[])::ρ) noView) :
  XG (MRun P (AtR P A base Z n (base+j) (.inr (.inl .d1)))) N b (.inRegion ops (i::rest)::k) cs ds ρ:=
 s_rl hb0 hj rfl hn (fun e=>by cases e) fun γ w c O hph hwg hf=>
  ⟨.tuple #[],.d2,γ.v,γ.wt,γ.sm,w,#[mkE .disable],by
   rw [A1u hr,A1u hr]
   exact stepG_mark0 .disable (fun g e=>by cases e) ho (A0m hf (A0j hw)) hk rfl E.hf E.hname E.hb E.hn E.he,.d1 hj hph,.same hwg,bk_dis,mute_dis,.inl ⟨rfl,by rw [deaf_dis];rfl,h⟩⟩
theorem s_d2(hb0:0<base)(hj:j<A.J)(hk:b.kind≠.early)(hr:b.roundOf=none)(ho:ops[i]?=some ⟨some d,.call {callee:=.value (.func f),args:=#[o1,o2],argTypes:=ats },ty,pos,af,gu⟩)
  (hw:A0p ops gu ρ=some true)(hn:Nat.blt d N=true)(E:Ext P f fn (Extern.Atomic.update (Op.intArith .add) .u64 true))(h1:ρ.val o1=some (.pointer (some ⟨A.Wg,0,none⟩)))(h2:ρ.val o2=some (.int .u64 18446744069414584320))
  (hq:∀v wt:Nat,v≤201→wt≤1→(v≠0∨wt=0)→XG (A8w P 1) N b (.inRegion ops rest::k) cs ds ((d,.int .u64 (wgV v wt))::ρ))
  (hL:JK P A base Z n (base+j) (.inr (.inl .d3)) N b (.inRegion ops rest::k) cs ds ((d,.int .u64 (wgV 0 1))::ρ) noView) :
  XG (MRun P (AtR P A base Z n (base+j) (.inr (.inl .d2)))) N b (.inRegion ops (i::rest)::k) cs ds ρ:=
 s_rl hb0 hj rfl hn (fun e=>by cases e) fun γ w c O hph hwg hf=>by
  have hv:∃v',γ.v=v'+1:=by
   have h1:=le_Sw (ph:=γ.ph) hj A3y
   have h2:=O.cnt
   rw [hph]at h1
   simp only [A3y]at h1
   exact⟨γ.v-1,oM⟩
  obtain⟨v',hv'⟩:=hv
  have hvl:=v_le O
  have hwl:=wt_le O
  have hwr:IntKind.u64.wrap (wgV γ.v γ.wt+18446744069414584320)=wgV v' γ.wt:=by
   rw [Mu.wrap_u64];simp only [wgV];omega
  have hst:=stepG_add_atomic (P:=P) (main:=false) (b:=b) (cs:=cs) (kk:=k) (rest:=rest) (w:=w) ho (A0m hf (A0j hw)) hk Y E.hf E.hname E.hb E.hn .u64 E.he (A0k hf _ _ h1) (A0k hf _ _ h2) (v:=wgV γ.v γ.wt) (by rw [cell_of hwg];rfl) (thaw_of hwg)
  rw [hwr]at hst
  by_cases hc:v'≠0∨γ.wt=0
  ·exact⟨_,.off,v',γ.wt,γ.sm,_,_,by rw [A1u hr,A1u hr];exact hst,.d2 hj hph hv' hc,onWg0 hwg,bk_rw,mute_rw,.inr ⟨Y,by rw [deaf_rw];exact hq v' γ.wt oM hwl hc⟩⟩
  ·simp only [not_or,Classical.not_not]at hc
   obtain⟨rfl,hc2⟩:=hc
   have hwt:γ.wt=1:=oM
   refine⟨_,.d3,0,γ.wt,γ.sm,_,_,by rw [A1u hr,A1u hr];exact hst,.d2L hj hph hv' hc2,onWg0 hwg,bk_rw,mute_rw,.inl ⟨Y,by rw [deaf_rw];rfl,?_⟩⟩
   rw [hwt];exact hL
theorem s_d3(hb0:0<base)(hj:j<A.J)(hk:b.kind≠.early)(hr:b.roundOf=none)(ho:ops[i]?=some ⟨some d,.call {callee:=.value (.func f),args:=#[o1],argTypes:=ats },ty,pos,af,gu⟩)
  (hw:A0p ops gu ρ=some true)(hn:Nat.blt d N=true)(E:Ext P f fn (Extern.Atomic.loadT (.int .u64)))(h1:ρ.val o1=some (.pointer (some ⟨A.Wg,0,none⟩)))
  (h:JK P A base Z n (base+j) (.inr (.inl .d4)) N b (.inRegion ops rest::k) cs ds ((d,.int .u64 (wgV 0 1))::ρ) noView) :
  XG (MRun P (AtR P A base Z n (base+j) (.inr (.inl .d3)))) N b (.inRegion ops (i::rest)::k) cs ds ρ:=
 s_rl hb0 hj rfl hn (fun e=>by cases e) fun γ w c O hph hwg hf=>by
  obtain⟨e1,e2⟩:=at_d34 O hj (by rw [hph];rfl)
  have hst:=stepG_load_atomic (P:=P) (main:=false) (b:=b) (cs:=cs) (kk:=k) (rest:=rest) (w:=w) ho (A0m hf (A0j hw)) hk Y E.hf E.hname E.hb E.hn .u64 E.he (A0k hf _ _ h1) (v:=wgV γ.v γ.wt) (by rw [cell_of hwg];rfl)
  rw [e1,e2]at hst
  exact⟨_,.d4,γ.v,γ.wt,γ.sm,_,_,by rw [A1u hr,A1u hr];exact hst,.d3 hj hph,.same hwg,bk_r,mute_one,.inl ⟨Y,by rw [deaf_r];rfl,h⟩⟩
theorem s_d4(hb0:0<base)(hj:j<A.J)(hk:b.kind≠.early)(hr:b.roundOf=none)(ho:ops[i]?=some ⟨some d,.call {callee:=.value (.func f),args:=#[o1,o2],argTypes:=ats },ty,pos,af,gu⟩)
  (hw:A0p ops gu ρ=some true)(hn:Nat.blt d N=true)(E:Ext P f fn Extern.Atomic.storeT)(h1:ρ.val o1=some (.pointer (some ⟨A.Wg,0,none⟩)))(h2:ρ.val o2=some (.int .u64 0))
  (h:JK P A base Z n (base+j) (.inr (.inl .d5)) N b (.inRegion ops rest::k) cs ds ((d,.tuple #[])::ρ) noView) :
  XG (MRun P (AtR P A base Z n (base+j) (.inr (.inl .d4)))) N b (.inRegion ops (i::rest)::k) cs ds ρ:=
 s_rl hb0 hj rfl hn (fun e=>by cases e) fun γ w c O hph hwg hf=>by
  obtain⟨e1,e2⟩:=at_d34 O hj (by rw [hph];rfl)
  have hst:=stepG_store_atomic (P:=P) (main:=false) (b:=b) (cs:=cs) (kk:=k) (rest:=rest) (w:=w) ho (A0m hf (A0j hw)) hk Y E.hf E.hname E.hb E.hn E.he (A0k hf _ _ h1) (A0k hf _ _ h2) (u:=.int .u64 (wgV γ.v γ.wt)) (by rw [cell_of hwg];rfl) (thaw_of hwg)
  refine⟨_,.d5,γ.v,0,γ.sm,_,_,by rw [A1u hr,A1u hr];exact hst,.d4 hj hph,?_,bk_w,mute_one,.inl ⟨Y,by rw [deaf_r];rfl,h⟩⟩
  rw [e1]
  exact onWg0 (v':=0) (wt':=0) hwg
theorem s_d5{as':List Operand}(hb0:0<base)(hj:j<A.J)(hk:b.kind≠.early)(hr:b.roundOf=none)(ho:ops[i]?=some ⟨some d,.call {callee:=.value (.func f),args:=aS,argTypes:=ats },ty,pos,af,gu⟩)(has:aS.toList=o1::as')
  (hw:A0p ops gu ρ=some true)(hn:Nat.blt d N=true)(E:Ext P f fn Extern.Sync.semrelease)(h1:ρ.val o1=some (.pointer (some ⟨A.Wg,1,none⟩)))
  (h:XG (A8w P 1) N b (.inRegion ops rest::k) cs ds ((d,.tuple #[])::ρ)) :
  XG (MRun P (AtR P A base Z n (base+j) (.inr (.inl .d5)))) N b (.inRegion ops (i::rest)::k) cs ds ρ:=
 s_rl hb0 hj rfl hn (fun _ c=>Mu.mayWake_on ho rfl E.hf E.hb) fun γ w c O hph hwg hf=>by
  obtain⟨e1,e2,e3⟩:=at_d5c O hj (by rw [hph];rfl)
  have ea:(aS.map c.eval)[0]?=some (.pointer (some ⟨A.Wg,1,none⟩)):=by
   have:aS=(o1::as').toArray:=by rw [←has]
   subst this
   have:=A0k hf _ _ h1
   simp [this]
  have hwr:IntKind.u32.wrap ((γ.sm:Int)+1)=((γ.sm+1:Nat):Int):=by rw [Mu.wrap_u32,e3];rfl
  have hst:=stepG_semrelease (P:=P) (main:=false) (b:=b) (cs:=cs) (kk:=k) (rest:=rest) (w:=w) (n:=(γ.sm:Int)) ho (A0m hf (A0j hw)) hk Y E.hf E.hname E.hb E.hn E.he ea (by rw [cell_of hwg];rfl) (thaw_of hwg)
  rw [hwr]at hst
  exact⟨_,.off,γ.v,γ.wt,γ.sm+1,_,_,by rw [A1u hr,A1u hr];exact hst,.d5 hj hph,onWg1 hwg,bk_sem,mute_sem,.inr ⟨Y,by rw [deaf_sem];exact h⟩⟩
end
end Go.Pal.Fan
end
