/- Part 9. -/
import Derived.Test.YtiolobmgibdfmaaGreatPah
set_option linter.all false
section
namespace Go.Pal.Mu
open Go Go.Conc Go.Pal
open Go.ConcN (sumTo upd sumTo_upd upd_ne upd_same sumTo_congr le_sumTo)
def wgh:Mp→Nat
 | .out=>0
 | .ue=>1
 | .us _=>6
 | .uc _ | .ux=>7
 | .le | .la | .u0 | .ur | .ud | .ua=>8
 | .t1 _ | .wait _=>9
 | .rd true _ _ | .spin _ true _ _ | .cas _ true _ _=>10
 | .rd false _ _ | .spin _ false _ _ | .scas _ _ _ | .cas _ false _ _=>11
 | .t2 _ | .got _ | .hand _=>11
 | .l0 | .l1=>12
def lam(x:MW):Mp→Nat
 | .rd _ _ it=>10*(4-it)+6
 | .spin o _ _ it=>10*(4-it)+(if o=x then 5 else 9)
 | .scas _ _ it=>10*(4-it)+4
 | .cas o _ _ it=>10*(4-it)+(if o=x then 3 else 7)
 | .uc o=>if o=x then 2 else 4
 | .ux=>3
 | .le=>7 | .la=>6 | .u0=>5 | .ur=>4 | .ud=>3 | .ua=>2
 | .t1 _=>2 | .wait _=>1 | .t2 _=>3 | .got _=>2 | .hand _=>1
 | .l0=>2 | .l1=>1
 | .out | .ue | .us _=>0
theorem lam_le(x:MW)(p:Mp):lam x p≤49:=by
 cases p<;>simp only [lam]<;>(try split)<;>omega
theorem lam_other(x x':MW)(p:Mp):lam x' p≤lam x p+4:=by
 cases p<;>simp only [lam]<;>(try split)<;>(try split)<;>omega
theorem step_lower{x x':MW}{m m':Nat}{p p':Mp}(hl:loc x p)(h:Ms p x m p' x' m') :
  (x'=x∧m'=m∧wgh p'=wgh p∧lam x p'<lam x p)∨(wgh p'+4*m'<wgh p+4*m):=by
 cases h with
 | @rd aw sv it=>
  refine .inl ⟨Z,Z,?_,?_⟩
  ·unfold hd;cases aw<;>split<;>rfl
  ·unfold hd;split<;>simp [lam]
 | @spinY o aw sv it _ _ hit=>
  refine .inl ⟨Z,Z,?_,?_⟩
  ·cases aw<;>cases o.w<;>by_cases ho:o.n=0<;>simp [wgh,ho]
  ·have:lam x (if !aw && !o.w&&decide (o.n≠0)then .scas o sv it else .rd aw sv (it+1))≤10*(4-it)+4:=by
    split
    ·exact Nat.le_refl _
    ·simp only [lam];omega
   have h2:10*(4-it)+5≤lam x (.spin o aw sv it):=by simp only [lam];split<;>omega
   omega
 | @spinN o aw sv it=>
  refine .inl ⟨Z,Z,by cases aw<;>rfl,?_⟩
  simp only [lam];split<;>omega
 | scasN hne=>
  have:=hl.2.2.2.2.1
  refine .inl ⟨Z,Z,Z,?_⟩
  simp only [lam];omega
 | @casN o aw sv it _ _ hne=>
  refine .inl ⟨Z,Z,by cases aw<;>rfl,?_⟩
  simp only [lam];rw [if_neg (fun e=>hne e.symm)];omega
 | ucN hne=>
  refine .inl ⟨Z,Z,Z,?_⟩
  simp only [lam];rw [if_neg (fun e=>hne e.symm)];omega
 | ux=>
  unfold A3i
  split
  ·right;simp [wgh]
  ·exact .inl ⟨Z,Z,Z,by simp [lam]⟩
 | ua=>
  right
  unfold A3y A3i
  split
  ·simp [wgh]
  ·split<;>simp [wgh]
 | @casL aw sv it _ _ h1 h2=>right;cases aw<;>simp [wgh]
 | @casQ aw sv it _ _ c h1=>right;cases aw<;>cases c<;>simp [wgh]
 | @wait sv=>right;cases sv<;>simp [wgh]<;>omega
 | @gotR sv _ _ hs=>right;unfold hd;split<;>simp [wgh]
 | @us st=>right;simp only [wgh];omega
 | l1N=>right;simp [wgh]
 | l1Y=>right;simp [wgh]
 | scasY=>right;simp [wgh]
 | hand=>right;simp [wgh]
 | ucY=>right;simp [wgh]
 | ue=>right;simp [wgh]
 | _=>exact .inl ⟨rfl,rfl,rfl,by simp [lam]⟩
theorem ms_raise{x x':MW}{m m':Nat}{p p':Mp}(h:Ms p x m p' x' m')(hm:m<m'):∃st,p = .us st:=by
 cases h<;>first|exact⟨_,rfl⟩|omega
theorem S_zero{J:Nat}{ph:Nat→Mp}{φ:Mp→Nat}(h:∀j,j<J→φ (ph j)=0):S J ph φ=0:=by
 have:S J ph φ=S J (fun _=>.out) (fun _=>0):=sumTo_congr h
 rw [this]
 unfold S
 have:∀n,sumTo n (fun _=>0)=0:=fun n=>by induction n with|zero=>rfl|succ n ih=>simp [sumTo,ih]
 exact this J
theorem live{J:Nat}{ph:Nat→Mp}{x:MW}{m:Nat}(I:MI J ph x m){i:Nat}(hi:i<J)(hin:ph i≠.out):∃j,j<J∧ph j≠.out∧¬((∃sv,ph j = .wait sv)∧m=0):=by
 apply Classical.byContradiction
 intro hno
 have hall:∀j,j<J→ph j = .out∨((∃sv,ph j = .wait sv)∧m=0):=fun j hj=>by
  apply Classical.byContradiction
  intro h
  simp only [not_or]at h
  exact hno ⟨j,hj,h.1,h.2⟩
 obtain⟨⟨sv,hsv⟩,hm⟩:=(hall i hi).resolve_left hin
 subst hm
 have z:∀φ:Mp→Nat,φ .out=0→(∀sv,φ (.wait sv)=0)→S J ph φ=0:=fun φ h1 h2=>S_zero fun j hj=>by
  rcases hall j hj with e|⟨⟨sv,e⟩,_⟩
  ·rw [e,h1]
  ·rw [e,h2]
 have z1:=z hold Z fun _=>rfl
 have z3:=z gt Z fun _=>rfl
 have z4:=z hn Z fun _=>rfl
 have z5:=z ak Z fun _=>rfl
 have z6:=z usn Z fun _=>rfl
 have z7:=z uss Z fun _=>rfl
 have z8:=z rs Z fun _=>rfl
 have hw:=le_S (ph:=ph) hi wt
 rw [hsv]at hw
 have hl:x.l=false:=by
  have:=I.i1
  rw [z1]at this
  cases h:x.l with
  | false=>rfl
  | true=>rw [h]at this;simp at this
 cases hs:x.s with
 | true=>
  have:=(I.i3 hs).2.2.2.2.1
  rw [hl,z7,z3,z4]at this
  simp at this
 | false=>
  obtain⟨h1,_,_,h4⟩:=I.i2 hs
  rw [z6]at h1 h4
  rw [z3,z5]at h4
  have hn1:1≤x.n:=by simp only [wt]at hw;omega
  rcases I.i4 hs hl hn1 with h|h
  ·rw [h]at h4;simp at h4
  ·omega
inductive Wk where
 | off|take
 | mx(i:Nat)(L:List Nat)(p:Mp)
 | d0|d1|d2|d3|d4|d5
inductive Mn where
 | a0(k:Nat)|a1(k:Nat)|ar(k:Nat)|a2(k:Nat)|go(k:Nat)
 | w0|w1|wc(o:Nat)|ww|w3|w4|w5|w6|fin
structure WS where
 mn:Mn
 st:Nat
 ph:Nat→Wk
 c:Nat
 x:MW
 m:Nat
 L:List Nat
 v:Nat
 wt:Nat
 sm:Nat
def mp:Wk→Mp
 | .mx _ _ p=>p
 | _=>.out
def A6s:Wk→Nat | .take | .mx _ _ _ | .d0 | .d1 | .d2=>1|_=>0
def d34:Wk→Nat | .d3 | .d4=>1|_=>0
def d5c:Wk→Nat | .d5=>1|_=>0
def pend:Mn→Nat | .ar _ | .a2 _ | .go _=>1|_=>0
def kOf:Mn→Option Nat | .a0 k | .a1 k | .ar k | .a2 k | .go k=>some k|_=>none
def isQ:Mn→Bool | .ww | .w3=>true|_=>false
def isP:Mn→Bool | .w4 | .w5 | .w6 | .fin=>true|_=>false
def pre:Mp→Bool | .ud | .ua | .uc _ | .ux | .us _ | .ue | .out=>false|_=>true
def Sw(J:Nat)(ph:Nat→Wk)(φ:Wk→Nat):Nat:=sumTo J fun a=>φ (ph a)
theorem A1s{J:Nat}{ph:Nat→Wk}{i:Nat}(hi:i<J)(p:Wk)(φ:Wk→Nat):Sw J (upd ph i p) φ+φ (ph i)=Sw J ph φ+φ p:=sumTo_upd ph p φ hi
theorem le_Sw{J:Nat}{ph:Nat→Wk}{i:Nat}(hi:i<J)(φ:Wk→Nat):φ (ph i)≤Sw J ph φ:=le_sumTo (f:=fun a=>φ (ph a)) hi
theorem A6i(ph:Nat→Wk)(j:Nat)(q:Wk):(fun a=>mp (upd ph j q a))=upd (fun a=>mp (ph a)) j (mp q):=by
 funext a
 by_cases e:a=j
 ·subst e;rw [upd_same,upd_same]
 ·rw [upd_ne _ _ e,upd_ne _ _ e]
section
variable(J N:Nat)(keep:Nat→Bool)(base:Nat)
inductive Tr:WS→Nat→WS→Prop
 | a0 {γ k}:γ.mn = .a0 k→Tr γ 0 {γ with mn:=.a1 k }
 | a1 {γ k}:γ.mn = .a1 k→Tr γ 0 {γ with mn:=if γ.v=0 then .ar k else .a2 k,v:=γ.v+1 }
 | ar {γ k}:γ.mn = .ar k→Tr γ 0 {γ with mn:=.a2 k }
 | a2 {γ k}:γ.mn = .a2 k→Tr γ 0 {γ with mn:=.go k }
 | go {γ k}:γ.mn = .go k→Tr γ 0 {γ with mn:=if k+1<J then .a0 (k+1)else .w0,st:=k+1,ph:=upd γ.ph k .take }
 | w0 {γ}:γ.mn = .w0→Tr γ 0 {γ with mn:=.w1 }
 | w1Z {γ}:γ.mn = .w1→γ.v=0→Tr γ 0 {γ with mn:=.w5 }
 | w1 {γ}:γ.mn = .w1→γ.v≠0→Tr γ 0 {γ with mn:=.wc γ.v }
 | wcY {γ}:γ.mn = .wc γ.v→Tr γ 0 {γ with mn:=.ww,wt:=1 }
 | wcN {γ o}:γ.mn = .wc o→γ.v≠o→Tr γ 0 {γ with mn:=.w1 }
 | ww {γ}:γ.mn = .ww→Tr γ 0 {γ with mn:=.w3 }
 | w3 {γ s}:γ.mn = .w3→γ.sm=s+1→Tr γ 0 {γ with mn:=.w4,sm:=s }
 | w4 {γ}:γ.mn = .w4→Tr γ 0 {γ with mn:=.w5 }
 | w5 {γ}:γ.mn = .w5→Tr γ 0 {γ with mn:=.w6 }
 | w6 {γ}:γ.mn = .w6→Tr γ 0 {γ with mn:=.fin }
 | take {γ j}:j<J→γ.ph j = .take→γ.c<N→Tr γ (base+j) {γ with ph:=upd γ.ph j (if keep γ.c then .take else .mx γ.c [] .l0),c:=γ.c+1 }
 | takeE {γ j}:j<J→γ.ph j = .take→N≤γ.c→Tr γ (base+j) {γ with ph:=upd γ.ph j .d0,c:=γ.c+1 }
 | mx {γ j i L p p' x' m'}:j<J→γ.ph j = .mx i L p→Ms p γ.x γ.m p' x' m'→p≠.la→p≠.ur→p≠.ue→Tr γ (base+j) {γ with ph:=upd γ.ph j (.mx i L p'),x:=x',m:=m' }
 | la {γ j i L}:j<J→γ.ph j = .mx i L .la→Tr γ (base+j) {γ with ph:=upd γ.ph j (.mx i γ.L .u0) }
 | ur {γ j i L}:j<J→γ.ph j = .mx i L .ur→Tr γ (base+j) {γ with ph:=upd γ.ph j (.mx i L .ud),L:=L++[i] }
 | ue {γ j i L}:j<J→γ.ph j = .mx i L .ue→Tr γ (base+j) {γ with ph:=upd γ.ph j .take }
 | d0 {γ j}:j<J→γ.ph j = .d0→Tr γ (base+j) {γ with ph:=upd γ.ph j .d1 }
 | d1 {γ j}:j<J→γ.ph j = .d1→Tr γ (base+j) {γ with ph:=upd γ.ph j .d2 }
 | d2 {γ j v}:j<J→γ.ph j = .d2→γ.v=v+1→(v≠0∨γ.wt=0)→Tr γ (base+j) {γ with ph:=upd γ.ph j .off,v:=v }
 | d2L {γ j}:j<J→γ.ph j = .d2→γ.v=1→γ.wt≠0→Tr γ (base+j) {γ with ph:=upd γ.ph j .d3,v:=0 }
 | d3 {γ j}:j<J→γ.ph j = .d3→Tr γ (base+j) {γ with ph:=upd γ.ph j .d4 }
 | d4 {γ j}:j<J→γ.ph j = .d4→Tr γ (base+j) {γ with ph:=upd γ.ph j .d5,wt:=0 }
 | d5 {γ j}:j<J→γ.ph j = .d5→Tr γ (base+j) {γ with ph:=upd γ.ph j .off,sm:=γ.sm+1 }
structure Ok(γ:WS):Prop where
 stk:∀k,kOf γ.mn=some k→γ.st=k∧k<J
 stw:kOf γ.mn=none→γ.st=J
 offs:∀j,γ.st≤j→γ.ph j = .off
 mi:MI J (fun j=>mp (γ.ph j)) γ.x γ.m
 cnt:γ.v=Sw J γ.ph A6s+pend γ.mn
 wq:isQ γ.mn=true→(γ.wt=1∧Sw J γ.ph d5c+γ.sm=0∧(γ.v=0→Sw J γ.ph d34=1)∧(γ.v≠0→Sw J γ.ph d34=0))∨(γ.wt=0∧γ.v=0∧Sw J γ.ph d34=0∧Sw J γ.ph d5c+γ.sm=1)
 wn:isQ γ.mn=false→γ.wt=0∧Sw J γ.ph d34=0∧Sw J γ.ph d5c+γ.sm=0
 post:isP γ.mn=true→γ.v=0
 wcn:∀o,γ.mn = .wc o→o≠0
 own:∀j i L p,γ.ph j = .mx i L p→(p = .u0∨p = .ur)→L=γ.L
 idx:∀j i L p,γ.ph j = .mx i L p→i<N∧keep i=false∧p≠.out
 all:∀i,i<γ.c→i<N→keep i=false→i∈γ.L∨∃j L p,γ.ph j = .mx i L p∧pre p=true
 sub:∀i∈γ.L,i<N∧keep i=false
end
section
variable{J N:Nat}{keep:Nat→Bool}{base:Nat}
theorem A3t{ph:Nat→Mp}{x:MW}{m i:Nat}{p:Mp}(I:MI J ph x m)(hi:i<J)(h1:ph i = .out∨ph i = .ue)(h2:p = .out∨p = .l0):MI J (upd ph i p) x m:=by
 have z1:∀φ:Mp→Nat,(φ=hold∨φ=wt∨φ=gt∨φ=hn∨φ=ak∨φ=usn∨φ=uss∨φ=rs)→S J (upd ph i p) φ=S J ph φ:=fun φ hφ=>by
  have:=S_upd (ph:=ph) hi p φ
  have e1:φ (ph i)=0:=by rcases h1 with h1|h1<;>rw [h1]<;>rcases hφ with rfl|rfl|rfl|rfl|rfl|rfl|rfl|rfl<;>rfl
  have e2:φ p=0:=by rcases h2 with rfl|rfl<;>rcases hφ with rfl|rfl|rfl|rfl|rfl|rfl|rfl|rfl<;>rfl
  omega
 refine⟨?_,?_,?_,?_,fun j hj=>?_⟩
 ·rw [z1 hold sM];exact I.i1
 ·rw [z1 wt sM,z1 usn sM,z1 hn sM,z1 uss sM,z1 gt sM,z1 ak sM];exact I.i2
 ·rw [z1 wt sM,z1 usn sM,z1 hn sM,z1 uss sM,z1 gt sM,z1 ak sM];exact I.i3
 ·rw [z1 rs sM];exact I.i4
 ·by_cases e:j=i
  ·subst e;rw [upd_same];rcases h2 with rfl|rfl<;>trivial
  ·rw [upd_ne _ _ e];exact I.lo j hj
theorem hd_ne(x:MW)(aw sv:Bool)(it:Nat):hd x aw sv it≠.u0∧hd x aw sv it≠.ur∧hd x aw sv it≠.out∧pre (hd x aw sv it)=true:=by unfold hd;split<;>simp [pre]
theorem B0u(x:MW):A3i x≠.u0∧A3i x≠.ur∧A3i x≠.out:=by unfold A3i;split<;>simp
theorem B4b(x:MW):A3y x≠.u0∧A3y x≠.ur∧A3y x≠.out:=by unfold A3y;split;simp;exact B0u x
theorem ms_u0{p:Mp}{x x':MW}{m m':Nat}(h:Ms p x m .u0 x' m'):p = .la:=by
 generalize hq:Mp.u0=q at h
 cases h<;>first|rfl|(exact absurd hq.symm (hd_ne _ _ _ _).1)|(exact absurd hq.symm (B0u _).1)|(exact absurd hq.symm (B4b _).1)|(split at hq<;>cases hq)|cases hq
theorem ms_ur{p:Mp}{x x':MW}{m m':Nat}(h:Ms p x m .ur x' m'):p = .u0:=by
 generalize hq:Mp.ur=q at h
 cases h<;>first|rfl|(exact absurd hq.symm (hd_ne _ _ _ _).2.1)|(exact absurd hq.symm (B0u _).2.1)|(exact absurd hq.symm (B4b _).2.1)|(split at hq<;>cases hq)|cases hq
theorem ms_to_out{p:Mp}{x x':MW}{m m':Nat}(h:Ms p x m .out x' m'):p = .ue:=by
 generalize hq:Mp.out=q at h
 cases h<;>first|rfl|(exact absurd hq.symm (hd_ne _ _ _ _).2.2.1)|(exact absurd hq.symm (B0u _).2.2)|(exact absurd hq.symm (B4b _).2.2)|(split at hq<;>cases hq)|cases hq
theorem ms_pre{p p':Mp}{x x':MW}{m m':Nat}(h:Ms p x m p' x' m')(hne:p≠.ur)(hp:pre p=true):pre p'=true:=by
 cases h<;>first|rfl|(exact(hd_ne _ _ _ _).2.2.2)|(exact absurd rfl hne)|(split<;>rfl)|cases hp
theorem Ok.stJ{γ:WS}(O:Ok J N keep γ):γ.st≤J:=by
 cases h:kOf γ.mn with
 | none=>exact Nat.le_of_eq (O.stw h)
 | some k=>have:=O.stk k h;omega
theorem Ok.main{γ:WS}(O:Ok J N keep γ){mn:Mn}{v wt sm:Nat}(h1:∀k,kOf mn=some k→γ.st=k∧k<J)(h2:kOf mn=none→γ.st=J)(h3:v=Sw J γ.ph A6s+pend mn)
  (h4:isQ mn=true→(wt=1∧Sw J γ.ph d5c+sm=0∧(v=0→Sw J γ.ph d34=1)∧(v≠0→Sw J γ.ph d34=0))∨(wt=0∧v=0∧Sw J γ.ph d34=0∧Sw J γ.ph d5c+sm=1))
  (h5:isQ mn=false→wt=0∧Sw J γ.ph d34=0∧Sw J γ.ph d5c+sm=0)(h6:isP mn=true→v=0)(h7:∀o,mn = .wc o→o≠0:=by intro o e;cases e):Ok J N keep {γ with mn:=mn,v:=v,wt:=wt,sm:=sm }:=
 ⟨h1,h2,O.offs,O.mi,h3,h4,h5,h6,h7,O.own,O.idx,O.all,O.sub⟩
theorem Ok.work{γ:WS}(O:Ok J N keep γ){j:Nat}(hj:j<J)(hon:γ.ph j≠.off){q:Wk}{c:Nat}{x:MW}{m:Nat}{L:List Nat}{v wt sm:Nat}(hmi:MI J (fun a=>mp (upd γ.ph j q a)) x m)
    (hcnt:v+A6s (γ.ph j)=γ.v+A6s q)
    (hq:isQ γ.mn=true→(wt=1∧Sw J (upd γ.ph j q) d5c+sm=0∧(v=0→Sw J (upd γ.ph j q) d34=1)∧(v≠0→Sw J (upd γ.ph j q) d34=0))∨(wt=0∧v=0∧Sw J (upd γ.ph j q) d34=0∧Sw J (upd γ.ph j q) d5c+sm=1))
    (hn:isQ γ.mn=false→wt=0∧Sw J (upd γ.ph j q) d34=0∧Sw J (upd γ.ph j q) d5c+sm=0)(hp:isP γ.mn=true→v=0)
    (hown:∀i L' p,q = .mx i L' p→(p = .u0∨p = .ur)→L'=L)(hoth:L=γ.L∨∀k i L' p,k≠j→γ.ph k = .mx i L' p→¬(p = .u0∨p = .ur))
    (hidx:∀i L' p,q = .mx i L' p→i<N∧keep i=false∧p≠.out)
    (hall:∀i,i<c→i<N→keep i=false→(i<γ.c∧(i∈γ.L→i∈L)∧(∀L' p,γ.ph j = .mx i L' p→pre p=true→i∈L∨∃L'' p',q = .mx i L'' p'∧pre p'=true))∨∃L'' p',q = .mx i L'' p'∧pre p'=true)
    (hsub:∀i∈L,i<N∧keep i=false):Ok J N keep {γ with ph:=upd γ.ph j q,c:=c,x:=x,m:=m,L:=L,v:=v,wt:=wt,sm:=sm }:=by
  refine⟨O.stk,O.stw,fun k hk=>?_,hmi,?_,hq,hn,hp,O.wcn,fun k i L' p hk hpp=>?_,fun k i L' p hk=>?_,fun i h1 h2 h3=>?_,hsub⟩
  · have hne:k≠j:=fun e=>by subst e;exact hon (O.offs k hk)
    show upd γ.ph j q k=_
    rw [upd_ne _ _ hne];exact O.offs k hk
  · show v=Sw J (upd γ.ph j q) A6s+pend γ.mn
    have:=A1s (ph:=γ.ph) hj q A6s
    have:=O.cnt
    omega
  · by_cases e:k=j
    · subst e
      have hk:upd γ.ph k q k=_:=hk
      rw [upd_same]at hk
      exact hown i L' p hk hpp
    · have hk:upd γ.ph j q k=_:=hk
      rw [upd_ne _ _ e]at hk
      rcases hoth with h|h
      · rw [O.own k i L' p hk hpp];exact h.symm
      · exact absurd hpp (h k i L' p e hk)
  · by_cases e:k=j
    · subst e
      have hk:upd γ.ph k q k=_:=hk
      rw [upd_same]at hk
      exact hidx i L' p hk
    · have hk:upd γ.ph j q k=_:=hk
      rw [upd_ne _ _ e]at hk
      exact O.idx k i L' p hk
  · have mk:(∃L'' p',q = .mx i L'' p'∧pre p'=true)→i∈L∨∃k L'' p,upd γ.ph j q k = .mx i L'' p∧pre p=true:=fun⟨L'',p',a,b⟩=>.inr ⟨j,L'',p',by rw [upd_same];exact a,b⟩
    rcases hall i h1 h2 h3 with ⟨a,b,d⟩|a
    · rcases O.all i a h2 h3 with e|⟨k,L',p,e,f⟩
      · exact .inl (b e)
      · by_cases ek:k=j
        · subst ek
          rcases d L' p e f with g|g
          · exact .inl g
          · exact mk g
        · exact .inr ⟨k,L',p,by show upd γ.ph j q k=_;rw [upd_ne _ _ ek];exact e,f⟩
    · exact mk a
theorem Ok.step{γ γ':WS}{i:Nat}(O:Ok J N keep γ)(h:Tr J N keep base γ i γ'):Ok J N keep γ':=by
  cases h with
  | a0 h=>
    have k1:=O.stk;have k2:=O.stw;have k3:=O.cnt;have k4:=O.wn
    rw [h]at k1 k2 k3 k4
    exact O.main (mn:=.a1 _) k1 k2 k3 (fun e=>by cases e) (fun _=>k4 rfl) (fun e=>by cases e)
  | @a1 k h=>
    have k1:=O.stk;have k3:=O.cnt;have k4:=O.wn
    rw [h]at k1 k3 k4
    refine O.main (fun k' e=>?_) (fun e=>?_) ?_ (fun e=>?_) (fun _=>k4 Z) (fun e=>?_) ?_
    · split at e<;>exact k1 k' e
    · split at e<;>cases e
    · simp only [pend]at k3
      split<;>simp only [pend]<;>omega
    · split at e<;>cases e
    · split at e<;>cases e
    · intro o e;split at e<;>cases e
  | ar h=>
    have k1:=O.stk;have k2:=O.stw;have k3:=O.cnt;have k4:=O.wn
    rw [h]at k1 k2 k3 k4
    exact O.main (mn:=.a2 _) k1 k2 k3 (fun e=>by cases e) (fun _=>k4 rfl) (fun e=>by cases e)
  | a2 h=>
    have k1:=O.stk;have k2:=O.stw;have k3:=O.cnt;have k4:=O.wn
    rw [h]at k1 k2 k3 k4
    exact O.main (mn:=.go _) k1 k2 k3 (fun e=>by cases e) (fun _=>k4 rfl) (fun e=>by cases e)
  | @go k h=>
    have k1:=O.stk;have k3:=O.cnt;have k4:=O.wn
    rw [h]at k1 k3 k4
    obtain⟨hst,hkJ⟩:=k1 k rfl
    have hoff:γ.ph k = .off:=O.offs k oM
    have e1:=A1s (ph:=γ.ph) hkJ .take A6s
    have e2:=A1s (ph:=γ.ph) hkJ .take d34
    have e3:=A1s (ph:=γ.ph) hkJ .take d5c
    rw [hoff]at e1 e2 e3
    simp only [A6s,d34,d5c]at e1 e2 e3
    have hw:=k4 Z
    refine⟨fun k' e=>?_,fun e=>?_,fun j hj=>?_,?_,?_,fun e=>?_,fun _=>?_,fun e=>?_,fun o e=>?_,fun j i L p hj hp=>?_,fun j i L p hj=>?_,fun i a b c=>?_,O.sub⟩
    · simp only at e⊢
      split at e
      · simp only [kOf,Option.some.injEq]at e;omega
      · cases e
    · simp only at e⊢
      split at e
      · cases e
      · omega
    · simp only at hj⊢
      rw [upd_ne _ _ oM]
      exact O.offs j oM
    · simp only
      rw [A6i]
      exact A3t O.mi hkJ (by simp [hoff,mp]) (.inl Z)
    · simp only [pend]at k3
      simp only
      split<;>simp only [pend]<;>omega
    · simp only at e;split at e<;>cases e
    · simp only;omega
    · simp only at e;split at e<;>cases e
    · simp only at e;split at e<;>cases e
    · simp only at hj
      by_cases ej:j=k
      · subst ej;rw [upd_same]at hj;cases hj
      · rw [upd_ne _ _ ej]at hj;exact O.own j i L p hj hp
    · simp only at hj
      by_cases ej:j=k
      · subst ej;rw [upd_same]at hj;cases hj
      · rw [upd_ne _ _ ej]at hj;exact O.idx j i L p hj
    · rcases O.all i a b c with e|⟨j,L,p,e,f⟩
      · exact .inl e
      · refine .inr ⟨j,L,p,?_,f⟩
        simp only
        rw [upd_ne _ _ (fun ej=>by subst ej;rw [hoff]at e;cases e)]
        exact e
  | w0 h=>
    have k1:=O.stk;have k2:=O.stw;have k3:=O.cnt;have k4:=O.wn
    rw [h]at k1 k2 k3 k4
    exact O.main (mn:=.w1) k1 k2 k3 (fun e=>by cases e) (fun _=>k4 rfl) (fun e=>by cases e)
  | w1Z h hv=>
    have k1:=O.stk;have k2:=O.stw;have k3:=O.cnt;have k4:=O.wn
    rw [h]at k1 k2 k3 k4
    exact O.main (mn:=.w5) k1 k2 k3 (fun e=>by cases e) (fun _=>k4 rfl) (fun _=>hv)
  | w1 h hv=>
    have k1:=O.stk;have k2:=O.stw;have k3:=O.cnt;have k4:=O.wn
    rw [h]at k1 k2 k3 k4
    exact O.main (mn:=.wc _) k1 k2 k3 (fun e=>by cases e) (fun _=>k4 rfl) (fun e=>by cases e) (fun o e=>by cases e;exact hv)
  | wcY h=>
    have k1:=O.stk;have k2:=O.stw;have k3:=O.cnt;have k4:=O.wn
    rw [h]at k1 k2 k3 k4
    obtain⟨a,b,c⟩:=k4 rfl
    exact O.main (mn:=.ww) k1 k2 k3 (fun _=>.inl ⟨Z,c,fun hv=>absurd hv (O.wcn _ h),fun _=>b⟩) (fun e=>by cases e) (fun e=>by cases e)
  | wcN h hv=>
    have k1:=O.stk;have k2:=O.stw;have k3:=O.cnt;have k4:=O.wn
    rw [h]at k1 k2 k3 k4
    exact O.main (mn:=.w1) k1 k2 k3 (fun e=>by cases e) (fun _=>k4 rfl) (fun e=>by cases e)
  | ww h=>
    have k1:=O.stk;have k2:=O.stw;have k3:=O.cnt;have k4:=O.wq
    rw [h]at k1 k2 k3 k4
    exact O.main (mn:=.w3) k1 k2 k3 (fun _=>k4 Z) (fun e=>by cases e) (fun e=>by cases e)
  | @w3 s h hs=>
    have k1:=O.stk;have k2:=O.stw;have k3:=O.cnt;have k4:=O.wq
    rw [h]at k1 k2 k3 k4
    rcases k4 rfl with ⟨a,b,c,d⟩|⟨a,b,c,d⟩
    · omega
    · exact O.main (mn:=.w4) k1 k2 k3 (fun e=>by cases e) (fun _=>⟨a,c,oM⟩) (fun _=>b)
  | w4 h=>
    have k1:=O.stk;have k2:=O.stw;have k3:=O.cnt;have k4:=O.wn;have k5:=O.post
    rw [h]at k1 k2 k3 k4 k5
    exact O.main (mn:=.w5) k1 k2 k3 (fun e=>by cases e) (fun _=>k4 rfl) (fun _=>k5 rfl)
  | w5 h=>
    have k1:=O.stk;have k2:=O.stw;have k3:=O.cnt;have k4:=O.wn;have k5:=O.post
    rw [h]at k1 k2 k3 k4 k5
    exact O.main (mn:=.w6) k1 k2 k3 (fun e=>by cases e) (fun _=>k4 rfl) (fun _=>k5 rfl)
  | w6 h=>
    have k1:=O.stk;have k2:=O.stw;have k3:=O.cnt;have k4:=O.wn;have k5:=O.post
    rw [h]at k1 k2 k3 k4 k5
    exact O.main (mn:=.fin) k1 k2 k3 (fun e=>by cases e) (fun _=>k4 rfl) (fun _=>k5 rfl)
  | @take j hj hp hc=>
    have e2:=A1s (ph:=γ.ph) hj (if keep γ.c then Wk.take else .mx γ.c [] .l0) d34
    have e3:=A1s (ph:=γ.ph) hj (if keep γ.c then Wk.take else .mx γ.c [] .l0) d5c
    have f1:A6s (if keep γ.c then Wk.take else .mx γ.c [] .l0)=1:=by split<;>rfl
    have f2:d34 (if keep γ.c then Wk.take else .mx γ.c [] .l0)=0:=by split<;>rfl
    have f3:d5c (if keep γ.c then Wk.take else .mx γ.c [] .l0)=0:=by split<;>rfl
    rw [f2,hp]at e2;rw [f3,hp]at e3
    simp only [d34,d5c,Nat.add_zero]at e2 e3
    refine O.work hj (by rw [hp];simp) ?_ (by rw [f1,hp];rfl) (by rw [e2,e3];exact O.wq) (by rw [e2,e3];exact O.wn) O.post (fun i L' p e hpp=>?_) (.inl Z) (fun i L' p e=>?_) (fun i h1 h2 h3=>?_) O.sub
    · rw [A6i]
      exact A3t O.mi hj (by simp [hp,mp]) (by split<;>simp [mp])
    · split at e
      · cases e
      · cases e;rcases hpp with h|h<;>cases h
    · split at e
      · cases e
      · rename_i hk
        cases e
        exact⟨hc,by simpa using hk,by simp⟩
    · by_cases e:i=γ.c
      · subst e
        exact .inr ⟨[],.l0,by rw [h3];rfl,Z⟩
      · exact .inl ⟨oM,id,fun L' p e=>by rw [hp]at e;cases e⟩
  | @takeE j hj hp hc=>
    have e2:=A1s (ph:=γ.ph) hj .d0 d34
    have e3:=A1s (ph:=γ.ph) hj .d0 d5c
    rw [hp]at e2 e3
    simp only [d34,d5c,Nat.add_zero]at e2 e3
    refine O.work hj (by rw [hp];simp) ?_ (by rw [hp];rfl) (by rw [e2,e3];exact O.wq) (by rw [e2,e3];exact O.wn) O.post (fun i L' p e hpp=>by cases e) (.inl rfl) (fun i L' p e=>by cases e) (fun i h1 h2 h3=>.inl ⟨oM,id,fun L' p e=>by rw [hp]at e;cases e⟩) O.sub
    rw [A6i]
    exact A3t O.mi hj (by simp [hp,mp]) (.inl Z)
  | @mx j i L p p' x' m' hj hp hms n1 n2 n3=>
    have e2:=A1s (ph:=γ.ph) hj (.mx i L p') d34
    have e3:=A1s (ph:=γ.ph) hj (.mx i L p') d5c
    rw [hp]at e2 e3
    simp only [d34,d5c,Nat.add_zero]at e2 e3
    refine O.work hj (by rw [hp];simp) ?_ (by rw [hp];rfl) (by rw [e2,e3];exact O.wq) (by rw [e2,e3];exact O.wn) O.post (fun i' L' q e hpp=>?_) (.inl Z) (fun i' L' q e=>?_) (fun i' h1 h2 h3=>?_) O.sub
    · rw [A6i]
      exact step_inv O.mi hj (by simpa [hp,mp]using hms)
    · cases e
      rcases hpp with rfl|rfl
      · exact absurd (ms_u0 hms) n1
      · obtain rfl:=ms_ur hms
        exact O.own j i L .u0 hp (.inl Z)
    · cases e
      obtain⟨a,b,_⟩:=O.idx j i L p hp
      exact⟨a,b,fun e=>by subst e;exact n3 (ms_to_out hms)⟩
    · exact .inl ⟨h1,id,fun L' q e hpre=>by rw [hp]at e;cases e;exact .inr ⟨L,p',Z,ms_pre hms n2 hpre⟩⟩
  | @la j i L hj hp=>
    have e2:=A1s (ph:=γ.ph) hj (.mx i γ.L .u0) d34
    have e3:=A1s (ph:=γ.ph) hj (.mx i γ.L .u0) d5c
    rw [hp]at e2 e3
    simp only [d34,d5c,Nat.add_zero]at e2 e3
    refine O.work hj (by rw [hp];simp) ?_ (by rw [hp];rfl) (by rw [e2,e3];exact O.wq) (by rw [e2,e3];exact O.wn) O.post (fun i' L' q e hpp=>by cases e;rfl) (.inl Z) (fun i' L' q e=>?_) (fun i' h1 h2 h3=>?_) O.sub
    · rw [A6i]
      exact step_inv (m':=γ.m) (x':=γ.x) O.mi hj (by simpa [hp,mp]using Ms.la)
    · cases e
      obtain⟨a,b,_⟩:=O.idx j i L .la hp
      exact⟨a,b,by simp⟩
    · exact .inl ⟨h1,id,fun L' q e hpre=>by rw [hp]at e;cases e;exact .inr ⟨γ.L,.u0,Z,Z⟩⟩
  | @ur j i L hj hp=>
    have e2:=A1s (ph:=γ.ph) hj (.mx i L .ud) d34
    have e3:=A1s (ph:=γ.ph) hj (.mx i L .ud) d5c
    rw [hp]at e2 e3
    simp only [d34,d5c,Nat.add_zero]at e2 e3
    have hL:=O.own j i L .ur hp (.inr Z)
    refine O.work hj (by rw [hp];simp) ?_ (by rw [hp];rfl) (by rw [e2,e3];exact O.wq) (by rw [e2,e3];exact O.wn) O.post (fun i' L' q e hpp=>by cases e;rcases hpp with h|h<;>cases h) (.inr fun k i' L' q hk hkp hpp=>?_) (fun i' L' q e=>?_) (fun i' h1 h2 h3=>?_) (fun i' hi'=>?_)
    · rw [A6i]
      exact step_inv (m':=γ.m) (x':=γ.x) O.mi hj (by simpa [hp,mp]using Ms.ur)
    · have hkJ:k<J:=Classical.byContradiction fun h=>by
        have:=O.offs k (by have:=O.stJ;omega)
        rw [this]at hkp;cases hkp
      have q1:=S_upd (ph:=fun a=>mp (γ.ph a)) hj .out hold
      have q2:=le_S (ph:=upd (fun a=>mp (γ.ph a)) j .out) hkJ hold
      rw [upd_ne _ _ hk]at q2
      have q3:hold (mp (γ.ph j))=1:=by rw [hp];rfl
      have q4:hold (mp (γ.ph k))=1:=by rw [hkp];rcases hpp with rfl|rfl<;>rfl
      have q5:=O.mi.i1
      have q6:γ.x.l.toNat≤1:=by cases γ.x.l<;>simp
      rw [q3]at q1
      rw [q4]at q2
      have q7:hold .out=0:=rfl
      omega
    · cases e
      obtain⟨a,b,_⟩:=O.idx j i L .ur hp
      exact⟨a,b,by simp⟩
    · exact .inl ⟨h1,fun h=>by rw [←hL]at h;exact List.mem_append_left _ h,fun L' q e hpre=>by rw [hp]at e;cases e;exact .inl sM⟩
    · rcases List.mem_append.1 hi' with h|h
      · rw [hL]at h;exact O.sub i' h
      · simp only [List.mem_singleton]at h
        subst h
        obtain⟨a,b,_⟩:=O.idx j i' L .ur hp
        exact⟨a,b⟩
  | @ue j i L hj hp=>
    have e2:=A1s (ph:=γ.ph) hj .take d34
    have e3:=A1s (ph:=γ.ph) hj .take d5c
    rw [hp]at e2 e3
    simp only [d34,d5c,Nat.add_zero]at e2 e3
    refine O.work hj (by rw [hp];simp) ?_ (by rw [hp];rfl) (by rw [e2,e3];exact O.wq) (by rw [e2,e3];exact O.wn) O.post (fun i' L' q e hpp=>by cases e) (.inl rfl) (fun i' L' q e=>by cases e) (fun i' h1 h2 h3=>.inl ⟨h1,id,fun L' q e hpre=>by rw [hp]at e;cases e;cases hpre⟩) O.sub
    rw [A6i]
    exact A3t O.mi hj (by simp [hp,mp]) (.inl Z)
  | @d0 j hj hp=>
    have e2:=A1s (ph:=γ.ph) hj .d1 d34
    have e3:=A1s (ph:=γ.ph) hj .d1 d5c
    rw [hp]at e2 e3
    simp only [d34,d5c,Nat.add_zero]at e2 e3
    refine O.work hj (by rw [hp];simp) ?_ (by rw [hp];rfl) (by rw [e2,e3];exact O.wq) (by rw [e2,e3];exact O.wn) O.post (fun i' L' q e hpp=>by cases e) (.inl rfl) (fun i' L' q e=>by cases e) (fun i' h1 h2 h3=>.inl ⟨h1,id,fun L' q e hpre=>by rw [hp]at e;cases e⟩) O.sub
    rw [A6i]
    exact A3t O.mi hj (by simp [hp,mp]) (.inl Z)
  | @d1 j hj hp=>
    have e2:=A1s (ph:=γ.ph) hj .d2 d34
    have e3:=A1s (ph:=γ.ph) hj .d2 d5c
    rw [hp]at e2 e3
    simp only [d34,d5c,Nat.add_zero]at e2 e3
    refine O.work hj (by rw [hp];simp) ?_ (by rw [hp];rfl) (by rw [e2,e3];exact O.wq) (by rw [e2,e3];exact O.wn) O.post (fun i' L' q e hpp=>by cases e) (.inl rfl) (fun i' L' q e=>by cases e) (fun i' h1 h2 h3=>.inl ⟨h1,id,fun L' q e hpre=>by rw [hp]at e;cases e⟩) O.sub
    rw [A6i]
    exact A3t O.mi hj (by simp [hp,mp]) (.inl Z)
  | @d2 j v hj hp hv hw=>
    have e2:=A1s (ph:=γ.ph) hj .off d34
    have e3:=A1s (ph:=γ.ph) hj .off d5c
    rw [hp]at e2 e3
    simp only [d34,d5c,Nat.add_zero]at e2 e3
    refine O.work hj (by rw [hp];simp) ?_ (by rw [hp,hv];rfl) (fun e=>?_) (by rw [e2,e3];exact O.wn) (fun e=>by have:=O.post e;omega) (fun i' L' q e hpp=>by cases e) (.inl rfl) (fun i' L' q e=>by cases e) (fun i' h1 h2 h3=>.inl ⟨h1,id,fun L' q e hpre=>by rw [hp]at e;cases e⟩) O.sub
    · rw [A6i]
      exact A3t O.mi hj (by simp [hp,mp]) (.inl Z)
    · rw [e2,e3]
      rcases O.wq e with ⟨a,b,c,d⟩|⟨a,b,c,d⟩
      · exact .inl ⟨a,b,fun h=>by omega,fun _=>d oM⟩
      · omega
  | @d2L j hj hp hv hw=>
    have e2:=A1s (ph:=γ.ph) hj .d3 d34
    have e3:=A1s (ph:=γ.ph) hj .d3 d5c
    rw [hp]at e2 e3
    simp only [d34,d5c,Nat.add_zero]at e2 e3
    refine O.work hj (by rw [hp];simp) ?_ (by rw [hp,hv];rfl) (fun e=>?_) (fun e=>absurd (O.wn e).1 hw) (fun e=>rfl) (fun i' L' q e hpp=>by cases e) (.inl rfl) (fun i' L' q e=>by cases e) (fun i' h1 h2 h3=>.inl ⟨h1,id,fun L' q e hpre=>by rw [hp]at e;cases e⟩) O.sub
    · rw [A6i]
      exact A3t O.mi hj (by simp [hp,mp]) (.inl Z)
    · rw [e2,e3]
      rcases O.wq e with ⟨a,b,c,d⟩|⟨a,b,c,d⟩
      · have:=d oM
        exact .inl ⟨a,b,fun _=>by omega,fun h=>absurd Z h⟩
      · omega
  | @d3 j hj hp=>
    have e2:=A1s (ph:=γ.ph) hj .d4 d34
    have e3:=A1s (ph:=γ.ph) hj .d4 d5c
    rw [hp]at e2 e3
    simp only [d34,d5c,Nat.add_zero,Nat.add_right_cancel_iff]at e2 e3
    refine O.work hj (by rw [hp];simp) ?_ (by rw [hp];rfl) (by rw [e2,e3];exact O.wq) (by rw [e2,e3];exact O.wn) O.post (fun i' L' q e hpp=>by cases e) (.inl rfl) (fun i' L' q e=>by cases e) (fun i' h1 h2 h3=>.inl ⟨h1,id,fun L' q e hpre=>by rw [hp]at e;cases e⟩) O.sub
    rw [A6i]
    exact A3t O.mi hj (by simp [hp,mp]) (.inl Z)
  | @d4 j hj hp=>
    have e2:=A1s (ph:=γ.ph) hj .d5 d34
    have e3:=A1s (ph:=γ.ph) hj .d5 d5c
    have e4:=le_Sw (ph:=γ.ph) hj d34
    rw [hp]at e2 e3 e4
    simp only [d34,d5c,Nat.add_zero]at e2 e3 e4
    refine O.work hj (by rw [hp];simp) ?_ (by rw [hp];rfl) (fun e=>?_) (fun e=>?_) O.post (fun i' L' q e hpp=>by cases e) (.inl rfl) (fun i' L' q e=>by cases e) (fun i' h1 h2 h3=>.inl ⟨h1,id,fun L' q e hpre=>by rw [hp]at e;cases e⟩) O.sub
    · rw [A6i]
      exact A3t O.mi hj (by simp [hp,mp]) (.inl Z)
    · rcases O.wq e with ⟨a,b,c,d⟩|⟨a,b,c,d⟩
      · by_cases hv:γ.v=0
        · have:=c hv
          exact .inr ⟨Z,hv,oM,oM⟩
        · have:=d hv;omega
      · omega
    · have:=O.wn e;omega
  | @d5 j hj hp=>
    have e2:=A1s (ph:=γ.ph) hj .off d34
    have e3:=A1s (ph:=γ.ph) hj .off d5c
    have e4:=le_Sw (ph:=γ.ph) hj d5c
    rw [hp]at e2 e3 e4
    simp only [d34,d5c,Nat.add_zero]at e2 e3 e4
    refine O.work hj (by rw [hp];simp) ?_ (by rw [hp];rfl) (fun e=>?_) (fun e=>?_) O.post (fun i' L' q e hpp=>by cases e) (.inl rfl) (fun i' L' q e=>by cases e) (fun i' h1 h2 h3=>.inl ⟨h1,id,fun L' q e hpre=>by rw [hp]at e;cases e⟩) O.sub
    · rw [A6i]
      exact A3t O.mi hj (by simp [hp,mp]) (.inl Z)
    · rw [e2]
      rcases O.wq e with ⟨a,b,c,d⟩|⟨a,b,c,d⟩
      · omega
      · exact .inr ⟨a,b,c,oM⟩
    · have:=O.wn e;omega
end
def hc:Wk→Nat | .mx _ _ .u0 | .mx _ _ .ur=>1|_=>0
def encW(x:MW):Int:=((x.l.toNat+2*x.w.toNat+4*x.s.toNat+8*x.n:Nat):Int)
def wgV(v wt:Nat):Int:=((v*4294967296+wt:Nat):Int)
def muB(t:TypeId)(x:MW)(m:Nat):Obj:=.cells #[.int .i32 (encW x),.int .u32 m] t (0,0)
def wgB(t:TypeId)(v wt sm:Nat):Obj:=.cells #[.int .u64 (wgV v wt),.int .u32 sm] t (0,0)
def cnB(t:TypeId)(c:Nat):Obj:=.cells #[.int .i64 c] t (0,0)
structure Par where
 J:Nat
 N:Nat
 keep:Nat→Bool
 Mu:Nat
 Wg:Nat
 Cn:Nat
 Cm:Nat
 tM:TypeId
 tW:TypeId
 tC:TypeId
 con:List Nat→Obj
 J1:1≤J
 J2:J≤200
def shW(A:Par)(γ:WS):View:=fun b=>
 if b=A.Mu then some (true,muB A.tM γ.x γ.m)else if b=A.Wg then some (true,wgB A.tW γ.v γ.wt γ.sm)else if b=A.Cn then some (true,cnB A.tC γ.c)else
 if b=A.Cm then(if Sw A.J γ.ph hc=0 then some (true,A.con γ.L)else none)else none
def dfP:Mp→Nat
 | .l1 | .rd _ _ _ | .spin _ _ _ _ | .scas _ _ _ | .cas _ _ _ _ | .t1 _ | .wait _ | .t2 _ | .got _ | .hand _ | .le | .ua | .uc _ | .ux | .us _ | .ue=>1
 | _=>0
def dfW:Wk→Nat | .mx _ _ p=>dfP p | .d2 | .d3 | .d4 | .d5=>1|_=>0
def dfM:Mn→Nat | .a1 _ | .ar _ | .a2 _ | .w1 | .wc _ | .ww | .w3 | .w4 | .w5=>1|_=>0
def relW:Wk→Bool | .d1 | .d2 | .d3 | .d4 | .d5=>true|_=>false
def A9u:Mp→Bool | .us _=>true|_=>false
def wakesW:Wk→Bool | .mx _ _ p=>A9u p | .d5=>true|_=>false
def thW(A:Par)(base:Nat)(γ:WS)(i:Nat):Option (Mn ⊕ Wk):=
 if i=0 then some (.inl γ.mn)else if base≤i∧i<base+A.J then(match γ.ph (i-base)with | .off=>none|q=>some (.inr q))else none
def blkW(A:Par)(base:Nat)(γ:WS)(i:Nat):Prop:=(i=0∧γ.mn = .w3∧γ.sm=0)∨∃j,i=base+j∧j<A.J∧(∃i' L sv,γ.ph j = .mx i' L (.wait sv))∧γ.m=0
def wM(J:Nat):Mn→Nat
 | .a0 k=>(J-k)*60+50 | .a1 k=>(J-k)*60+49 | .ar k=>(J-k)*60+48 | .a2 k=>(J-k)*60+47 | .go k=>(J-k)*60+46
 | .w0=>20 | .w1=>15 | .wc _=>15 | .ww=>14 | .w3=>12 | .w4=>10 | .w5=>5 | .w6=>4 | .fin=>0
def wW:Wk→Nat | .off=>0 | .take=>30 | .mx _ _ p=>30+wgh p | .d0=>20 | .d1=>19 | .d2=>18 | .d3=>10 | .d4=>9 | .d5=>8
def lW(x:MW):Wk→Nat | .mx _ _ p=>lam x p|_=>0
def lM(v:Nat):Mn→Nat | .w1=>2 | .wc o=>if o=v then 1 else 3|_=>0
def wgt(A:Par)(γ:WS):Nat:=13*(A.N-γ.c)+Sw A.J γ.ph wW+4*γ.m+3*γ.sm+wM A.J γ.mn
def lml(A:Par)(γ:WS):Nat:=Sw A.J γ.ph (lW γ.x)+lM γ.v γ.mn
def act:Wk→Nat | .take | .mx _ _ _=>1|_=>0
def Cb1(J N:Nat)(γ:WS):Prop:=γ.c+Sw J γ.ph act≤N+γ.st
def lazyW:Wk→Bool | .take | .mx _ _ _=>false|_=>true
def Cd(N:Nat)(γ:WS):Prop:=∀j,j<γ.st→lazyW (γ.ph j)=true→N≤γ.c
def Cb(J N:Nat)(γ:WS):Prop:=Cb1 J N γ∧Cd N γ
theorem act_le:∀(J:Nat) {ph:Nat→Wk} {st:Nat},(∀j,st≤j→ph j = .off)→Sw J ph act≤st
  | 0,_,_,_=>Nat.zero_le _
  | J+1,ph,st,h=>by
    unfold Sw
    simp only [sumTo]
    by_cases e:st≤J
    · have:=act_le J h
      unfold Sw at this
      rw [h J e];simpa [act]using this
    · have:sumTo J (fun a=>act (ph a))≤J:=by
        have:∀n,sumTo n (fun a=>act (ph a))≤n:=fun n=>by
          induction n with
          | zero=>exact Nat.le_refl _
          | succ n ih => simp only [sumTo];have:act (ph n)≤1:=by cases ph n<;>simp [act]
                         omega
        exact this J
      have:act (ph J)≤1:=by cases ph J<;>simp [act]
      omega
theorem Cb1.step{J N:Nat}{keep:Nat→Bool}{base i:Nat}{γ γ':WS}(O:Ok J N keep γ)(C:Cb1 J N γ)(h:Tr J N keep base γ i γ'):Cb1 J N γ':=by
 have la:=act_le J O.offs
 have wk:∀{j:Nat} (q:Wk),j<J→Sw J (upd γ.ph j q) act+act (γ.ph j)=Sw J γ.ph act+act q:=fun q hj=>A1s (ph:=γ.ph) hj q act
 unfold Cb1 at C⊢
 cases h with
 | @go k h=>
  have k1:=O.stk;rw [h]at k1
  obtain⟨hst,hk⟩:=k1 k rfl
  have hoff:γ.ph k = .off:=O.offs k oM
  have:=wk .take hk
  rw [hoff]at this
  simp only [act]at this
  dsimp only
  omega
 | @take j hj hp hc=>
  have:=wk (if keep γ.c then .take else .mx γ.c [] .l0) hj
  have e:act (if keep γ.c then .take else .mx γ.c [] .l0)=1:=by split<;>rfl
  rw [hp,e]at this
  simp only [act]at this
  dsimp only
  omega
 | @takeE j hj hp hc=>
  have:=wk .d0 hj
  rw [hp]at this
  simp only [act]at this
  dsimp only
  omega
 | @mx j i L p p' x' m' hj hp hms n1 n2 n3=>have:=wk (.mx i L p') hj;rw [hp]at this;simp only [act]at this;dsimp only;omega
 | @la j i L hj hp=>have:=wk (.mx i γ.L .u0) hj;rw [hp]at this;simp only [act]at this;dsimp only;omega
 | @ur j i L hj hp=>have:=wk (.mx i L .ud) hj;rw [hp]at this;simp only [act]at this;dsimp only;omega
 | @ue j i L hj hp=>have:=wk .take hj;rw [hp]at this;simp only [act]at this;dsimp only;omega
 | @d0 j hj hp=>have:=wk .d1 hj;rw [hp]at this;simp only [act]at this;dsimp only;omega
 | @d1 j hj hp=>have:=wk .d2 hj;rw [hp]at this;simp only [act]at this;dsimp only;omega
 | @d2 j v hj hp=>have:=wk .off hj;rw [hp]at this;simp only [act]at this;dsimp only;omega
 | @d2L j hj hp=>have:=wk .d3 hj;rw [hp]at this;simp only [act]at this;dsimp only;omega
 | @d3 j hj hp=>have:=wk .d4 hj;rw [hp]at this;simp only [act]at this;dsimp only;omega
 | @d4 j hj hp=>have:=wk .d5 hj;rw [hp]at this;simp only [act]at this;dsimp only;omega
 | @d5 j hj hp=>have:=wk .off hj;rw [hp]at this;simp only [act]at this;dsimp only;omega
 | _=>exact C
theorem Cd.step{J N:Nat}{keep:Nat→Bool}{base i:Nat}{γ γ':WS}(O:Ok J N keep γ)(C:Cd N γ)(h:Tr J N keep base γ i γ'):Cd N γ':=by
 have wk:∀{j:Nat} {q:Wk} {c:Nat},γ.ph j≠.off→(lazyW q=true→lazyW (γ.ph j)=true∨N≤c)→γ.c≤c→∀a,a<γ.st→lazyW (upd γ.ph j q a)=true→N≤c:=fun {j q c} hne hq hc a ha hl=>by
  by_cases e:a=j
  ·subst e
   rw [upd_same]at hl
   rcases hq hl with h|h
   ·exact Nat.le_trans (C a ha h) hc
   ·exact h
  ·rw [upd_ne _ _ e]at hl
   exact Nat.le_trans (C a ha hl) hc
 cases h with
 | @go k h=>
  have k1:=O.stk;rw [h]at k1
  obtain⟨hst,hk⟩:=k1 k rfl
  intro a ha hl
  simp only at ha hl⊢
  by_cases e:a=k
  ·subst e;rw [upd_same]at hl;cases hl
  ·rw [upd_ne _ _ e]at hl;exact C a oM hl
 | @take j hj hp hc=>exact wk (by rw [hp];simp) (fun e=>by split at e<;>cases e) (Nat.le_succ _)
 | @takeE j hj hp hc=>exact wk (by rw [hp];simp) (fun _=>.inr (Nat.le_succ_of_le hc)) (Nat.le_succ _)
 | @mx j i L p p' x' m' hj hp hms n1 n2 n3=>exact wk (by rw [hp];simp) (fun e=>by cases e) (Nat.le_refl _)
 | @la j i L hj hp=>exact wk (by rw [hp];simp) (fun e=>by cases e) (Nat.le_refl _)
 | @ur j i L hj hp=>exact wk (by rw [hp];simp) (fun e=>by cases e) (Nat.le_refl _)
 | @ue j i L hj hp=>exact wk (by rw [hp];simp) (fun e=>by cases e) (Nat.le_refl _)
 | @d0 j hj hp=>exact wk (by rw [hp];simp) (fun _=>.inl (by rw [hp];rfl)) (Nat.le_refl _)
 | @d1 j hj hp=>exact wk (by rw [hp];simp) (fun _=>.inl (by rw [hp];rfl)) (Nat.le_refl _)
 | @d2 j v hj hp=>exact wk (by rw [hp];simp) (fun _=>.inl (by rw [hp];rfl)) (Nat.le_refl _)
 | @d2L j hj hp=>exact wk (by rw [hp];simp) (fun _=>.inl (by rw [hp];rfl)) (Nat.le_refl _)
 | @d3 j hj hp=>exact wk (by rw [hp];simp) (fun _=>.inl (by rw [hp];rfl)) (Nat.le_refl _)
 | @d4 j hj hp=>exact wk (by rw [hp];simp) (fun _=>.inl (by rw [hp];rfl)) (Nat.le_refl _)
 | @d5 j hj hp=>exact wk (by rw [hp];simp) (fun _=>.inl (by rw [hp];rfl)) (Nat.le_refl _)
 | _=>exact C
theorem Cb.step{J N:Nat}{keep:Nat→Bool}{base i:Nat}{γ γ':WS}(O:Ok J N keep γ)(C:Cb J N γ)(h:Tr J N keep base γ i γ'):Cb J N γ':=⟨Cb1.step O C.1 h,Cd.step O C.2 h⟩
abbrev proto(A:Par)(base:Nat):Proto where
 G:=WS
 T:=Mn ⊕ Wk
 th:=thW A base
 ok:=fun γ=>Ok A.J A.N A.keep γ∧Cb A.J A.N γ
 size:=fun γ=>base+γ.st
 rank:=fun γ=>1000*wgt A γ+lml A γ
 sh:=shW A
 atb:=fun b=>b=A.Mu∨b=A.Wg∨b=A.Cn
 lock:=fun _=>⟨A.Mu,0,none⟩
 deaf:=fun | .inl m=>dfM m | .inr q=>dfW q
 rel:=fun | .inl _=>false | .inr q=>relW q
 acq:=fun | .inl .fin=>true|_=>false
 blocks:=blkW A base
 wakes:=fun | .inl _=>false | .inr q=>wakesW q
 fin:=⟨A.Wg,0,none⟩
 over:=fun γ=>γ.mn = .fin
 tr:=Tr A.J A.N A.keep base
section
variable{A:Par}{base:Nat}{γ γ':WS}
theorem B2t{f g:Nat→Nat}{c:Nat}:∀{n:Nat},(∀i,i<n→g i≤f i+c)→sumTo n g≤sumTo n f+c*n
 | 0,_=>by simp [sumTo]
 | n+1,h=>by
  have:=B2t (n:=n) fun i hi=>h i oM
  have:=h n oM
  simp only [sumTo,Nat.mul_add,Nat.mul_one];omega
theorem Sw_pos{J:Nat}{ph:Nat→Wk}{φ:Wk→Nat}(h:1≤Sw J ph φ):∃j,j<J∧1≤φ (ph j):=by
 apply Classical.byContradiction
 intro hno
 have h0:∀j,j<J→φ (ph j)=0:=fun j hj=>by
  apply Classical.byContradiction
  intro hne
  exact hno ⟨j,hj,oM⟩
 have:Sw J ph φ=sumTo J (fun _=>0):=sumTo_congr h0
 have z:∀n,sumTo n (fun _=>0)=0:=fun n=>by induction n with|zero=>rfl|succ n ih=>simp [sumTo,ih]
 rw [this,z]at h;omega
theorem lW_upd(hJ:A.J≤200){ph:Nat→Wk}{j:Nat}{q:Wk}{x x':MW}:Sw A.J (upd ph j q) (lW x')≤Sw A.J ph (lW x)+900:=by
 have h1:Sw A.J (upd ph j q) (lW x')≤Sw A.J (upd ph j q) (lW x)+4*A.J:=B2t fun i _=>by
  cases upd ph j q i<;>simp only [lW]<;>first|omega|exact lam_other _ _ _
 by_cases hj:j<A.J
 ·have h2:=A1s (ph:=ph) hj q (lW x)
  have h3:lW x q≤49:=by cases q<;>simp only [lW]<;>first|omega|exact lam_le _ _
  omega
 ·have:Sw A.J (upd ph j q) (lW x)=Sw A.J ph (lW x):=sumTo_congr fun i hi=>by rw [upd_ne _ _ oM]
  omega
theorem lM_le(v:Nat)(mn:Mn):lM v mn≤3:=by cases mn<;>simp only [lM]<;>(try split)<;>omega
theorem A9i{j:Nat}{q:Wk}(hph:γ'.ph=upd γ.ph j q∨(γ'.ph=γ.ph∧γ'.x=γ.x))(hw:wgt A γ'<wgt A γ):1000*wgt A γ'+lml A γ'<1000*wgt A γ+lml A γ:=by
 have h1:Sw A.J γ'.ph (lW γ'.x)≤Sw A.J γ.ph (lW γ.x)+900:=by
  rcases hph with h|⟨h,h'⟩
  ·rw [h];exact lW_upd A.J2
  ·rw [h,h'];omega
 have h2:=lM_le γ'.v γ'.mn
 unfold lml
 omega
theorem rank_step(O:Ok A.J A.N A.keep γ){i:Nat}(h:Tr A.J A.N A.keep base γ i γ'):1000*wgt A γ'+lml A γ'<1000*wgt A γ+lml A γ:=by
 have main:∀{mn:Mn} {v wt sm:Nat},wM A.J mn+3*sm<wM A.J γ.mn+3*γ.sm→1000*wgt A {γ with mn:=mn,v:=v,wt:=wt,sm:=sm }+lml A {γ with mn:=mn,v:=v,wt:=wt,sm:=sm }<1000*wgt A γ+lml A γ:=fun h=>
  A9i (j:=0) (q:=.off) (.inr ⟨rfl,rfl⟩) (by unfold wgt;dsimp only;omega)
 have work:∀{j:Nat} {q:Wk} {c:Nat} {x:MW} {m:Nat} {L:List Nat} {v wt sm:Nat},j<A.J→13*(A.N-c)+wW q+4*m+3*sm<13*(A.N-γ.c)+wW (γ.ph j)+4*γ.m+3*γ.sm→
   1000*wgt A {γ with ph:=upd γ.ph j q,c:=c,x:=x,m:=m,L:=L,v:=v,wt:=wt,sm:=sm }+lml A {γ with ph:=upd γ.ph j q,c:=c,x:=x,m:=m,L:=L,v:=v,wt:=wt,sm:=sm }<1000*wgt A γ+lml A γ:=fun {j q c x m L v wt sm} hj h=>
  A9i (j:=j) (q:=q) (.inl rfl) (by
   have:=A1s (ph:=γ.ph) hj q wW
   unfold wgt;dsimp only;omega)
 cases h with
 | a0 h=>exact main (mn:=.a1 _) (by rw [h];simp only [wM];omega)
 | @a1 k h=>exact main (by rw [h];split<;>simp only [wM]<;>omega)
 | ar h=>exact main (mn:=.a2 _) (by rw [h];simp only [wM];omega)
 | a2 h=>exact main (mn:=.go _) (by rw [h];simp only [wM];omega)
 | @go k h=>
  have k1:=O.stk;rw [h]at k1
  obtain⟨hst,hk⟩:=k1 k rfl
  have hoff:γ.ph k = .off:=O.offs k oM
  refine A9i (j:=k) (q:=.take) (.inl Z) ?_
  have:=A1s (ph:=γ.ph) hk .take wW
  rw [hoff]at this
  simp only [wW]at this
  unfold wgt
  rw [h]
  dsimp only
  split<;>simp only [wM]<;>omega
 | w0 h=>exact main (mn:=.w1) (by rw [h];simp only [wM];omega)
 | w1Z h=>exact main (mn:=.w5) (by rw [h];simp only [wM];omega)
 | w1 h=>unfold wgt lml;rw [h];simp only [wM,lM,if_true];omega
 | wcY h=>exact main (mn:=.ww) (by rw [h];simp only [wM];omega)
 | @wcN o h hv=>unfold wgt lml;rw [h];simp only [wM,lM];rw [if_neg (Ne.symm hv)];omega
 | ww h=>exact main (mn:=.w3) (by rw [h];simp only [wM];omega)
 | @w3 s h hs=>exact main (mn:=.w4) (by rw [h,hs];simp only [wM];omega)
 | w4 h=>exact main (mn:=.w5) (by rw [h];simp only [wM];omega)
 | w5 h=>exact main (mn:=.w6) (by rw [h];simp only [wM];omega)
 | w6 h=>exact main (mn:=.fin) (by rw [h];simp only [wM];omega)
 | @take j hj hp hc=>exact work hj (by rw [hp];split<;>simp only [wW,wgh]<;>omega)
 | @takeE j hj hp hc=>exact work hj (by rw [hp];simp only [wW];omega)
 | @mx j i L p p' x' m' hj hp hms n1 n2 n3=>
  have hloc:=O.mi.lo j hj
  simp only [hp,mp]at hloc
  rcases step_lower hloc hms with ⟨rfl,rfl,h3,h4⟩|h
  ·unfold wgt lml
   have e1:=A1s (ph:=γ.ph) hj (.mx i L p') wW
   have e2:=A1s (ph:=γ.ph) hj (.mx i L p') (lW γ.x)
   rw [hp]at e1 e2
   simp only [wW,lW]at e1 e2
   dsimp only
   omega
  ·exact work hj (by rw [hp];simp only [wW];omega)
 | @la j i L hj hp=>
  unfold wgt lml
  have e1:=A1s (ph:=γ.ph) hj (.mx i γ.L .u0) wW
  have e2:=A1s (ph:=γ.ph) hj (.mx i γ.L .u0) (lW γ.x)
  rw [hp]at e1 e2
  simp only [wW,lW,wgh,lam]at e1 e2
  dsimp only
  omega
 | @ur j i L hj hp=>
  unfold wgt lml
  have e1:=A1s (ph:=γ.ph) hj (.mx i L .ud) wW
  have e2:=A1s (ph:=γ.ph) hj (.mx i L .ud) (lW γ.x)
  rw [hp]at e1 e2
  simp only [wW,lW,wgh,lam]at e1 e2
  dsimp only
  omega
 | @ue j i L hj hp=>exact work hj (by rw [hp];simp only [wW,wgh];omega)
 | @d0 j hj hp=>exact work hj (by rw [hp];simp only [wW];omega)
 | @d1 j hj hp=>exact work hj (by rw [hp];simp only [wW];omega)
 | @d2 j v hj hp=>exact work hj (by rw [hp];simp only [wW];omega)
 | @d2L j hj hp=>exact work hj (by rw [hp];simp only [wW];omega)
 | @d3 j hj hp=>exact work hj (by rw [hp];simp only [wW];omega)
 | @d4 j hj hp=>exact work hj (by rw [hp];simp only [wW];omega)
 | @d5 j hj hp=>exact work hj (by rw [hp];simp only [wW];omega)
theorem A4f:thW A base γ 0=some (.inl γ.mn):=by simp [thW]
theorem A7j(hb:0<base){j:Nat}(hj:j<A.J){q:Wk}(hq:γ.ph j=q)(hne:q≠.off):thW A base γ (base+j)=some (.inr q):=by
 unfold thW
 rw [if_neg oM,if_pos ⟨oM,oM⟩,show base+j-base=j by omega,hq]
 cases q<;>first|rfl|exact absurd rfl hne
theorem th_off(hb:0<base){j:Nat}(hq:γ.ph j = .off):thW A base γ (base+j)=none:=by
 unfold thW
 rw [if_neg oM]
 split
 ·rw [show base+j-base=j by omega,hq]
 ·rfl
theorem B2r{i:Nat}{τ:Mn ⊕ Wk}(h:thW A base γ i=some τ):(i=0∧τ = .inl γ.mn)∨∃j,i=base+j∧j<A.J∧γ.ph j≠.off∧τ = .inr (γ.ph j):=by
 unfold thW at h
 split at h
 ·cases h;exact .inl ⟨by assumption,rfl⟩
 ·split at h
  ·rename_i h1
   refine .inr ⟨i-base,oM,oM,?_⟩
   split at h
   ·cases h
   ·rename_i hne
    cases h
    exact⟨hne,Z⟩
  ·cases h
theorem th_congr{i:Nat}(h0:i≠0)(h:∀j,i=base+j→γ'.ph j=γ.ph j):thW A base γ' i=thW A base γ i:=by
 unfold thW
 rw [if_neg h0,if_neg h0]
 split
 ·rw [h (i-base) oM]
 ·rfl
theorem allOff(O:Ok A.J A.N A.keep γ)(h:isP γ.mn=true):∀j,γ.ph j = .off:=by
 have hv:=O.post h
 have hq:isQ γ.mn=false:=by cases hm:γ.mn<;>rw [hm]at h<;>first|rfl|cases h
 obtain⟨_,h34,h5⟩:=O.wn hq
 have hc:=O.cnt
 intro j
 by_cases hj:j<A.J
 ·have e1:=le_Sw (ph:=γ.ph) hj A6s
  have e2:=le_Sw (ph:=γ.ph) hj d34
  have e3:=le_Sw (ph:=γ.ph) hj d5c
  cases hp:γ.ph j<;>rw [hp]at e1 e2 e3<;>simp only [A6s,d34,d5c]at e1 e2 e3<;>first|rfl|omega
 ·exact O.offs j (by have:=O.stJ;omega)
theorem tr_ph{i:Nat}(h:Tr A.J A.N A.keep base γ i γ'):(∃k,γ.mn = .go k∧i=0∧γ'.ph=upd γ.ph k .take∧γ'.st=k+1∧γ'.m=γ.m∧γ'.sm=γ.sm∧(γ'.mn = .a0 (k+1)∨γ'.mn = .w0))∨(i=0∧γ'.ph=γ.ph∧γ'.st=γ.st∧γ'.m=γ.m∧γ'.sm≤γ.sm)∨
  (∃j q,j<A.J∧i=base+j∧γ'.ph=upd γ.ph j q∧γ'.st=γ.st∧γ'.mn=γ.mn∧γ.ph j≠.off∧(γ.sm<γ'.sm→γ.ph j = .d5)∧(γ.m<γ'.m→∃i' L st,γ.ph j = .mx i' L (.us st))):=by
 cases h with
 | @go k h=>exact .inl ⟨k,h,rfl,rfl,rfl,rfl,rfl,by dsimp only;split<;>simp⟩
 | @take j hj hp _=>exact .inr (.inr ⟨j,_,hj,rfl,rfl,rfl,rfl,by rw [hp];simp,fun h=>absurd h (Nat.lt_irrefl _),fun h=>absurd h (Nat.lt_irrefl _)⟩)
 | @takeE j hj hp _=>exact .inr (.inr ⟨j,_,hj,rfl,rfl,rfl,rfl,by rw [hp];simp,fun h=>absurd h (Nat.lt_irrefl _),fun h=>absurd h (Nat.lt_irrefl _)⟩)
 | @mx j i L p p' x' m' hj hp hms=>exact .inr (.inr ⟨j,_,hj,rfl,rfl,rfl,rfl,by rw [hp];simp,fun h=>absurd h (Nat.lt_irrefl _),fun h=>by obtain⟨st,rfl⟩:=ms_raise hms h;exact⟨i,L,st,hp⟩⟩)
 | @la j i L hj hp=>exact .inr (.inr ⟨j,_,hj,rfl,rfl,rfl,rfl,by rw [hp];simp,fun h=>absurd h (Nat.lt_irrefl _),fun h=>absurd h (Nat.lt_irrefl _)⟩)
 | @ur j i L hj hp=>exact .inr (.inr ⟨j,_,hj,rfl,rfl,rfl,rfl,by rw [hp];simp,fun h=>absurd h (Nat.lt_irrefl _),fun h=>absurd h (Nat.lt_irrefl _)⟩)
 | @ue j i L hj hp=>exact .inr (.inr ⟨j,_,hj,rfl,rfl,rfl,rfl,by rw [hp];simp,fun h=>absurd h (Nat.lt_irrefl _),fun h=>absurd h (Nat.lt_irrefl _)⟩)
 | @d0 j hj hp=>exact .inr (.inr ⟨j,_,hj,rfl,rfl,rfl,rfl,by rw [hp];simp,fun h=>absurd h (Nat.lt_irrefl _),fun h=>absurd h (Nat.lt_irrefl _)⟩)
 | @d1 j hj hp=>exact .inr (.inr ⟨j,_,hj,rfl,rfl,rfl,rfl,by rw [hp];simp,fun h=>absurd h (Nat.lt_irrefl _),fun h=>absurd h (Nat.lt_irrefl _)⟩)
 | @d2 j v hj hp=>exact .inr (.inr ⟨j,_,hj,rfl,rfl,rfl,rfl,by rw [hp];simp,fun h=>absurd h (Nat.lt_irrefl _),fun h=>absurd h (Nat.lt_irrefl _)⟩)
 | @d2L j hj hp=>exact .inr (.inr ⟨j,_,hj,rfl,rfl,rfl,rfl,by rw [hp];simp,fun h=>absurd h (Nat.lt_irrefl _),fun h=>absurd h (Nat.lt_irrefl _)⟩)
 | @d3 j hj hp=>exact .inr (.inr ⟨j,_,hj,rfl,rfl,rfl,rfl,by rw [hp];simp,fun h=>absurd h (Nat.lt_irrefl _),fun h=>absurd h (Nat.lt_irrefl _)⟩)
 | @d4 j hj hp=>exact .inr (.inr ⟨j,_,hj,rfl,rfl,rfl,rfl,by rw [hp];simp,fun h=>absurd h (Nat.lt_irrefl _),fun h=>absurd h (Nat.lt_irrefl _)⟩)
 | @d5 j hj hp=>exact .inr (.inr ⟨j,_,hj,rfl,rfl,rfl,rfl,by rw [hp];simp,fun _=>hp,fun h=>absurd h (Nat.lt_irrefl _)⟩)
 | @w3 s h hs=>exact .inr (.inl ⟨rfl,rfl,rfl,rfl,by dsimp only;omega⟩)
 | _=>exact .inr (.inl ⟨rfl,rfl,rfl,rfl,Nat.le_refl _⟩)
theorem laws(A:Par)(base:Nat)(hb:0<base):Laws (proto A base) base where
  ok:=fun O h=>⟨Ok.step O.1 h,O.2.step O.1 h⟩
  rank:=fun O h=>rank_step O.1 h
  oth:=fun {γ i γ'} O h j hji hjs=>by
    have O:=O.1
    show thW A base γ' j=thW A base γ j
    by_cases h0:j=0
    · subst h0
      rcases tr_ph h with ⟨k,hk,rfl,_⟩|⟨rfl,_⟩|⟨j',q,_,_,_,_,h5,_⟩
      · exact absurd Z hji
      · exact absurd Z hji
      · rw [A4f,A4f,h5]
    · refine th_congr h0 fun a ha=>?_
      rcases tr_ph h with ⟨k,hk,rfl,h2,_⟩|⟨rfl,h2,_⟩|⟨j',q,_,h2,h3,_⟩
      · rw [h2,upd_ne]
        intro e
        subst e
        have hst:=(O.stk a (by rw [hk];rfl)).1
        apply hjs
        show j=base+γ.st
        omega
      · rw [h2]
      · rw [h3,upd_ne]
        intro e
        apply hji
        rw [ha,h2,e]
  lt:=fun {γ j τ} O h=>by
    have O:=O.1
    rcases B2r h with ⟨rfl,_⟩|⟨a,rfl,h2,h3,_⟩
    · exact .inl Z
    · refine .inr ⟨oM,?_⟩
      show base+a<base+γ.st
      have:a<γ.st:=Classical.byContradiction fun hn=>h3 (O.offs a oM)
      omega
  baseLe:=fun {γ} _=>Nat.le_add_right base γ.st
  live:=fun {γ} O=>by
    have O:=O.1
    by_cases hw:γ.mn = .w3∧γ.sm=0
    · obtain⟨hm,hs⟩:=hw
      have find:∀j,j<A.J→γ.ph j≠.off→(∀i L sv,γ.ph j = .mx i L (.wait sv)→γ.m≠0)→∃i τ,thW A base γ i=some τ∧¬blkW A base γ i:=fun j hj hne hnb=>by
        refine⟨base+j,_,A7j hb hj Z hne,?_⟩
        rintro(⟨h,_⟩|⟨j',h1,_,⟨i,L,sv,h2⟩,h3⟩)
        · omega
        · obtain rfl:j=j':=oM
          exact hnb i L sv h2 h3
      have hq:isQ γ.mn=true:=by rw [hm];rfl
      have cases':=O.wq hq
      rcases cases' with ⟨_,_,h3,_⟩|⟨_,_,_,h4⟩
      · by_cases hv:γ.v=0
        · obtain⟨j,hj,h⟩:=Sw_pos (ph:=γ.ph) (φ:=d34) (J:=A.J) (by have:=h3 hv;omega)
          refine find j hj (fun e=>by rw [e]at h;simp [d34]at h) fun i L sv e=>by rw [e]at h;simp [d34]at h
        · have hc:=O.cnt
          rw [hm]at hc
          simp only [pend]at hc
          obtain⟨j,hj,h⟩:=Sw_pos (ph:=γ.ph) (φ:=A6s) (J:=A.J) oM
          by_cases hmx:∃i L p,γ.ph j = .mx i L p
          · obtain⟨i,L,p,hp⟩:=hmx
            have hne:=(O.idx j i L p hp).2.2
            obtain⟨j',hj',h1,h2⟩:=Mu.live O.mi hj (by simp only [hp,mp];exact hne)
            refine find j' hj' (fun e=>by simp only [e,mp]at h1;exact h1 Z) fun i L sv e hm0=>h2 ⟨⟨sv,by simp only [e,mp]⟩,hm0⟩
          · exact find j hj (fun e=>by rw [e]at h;simp [A6s]at h) fun i L sv e=>absurd ⟨i,L,_,e⟩ hmx
      · obtain⟨j,hj,h⟩:=Sw_pos (ph:=γ.ph) (φ:=d5c) (J:=A.J) oM
        refine find j hj (fun e=>by rw [e]at h;simp [d5c]at h) fun i L sv e=>by rw [e]at h;simp [d5c]at h
    · refine⟨0,_,A4f (A:=A) (base:=base),?_⟩
      rintro(⟨_,h⟩|⟨j,h,_⟩)
      · exact hw h
      · omega
  wake:=fun {γ i γ' τ j} O hth h hji hbl hnb=>by
    have O:=O.1
    have hbl:blkW A base γ j:=hbl
    have hnb:¬blkW A base γ' j:=hnb
    rcases tr_ph h with ⟨k,hk,rfl,h2,_,h4,h5,h6⟩|⟨rfl,h2,h3,h4,h5⟩|⟨a,q,ha,rfl,h3,h4,h5,h6,h7,h8⟩
    · exfalso
      rcases hbl with ⟨rfl,_⟩|⟨b,rfl,hb1,⟨i',L,sv,hb2⟩,hb3⟩
      · exact hji Z
      · refine hnb (.inr ⟨b,Z,hb1,⟨i',L,sv,?_⟩,by rw [h4];exact hb3⟩)
        rw [h2,upd_ne _ _ (fun e=>by
          subst e
          have:=O.offs b (by have:=(O.stk b (by rw [hk];rfl)).1;omega)
          rw [this]at hb2;cases hb2)]
        exact hb2
    · exfalso
      rcases hbl with ⟨rfl,_⟩|⟨b,rfl,hb1,⟨i',L,sv,hb2⟩,hb3⟩
      · exact hji Z
      · exact hnb (.inr ⟨b,Z,hb1,⟨i',L,sv,by rw [h2];exact hb2⟩,by rw [h4];exact hb3⟩)
    · have hτ:=hth
      rw [show(proto A base).th γ (base+a)=thW A base γ (base+a)from Z,A7j hb ha Z h6]at hτ
      cases hτ
      show wakesW (γ.ph a)=true
      rcases hbl with ⟨rfl,hb1,hb2⟩|⟨b,rfl,hb1,⟨i',L,sv,hb2⟩,hb3⟩
      · have:γ.sm<γ'.sm:=Classical.byContradiction fun hn=>hnb (.inl ⟨Z,by rw [h5];exact hb1,oM⟩)
        rw [h7 this];rfl
      · have hba:b≠a:=fun e=>hji (by rw [e])
        have:γ.m<γ'.m:=Classical.byContradiction fun hn=>hnb (.inr ⟨b,Z,hb1,⟨i',L,sv,by rw [h3,upd_ne _ _ hba];exact hb2⟩,oM⟩)
        obtain⟨i2,L2,st,h9⟩:=h8 this
        rw [h9];rfl
  acq0:=fun {γ σ i τ} O hσ ha hτ=>by
    have O:=O.1
    rw [show(proto A base).th γ 0=thW A base γ 0 from Z,A4f]at hσ
    cases hσ
    have hm:γ.mn = .fin:=by
      revert ha
      show(match (Sum.inl γ.mn:Mn ⊕ Wk)with | .inl .fin=>true|_=>false)=true→_
      cases γ.mn<;>simp
    have hoff:=allOff O (by rw [hm];rfl)
    rcases B2r hτ with ⟨h,_⟩|⟨j,_,_,h,_⟩
    · exact .inl h
    · exact absurd (hoff j) h
  acqT:=fun {γ γ' τ σ} O h hτ hσ ha=>by
    have O:=O.1
    rw [show(proto A base).th γ' 0=thW A base γ' 0 from Z,A4f]at hσ
    cases hσ
    have hm:γ'.mn = .fin:=by
      revert ha
      show(match (Sum.inl γ'.mn:Mn ⊕ Wk)with | .inl .fin=>true|_=>false)=true→_
      cases γ'.mn<;>simp
    have h6:isP γ.mn=true:=by
      generalize h0:(0:Nat)=z at h
      cases h<;>first
        | (simp only at hm;cases hm;done)
        | (simp only at hm;split at hm<;>cases hm;done)
        | (rename_i h;rw [h];rfl)
        | (exfalso;omega)
    have hoff:=allOff O h6
    refine .inr fun j h1 h2 ρ hρ=>?_
    rcases B2r hρ with ⟨h,_⟩|⟨a,_,_,h,_⟩
    · omega
    · exact absurd (hoff a) h
  main:=fun {γ} _=>⟨_,A4f (A:=A) (base:=base),rfl⟩
  over:=fun {γ} O h=>by
    have O:=O.1
    have hm:γ.mn = .fin:=h
    have hoff:=allOff O (by rw [hm];rfl)
    refine⟨fun j hj=>?_,fun τ hτ=>?_⟩
    · cases e:thW A base γ j with
      | none=>exact e
      | some ρ=>
        rcases B2r e with ⟨h,_⟩|⟨a,_,_,h,_⟩
        · exact absurd h hj
        · exact absurd (hoff a) h
    · rw [show(proto A base).th γ 0=thW A base γ 0 from Z,A4f]at hτ
      cases hτ
      rw [hm]
      exact⟨Z,Z⟩
  atbS:=fun {γ b} _ h=>by
    show shW A γ b≠none
    unfold shW
    rcases h with rfl|rfl|rfl
    · simp
    · split<;>simp
    · split
      · simp
      · split<;>simp
theorem wake0{A:Par}{base:Nat}{γ γ':WS}(O:Ok A.J A.N A.keep γ)(h:Tr A.J A.N A.keep base γ 0 γ')(hs:base+γ'.st=base+γ.st+1)(j:Nat)(hj:j≠0)(hbl:blkW A base γ j):blkW A base γ' j:=by
 rcases hbl with ⟨h0,_⟩|⟨b,rfl,hb1,⟨i',L,sv,hb2⟩,hb3⟩
 ·exact absurd h0 hj
 ·rcases tr_ph h with ⟨k,hk,_,h2,_,h4,h5,h6⟩|⟨_,h2,h3,h4,h5⟩|⟨a,q,ha,h0,h3,h4,_⟩
  ·refine .inr ⟨b,Z,hb1,⟨i',L,sv,?_⟩,by rw [h4];exact hb3⟩
   rw [h2,upd_ne _ _ (fun e=>by
    subst e
    have:=O.offs b (by have:=(O.stk b (by rw [hk];rfl)).1;omega)
    rw [this]at hb2;cases hb2)]
   exact hb2
  ·exact .inr ⟨b,Z,hb1,⟨i',L,sv,by rw [h2];exact hb2⟩,by rw [h4];exact hb3⟩
  ·omega
def start:WS:={mn:=.a0 0,st:=0,ph:=fun _=>.off,c:=0,x:=.zero,m:=0,L:=[],v:=0,wt:=0,sm:=0 }
theorem start_cb(A:Par):Cb A.J A.N start:=by
 have:=act_le A.J (ph:=start.ph) (st:=0) (fun _ _=>rfl)
 refine⟨?_,fun j hj=>absurd hj (Nat.not_lt_zero _)⟩
 show 0+Sw A.J start.ph act≤A.N+0
 omega
theorem start_ok(A:Par):Ok A.J A.N A.keep start:=by
 have z:∀φ:Wk→Nat,φ .off=0→Sw A.J (fun _=>.off) φ=0:=fun φ h=>by
  have:∀n,Sw n (fun _=>.off) φ=0:=fun n=>by
   induction n with
   | zero=>rfl
   | succ n ih=>unfold Sw at *;rw [sumTo,ih,h]
  exact this _
 have zm:∀φ:Mp→Nat,φ .out=0→S A.J (fun _=>mp .off) φ=0:=fun φ h=>S_zero fun _ _=>h
 refine⟨fun k h=>?_,fun h=>(by cases h),fun _ _=>rfl,⟨?_,fun _=>?_,fun h=>(by cases h),fun _ _ h=>?_,fun _ _=>trivial⟩,?_,fun h=>(by cases h),fun _=>⟨rfl,z _ rfl,?_⟩,fun h=>(by cases h),fun o h=>(by cases h),fun j i L p h=>(by cases h),fun j i L p h=>(by cases h),fun i h=>?_,fun i h=>(by cases h)⟩
 ·cases h;exact⟨rfl,A.J1⟩
 ·show _=S A.J (fun _=>mp .off) hold;rw [zm hold rfl];rfl
 ·refine⟨?_,zm hn Z,zm uss Z,?_⟩
  ·show S A.J (fun _=>mp .off) Mu.wt=0+0+S A.J (fun _=>mp .off) usn;rw [zm Mu.wt Z,zm usn rfl]
  ·show _=0+S A.J (fun _=>mp .off) usn+S A.J (fun _=>mp .off) gt+S A.J (fun _=>mp .off) ak;rw [zm usn Z,zm gt Z,zm ak rfl];rfl
 ·simp [start,MW.zero]at h
 ·show 0=Sw A.J (fun _=>.off) A6s+0;rw [z A6s rfl]
 ·show Sw A.J (fun _=>.off) d5c+0=0;rw [z d5c rfl]
 ·exact absurd h (Nat.not_lt_zero _)
end
end Go.Pal.Mu
end
