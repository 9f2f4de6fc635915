/- Part 29. -/
import Derived.Test.YtclejblcnfaeaaaGreatDoorPbb
set_option linter.all false
section
namespace Go.Pal.To
def hasN(s n:Nat):Bool:=s / 2 ^ n % 2==1
def cntN(s:Nat):Nat:=(List.range 8).countP (hasN s)
def pL(s na i:Nat):List Int:=((List.range i).filter fun n=>hasN s n&&decide (n<na)).map fun n:Nat=>(n:Int)
def qL(s na i:Nat):List Int:=((List.range i).filter fun n=>hasN s n && !decide (n<na)).map fun n:Nat=>(n:Int)-na
theorem pL_succ(s na i:Nat):pL s na (i+1)=if hasN s i=true∧i<na then pL s na i++[(i:Int)]else pL s na i:=by
 unfold pL
 rw [List.range_succ,List.filter_append,List.map_append]
 by_cases h:hasN s i=true∧i<na
 ·rw [if_pos h];simp [h.1,h.2]
 ·rw [if_neg h]
  have:(hasN s i&&decide (i<na))=false:=by
   cases h1:hasN s i with
   | false=>rfl
   | true=>simp only [Bool.true_and,decide_eq_false_iff_not];exact fun h2=>h ⟨h1,h2⟩
  simp [this]
theorem qL_succ(s na i:Nat):qL s na (i+1)=if hasN s i=true∧¬i<na then qL s na i++[(i:Int)-na]else qL s na i:=by
 unfold qL
 rw [List.range_succ,List.filter_append,List.map_append]
 by_cases h:hasN s i=true∧¬i<na
 ·rw [if_pos h];simp [h.1,h.2]
 ·rw [if_neg h]
  have:(hasN s i && !decide (i<na))=false:=by
   cases h1:hasN s i with
   | false=>rfl
   | true=>
    simp only [Bool.true_and,Bool.not_eq_false',decide_eq_true_eq]
    exact Classical.byContradiction fun h2=>h ⟨h1,h2⟩
  simp [this]
theorem pL_len(s na i:Nat):(pL s na i).length≤i:=by
 unfold pL
 rw [List.length_map]
 exact Nat.le_trans (List.length_filter_le _ _) sM
theorem qL_len(s na i:Nat):(qL s na i).length≤i:=by
 unfold qL
 rw [List.length_map]
 exact Nat.le_trans (List.length_filter_le _ _) sM
def inL(l:List Int)(n:Int):Bool:=l.any fun x=>n==x
def A2i(i:Nat)(l:List MA)(out:List Int):List MA:=match l with
 | []=>[]
 | x::r=>if inL out i then A2i (i+1) r out else x::A2i (i+1) r out
def A3b(l:List MA)(out:List Int):List MA:=A2i 0 l out
theorem A8p:∀{l:List MA} {i:Nat} {out:List Int} {x:MA},A2i i (l++[x]) out=A2i i l out++(if inL out ((i+l.length:Nat):Int)then []else [x])
 | [],i,out,x=>by
  show A2i i [x] out=_
  unfold A2i
  simp only [A2i,List.length_nil,Nat.add_zero,List.nil_append]
 | y::l,i,out,x=>by
  show A2i i (y::(l++[x])) out=_
  unfold A2i
  rw [A8p (l:=l) (i:=i+1)]
  have e:i+1+l.length=i+(y::l).length:=by simp only [List.length_cons];omega
  rw [e]
  by_cases h:inL out (i:Int)=true
  ·simp [h]
  ·simp [h]
theorem A5h:∀{l:List MA} {i:Nat} {out:List Int},(A2i i l out).length≤l.length
 | [],_,_=>Nat.le_refl _
 | x::l,i,out=>by
  have:=A5h (l:=l) (i:=i+1) (out:=out)
  unfold A2i
  split
  ·simp only [List.length_cons];omega
  ·simp only [List.length_cons];omega
theorem A5g:∀{l:List MA} {i:Nat} {out:List Int} {x:MA},x∈A2i i l out→x∈l
 | [],_,_,_,h=>h
 | y::l,i,out,x,h=>by
  unfold A2i at h
  split at h
  ·exact List.mem_cons_of_mem _ (A5g h)
  ·rcases List.mem_cons.1 h with rfl|h
   ·exact List.mem_cons_self ..
   ·exact List.mem_cons_of_mem _ (A5g h)
def cmS(na nb s t:Nat):Int:=
 if(cntN s:Int)-cntN t≠0 then(cntN s:Int)-cntN t
 else if lexZ (pL s na (na+nb)) (pL t na (na+nb))≠0 then lexZ (pL s na (na+nb)) (pL t na (na+nb))
 else lexZ (qL s na (na+nb)) (qL t na (na+nb))
theorem lexZ_neg(l m:List Int):lexZ l m<0↔ltL l m=true:=by
 have:=lexZ_lt l m
 rw [←this]
 exact decide_eq_true_iff.symm
theorem lexZ_zero:∀{l m:List Int},lexZ l m=0↔l=m
 | [],[]=>by simp [lexZ]
 | [],_::_=>by simp [lexZ]
 | _::_,[]=>by simp [lexZ]
 | x::l,y::m=>by
  unfold lexZ
  by_cases h1:x<y
  ·rw [if_pos h1];simp;intro e;omega
  ·rw [if_neg h1]
   by_cases h2:y<x
   ·rw [if_pos h2];simp;intro e;omega
   ·rw [if_neg h2,lexZ_zero (l:=l) (m:=m)]
    have:x=y:=oM
    subst this
    simp
def A5c(c:Nat)(p q:List Int)(c':Nat)(p' q':List Int):Prop:=c<c'∨(c=c'∧(ltL p p'=true∨(p=p'∧ltL q q'=true)))
theorem cmS_lt{na nb s t:Nat}:cmS na nb s t<0↔A5c (cntN s) (pL s na (na+nb)) (qL s na (na+nb)) (cntN t) (pL t na (na+nb)) (qL t na (na+nb)):=by
 unfold cmS A5c
 by_cases h1:(cntN s:Int)-cntN t=0
 ·rw [if_neg (by simpa using h1)]
  have e:cntN s=cntN t:=oM
  by_cases h2:lexZ (pL s na (na+nb)) (pL t na (na+nb))=0
  ·rw [if_neg (by simpa using h2),lexZ_neg]
   have e2:=lexZ_zero.1 h2
   rw [e,e2,A7k]
   simp
  ·rw [if_pos h2,lexZ_neg]
   have e2:¬pL s na (na+nb)=pL t na (na+nb):=fun x=>h2 (lexZ_zero.2 x)
   rw [e]
   simp [e2]
 ·rw [if_pos h1]
  omega
theorem B0k{c:Nat}{p q:List Int}:¬A5c c p q c p q:=by
 unfold A5c
 rw [A7k,A7k]
 simp
theorem B1v{c c' c'':Nat}{p q p' q' p'' q'':List Int}(h:A5c c p q c' p' q')(k:A5c c' p' q' c'' p'' q''):A5c c p q c'' p'' q'':=by
 unfold A5c at *
 rcases h with h|⟨rfl,h⟩
 ·rcases k with k|⟨rfl,_⟩
  ·left;omega
  ·left;exact h
 ·rcases k with k|⟨rfl,k⟩
  ·left;exact k
  ·right
   refine⟨Y,?_⟩
   rcases h with h|⟨rfl,h⟩
   ·rcases k with k|⟨rfl,_⟩
    ·exact .inl (A6y h k)
    ·exact .inl h
   ·rcases k with k|⟨rfl,k⟩
    ·exact .inl k
    ·exact .inr ⟨Y,A6y h k⟩
theorem keyLt_total{c c':Nat}{p q p' q':List Int}(h:¬(c=c'∧p=p'∧q=q')):A5c c p q c' p' q'∨A5c c' p' q' c p q:=by
 unfold A5c
 by_cases h1:c=c'
 ·subst h1
  by_cases h2:p=p'
  ·subst h2
   have h3:q≠q':=fun e=>h ⟨Y,Y,e⟩
   rcases A8n h3 with k|k
   ·exact .inl (.inr ⟨Y,.inr ⟨Y,k⟩⟩)
   ·exact .inr (.inr ⟨Y,.inr ⟨Y,k⟩⟩)
  ·rcases A8n h2 with k|k
   ·exact .inl (.inr ⟨Y,.inl k⟩)
   ·exact .inr (.inr ⟨Y,.inl k⟩)
 ·rcases Nat.lt_or_gt_of_ne h1 with k|k
  ·exact .inl (.inl k)
  ·exact .inr (.inl k)
theorem keyLt_ntrans{c c' c'':Nat}{p q p' q' p'' q'':List Int}(h:¬A5c c p q c' p' q')(k:¬A5c c' p' q' c'' p'' q''):¬A5c c p q c'' p'' q'':=by
 intro hh
 by_cases e:c=c'∧p=p'∧q=q'
 ·obtain⟨rfl,rfl,rfl⟩:=e;exact k hh
 ·rcases keyLt_total e with h1|h1
  ·exact h h1
  ·exact k (B1v h1 hh)
end Go.Pal.To
end
section
namespace Go.Proofs.YtclejblcnfaeaaaGreatDoor
open Go Go.Pal Go.Pal.To Go.Conc View
open Go.Proofs.Tryz
set_option maxHeartbeats 4000000
set_option maxRecDepth 20000
abbrev u8V(s:Nat):Value:=.int .u8 s
section
variable{mn:Who}{v:View}
noncomputable def popS:ByteArray:=match f138.body with
 | some (.seq _ (.seq (.region _ ops _) _))=>match ops[1]? with
  | some o=>match o.op with
   | .index _ (.const (.string s)) _=>s
   | _=>.empty
  | _=>.empty
 | _=>.empty
theorem pop_tab:(List.range 256).all (fun x=>(popS[x]?).map (·.toNat)==some (cntN x)&&decide (cntN x≤8))=true:=by decide +kernel
theorem cnt8{s:Nat}(h:s<256):cntN s≤8:=by
 have hp:=List.all_eq_true.1 pop_tab _ (List.mem_range.2 h)
 rw [Bool.and_eq_true]at hp
 exact of_decide_eq_true hp.2
theorem pop_x{s:Nat}(h:s<256):Ret1 prog mn 138 [u8V s] (natV (cntN s)) v:=by
 have hp:=List.all_eq_true.1 pop_tab _ (List.mem_range.2 h)
 rw [Bool.and_eq_true]at hp
 obtain⟨b,hb,hc⟩:=Option.map_eq_some_iff.1 (eq_of_beq hp.1)
 have h8:cntN s≤8:=of_decide_eq_true hp.2
 refine A0d tab func138 Y nB (args:=[_]) ?_
 refine su ?_
 refine Q_op fun ho=>A_byte tab ho Y Y Y Y Y Y (s:=popS) hb ?_
 clear ho
 refine su ?_
 rw [show IntKind.i64.wrap ((b.toNat:Nat):Int)=((cntN s:Nat):Int)from by rw [hc];exact A2d oM oM]
 refine A0f tab [] (by exact .tmp rfl .nil) (Back.here cntL) ?_
 exact⟨Y,Y⟩
theorem cnt_x{s:Nat}(h:s<256):Ret1 prog mn 97 [u8V s] (natV (cntN s)) v:=by
 refine A0d tab func97 Y nB (args:=[_]) ?_
 refine su ?_
 refine Q_op fun ho=>A0u ho bod138 Y Y Y Y Y (pop_x h) ?_
 clear ho
 refine su ?_
 refine A0f tab [] (by exact .tmp rfl .nil) (Back.here cntL) ?_
 exact⟨Y,Y⟩
theorem has_tab:(List.range 256).all (fun x=>(List.range 8).all fun n=>(IntKind.u8.wrap ((BitVec.ofInt IntKind.u8.bits ((x:Int).fdiv (2 ^ min ((n:Int)).toNat IntKind.u8.bits)) &&& BitVec.ofInt IntKind.u8.bits 1).toNat:Int)==1)==hasN x n)=true:=by decide +kernel
theorem has_x{s n:Nat}(h:s<256)(hn:n<8):Ret1 prog mn 140 [u8V s,natV n] (.bool (hasN s n)) v:=by
 have hp:=List.all_eq_true.1 (List.all_eq_true.1 has_tab _ (List.mem_range.2 h)) _ (List.mem_range.2 hn)
 refine A0d tab func140 Y nB (args:=[_,_]) ?_
 refine su ?_
 refine A0f tab [] (by exact .tmp rfl .nil) (Back.here cntL) ?_
 refine⟨?_,Y⟩
 rw [←eq_of_beq hp]
 rfl
end
section
variable{mn:Who}{v:View}
theorem index_x{aO:Option Addr}{cO:Nat}{out:List Int}{n:Int}(ho:RowAt v aO (out.map intV))(hl:out.length<2^30) :
  Ret1 prog mn 135 [.slice aO out.length cO,intV n] (intV (if inL out n then(out.findIdx (fun x=>n==x):Nat)else -1)) v:=by
 refine A0d tab func135 Y nB (args:=[_,_]) ?_
 refine su ?_
 refine A1q (α:=Nat) (fun i=>⟨[],[(8,.int .i64 i),(7,.int .i64 out.length),(6,.slice aO out.length cO),(0,.slice aO out.length cO),(1,intV n)],[]⟩)
  (fun i u=>u=v∧i≤out.length∧(∀x∈out.take i,¬n=x)) (fun i=>out.length-i) 0 ⟨Y,rg,cntL⟩ (Le.refl _) ⟨Y,Nat.zero_le _,by simp⟩ ?_
 rintro i u ⟨rfl,hi,hr⟩
 refine su ?_
 refine A1i Y (fun h=>?_) (fun h=>?_)
 ·replace h:=fa h
  have hlt:i<out.length:=oM
  obtain⟨bb,off,p,c,e,f,rfl,hv,hc⟩:=ho.get hlt
  have hci:=hc _ hlt
  refine su ?_
  refine A6d tab i Y Y Y Y Y Y Y hlt ?_
  refine A2b tab Y Y Y hv (A0l tab Y Y Y (by rw [Nat.mul_one];exact hci)) ?_
  refine su ?_
  by_cases h1:n=out[i]
  ·rw [show(n==out[i])=true from by simpa using h1]
   refine su ?_
   refine A0f tab [] (by exact .tmp rfl .nil) (Back.here cntL) ?_
   refine⟨?_,Y⟩
   have hin:inL out n=true:=List.any_eq_true.2 ⟨out[i],List.getElem_mem hlt,by simpa using h1⟩
   rw [if_pos hin]
   have hf:out.findIdx (fun x=>n==x)=i:=by
    rw [List.findIdx_eq hlt]
    refine⟨by simpa using h1,fun j hj=>?_⟩
    have:=hr out[j] (by rw [List.mem_take_iff_getElem];exact⟨j,oM,Y⟩)
    simpa using this
   rw [hf];rfl
  ·rw [show(n==out[i])=false from by simpa using h1]
   refine su ?_
   refine A0b ⟨i+1,u,oM,⟨Y,rg,cntL⟩,Le.refl _,Y,hlt,fun x hx=>?_⟩
   rw [List.take_succ_eq_append_getElem hlt]at hx
   rcases List.mem_append.1 hx with hx|hx
   ·exact hr x hx
   ·simp only [List.mem_singleton]at hx;subst hx;exact h1
 ·replace h:=fa h
  have hin:i=out.length:=oM
  subst hin
  rw [List.take_length]at hr
  have hin:inL out n=false:=by
   cases h:inL out n with
   | false=>rfl
   | true=>
    obtain⟨x,hx,hnx⟩:=List.any_eq_true.1 h
    exact absurd (by simpa using hnx) (hr x hx)
  refine su ?_
  refine A0f tab [] (by exact .tmp rfl .nil) (Back.here cntL) ?_
  refine⟨?_,Y⟩
  rw [hin];rfl
theorem contains_x{aO:Option Addr}{cO:Nat}{out:List Int}{n:Int}(ho:RowAt v aO (out.map intV))(hl:out.length<2^30) :
  Ret1 prog mn 92 [.slice aO out.length cO,intV n] (.bool (inL out n)) v:=by
 refine A0d tab func92 Y nB (args:=[_,_]) ?_
 refine su ?_
 refine Q_op fun ho'=>A0u ho' bod135 Y Y Y Y Y (index_x ho hl) ?_
 clear ho'
 cases h:inL out n with
 | true=>
  rw [if_pos rfl]
  refine su ?_
  refine A0f tab [] (by exact .tmp rfl .nil) (Back.here cntL) ?_
  refine⟨?_,Y⟩
  show Value.bool (decide ((out.findIdx (fun x=>n==x):Int)≥0))=_
  rw [decide_eq_true oM]
 | false=>
  rw [if_neg dM]
  refine su ?_
  refine A0f tab [] (by exact .tmp rfl .nil) (Back.here cntL) ?_
  exact⟨Y,Y⟩
structure LsS where
 i:Nat
 sp:A0e
 sq:A0e
 ap:Option Addr
 aq:Option Addr
 cp:Nat
 cq:Nat
theorem lists_x{s na nb:Nat}(hs:s<256)(hn:na+nb≤8) :
  CallsB prog mn 100 #[u8V s,natV na,natV nb] (RetB fun r β'=>∃sp sq ap aq cp cq,r = .tuple (List.toArray [.slice ap (pL s na (na+nb)).length cp,.slice aq (qL s na (na+nb)).length cq])∧β'=sp++sq∧OwnS 3 1 sp ap (pL s na (na+nb)).length cp ((pL s na (na+nb)).map intV)∧OwnS 3 1 sq aq (qL s na (na+nb)).length cq ((qL s na (na+nb)).map intV)) [] v:=by
 refine A0d tab func100 Y nB (args:=[_,_,_]) ?_
 refine su ?_
 refine A1q (α:=LsS) (fun z=>⟨[],[(12,.int .i64 z.i),(11,.int .i64 (na+nb:Nat)),(6,.slice z.ap (pL s na z.i).length z.cp),(7,.slice z.aq (qL s na z.i).length z.cq),(0,u8V s),(1,natV na)],z.sp++z.sq⟩)
  (fun z u=>u=v∧z.i≤na+nb∧OwnS 3 1 z.sp z.ap (pL s na z.i).length z.cp ((pL s na z.i).map intV)∧OwnS 3 1 z.sq z.aq (qL s na z.i).length z.cq ((qL s na z.i).map intV)) (fun z=>na+nb-z.i) ⟨0,[],[],none,none,0,0⟩ ⟨Y,rg,cntL⟩ (Le.refl _) ⟨Y,Nat.zero_le _,.nil,.nil⟩ ?_
 rintro⟨i,sp,sq,ap,aq,cp,cq⟩ u ⟨rfl,hi,hP,hQ⟩
 simp only at hi hP hQ
 dsimp only
 refine su ?_
 refine A1i Y (fun h=>?_) (fun h=>?_)
 ·replace h:=fa h
  have hlt:i<na+nb:=oM
  have hpl:=pL_len s na i
  have hql:=qL_len s na i
  have ep:=pL_succ s na i
  have eq:=qL_succ s na i
  refine su ?_
  refine Q_op fun ho=>A0u ho bod140 Y Y Y Y Y (has_x hs (show i<8 by omega)) ?_
  clear ho
  by_cases h1:hasN s i=true
  ·rw [h1]at ep eq⊢
   by_cases h2:i<na
   ·rw [if_pos ⟨Y,h2⟩]at ep
    rw [if_neg (fun h=>h.2 h2)]at eq
    refine su ?_
    rw [show decide ((i:Int)<(na:Int))=true from decide_eq_true oM]
    refine su ?_
    refine Q_op fun ho=>A3w tab ho Y Y Y Y Y Y Y Y Y (fun b3 c3 hL=>?_)
    clear ho
    refine Q_op fun ho=>A3x tab (xs:=[.int .i64 (i:Int)]) sp [(b3,c3,3)] sq ho Y Y Y Y Y Y Y Y Y Y (show ∀p,Pal.cnt p ((b3,c3,3)::(sp++sq))=Pal.cnt p (sp++([(b3,c3,3)]++sq))from cntA) hP
     (fun hb=>RowAt.own hb cntL hL) Y Y (by show(2*((pL s na i).length+1)+768)*8≤2^48;omega) oM (fun sg' a' cap' hS'=>?_)
    clear ho
    refine su ?_
    refine A0b ⟨⟨i+1,sg',sq,a',aq,cap',cq⟩,u,by simp only;omega,⟨Y,?_,cntL⟩,Le.refl _,Y,hlt,?_,?_⟩
    ·simp only
     rw [ep,eq,List.length_append]
     exact rg
    ·simp only
     rw [ep,List.length_append,List.map_append]
     exact hS'
    ·simp only
     rw [eq];exact hQ
   ·rw [if_neg (fun h=>h2 h.2)]at ep
    rw [if_pos ⟨Y,h2⟩]at eq
    refine su ?_
    rw [show decide ((i:Int)<(na:Int))=false from decide_eq_false oM]
    refine su ?_
    refine Q_op fun ho=>A0u ho bod140 Y Y Y Y Y (has_x hs (show i<8 by omega)) ?_
    clear ho
    rw [h1]
    refine su ?_
    refine Q_op fun ho=>A3w tab ho Y Y Y Y Y Y Y Y Y (fun b3 c3 hL=>?_)
    clear ho
    refine Q_op fun ho=>A3x tab (xs:=[.int .i64 ((i:Int)-na)]) sq [(b3,c3,3)] sp ho Y Y Y Y Y Y Y Y Y Y (show ∀p,Pal.cnt p ((b3,c3,3)::(sp++sq))=Pal.cnt p (sq++([(b3,c3,3)]++sp))from cntA) hQ
     (fun hb=>RowAt.own hb cntL hL) Y Y (by show(2*((qL s na i).length+1)+768)*8≤2^48;omega) oM (fun sg' a' cap' hS'=>?_)
    clear ho
    refine su ?_
    refine A0b ⟨⟨i+1,sp,sg',ap,a',cp,cap'⟩,u,by simp only;omega,⟨Y,?_,cntL⟩,Le.refl _,Y,hlt,?_,?_⟩
    ·simp only
     rw [ep,eq,List.length_append]
     exact rg
    ·simp only
     rw [ep];exact hP
    ·simp only
     rw [eq,List.length_append,List.map_append]
     exact hS'
  ·have h1:hasN s i=false:=by simpa using h1
   rw [h1]at ep eq⊢
   rw [if_neg (fun h=>by cases h.1)]at ep eq
   refine su ?_
   refine Q_op fun ho=>A0u ho bod140 Y Y Y Y Y (has_x hs (show i<8 by omega)) ?_
   clear ho
   rw [h1]
   refine su ?_
   refine A0b ⟨⟨i+1,sp,sq,ap,aq,cp,cq⟩,u,by simp only;omega,⟨Y,?_,cntL⟩,Le.refl _,Y,hlt,?_,?_⟩
   ·simp only
    rw [ep,eq]
    exact rg
   ·simp only
    rw [ep];exact hP
   ·simp only
    rw [eq];exact hQ
 ·replace h:=fa h
  have hin:i=na+nb:=oM
  subst hin
  refine su ?_
  refine A0f tab (sp++sq) (by exact .tmp rfl (.tmp rfl .nil)) (Back.here cntL) ?_
  exact⟨sp,sq,ap,aq,cp,cq,Y,Y,hP,hQ⟩
end
structure WoS where
 i:Nat
 sg:A0e
 a:Option Addr
 cap:Nat
section
variable{mn:Who}{v:View}
theorem leftN_succ{l:List MA}{out:List Int}{i:Nat}(hi:i<l.length):A3b (l.take (i+1)) out=A3b (l.take i) out++(if inL out (i:Int)then []else [l[i]]):=by
 unfold A3b
 rw [List.take_succ_eq_append_getElem hi,A8p,Nat.zero_add,List.length_take,Nat.min_eq_left oM]
theorem without_x{aA aO:Option Addr}{cA cO:Nat}{a:List MA}{out:List Int}(ha:ActsAt v aA a)(ho:RowAt v aO (out.map intV))(hal:a.length<2^20)(hol:out.length<2^30) :
  CallsB prog mn 102 #[.slice aA a.length cA,.slice aO out.length cO] (RetB fun r β'=>∃a' cap,r = .slice a' (A3b a out).length cap∧OwnS 40 4 β' a' (A3b a out).length cap ((A3b a out).map MA.cells).flatten) [] v:=by
 refine A0d tab func102 Y nB (args:=[_,_]) ?_
 refine su ?_
 refine A1q (α:=WoS) (fun z=>⟨[],[(10,.int .i64 z.i),(9,.int .i64 a.length),(8,.slice aA a.length cA),(5,.slice z.a (A3b (a.take z.i) out).length z.cap),(1,.slice aO out.length cO)],z.sg⟩)
  (fun z u=>u=v∧z.i≤a.length∧OwnS 40 4 z.sg z.a (A3b (a.take z.i) out).length z.cap ((A3b (a.take z.i) out).map MA.cells).flatten) (fun z=>a.length-z.i) ⟨0,[],none,0⟩ ⟨Y,rg,cntL⟩ (Le.refl _) ⟨Y,Nat.zero_le _,.nil⟩ ?_
 rintro⟨i,sg,a',cap⟩ u ⟨rfl,hi,hS⟩
 simp only at hi hS
 dsimp only
 refine su ?_
 refine A1i Y (fun h=>?_) (fun h=>?_)
 ·replace h:=fa h
  have hlt:i<a.length:=oM
  obtain⟨bb,off,p,c,e,f,rfl,hv,hc⟩:=ha.get hlt
  have hll:(A3b (a.take i) out).length≤i:=Nat.le_trans A5h (by rw [List.length_take];omega)
  have hsu:=leftN_succ (out:=out) hlt
  refine su ?_
  refine A6d tab i Y Y Y Y Y Y Y hlt ?_
  refine A2b tab Y Y Y hv (A1g tab Y Y Y (hc i hlt)) ?_
  refine sw fun bx=>?_
  refine Q_op fun ho'=>A0u ho' bod92 Y Y Y Y Y (contains_x (n:=(i:Int)) ho hol) ?_
  clear ho'
  cases h:inL out (i:Int)with
  | true=>
   rw [h,if_pos Y,List.append_nil]at hsu
   refine su ?_
   refine A0b ⟨⟨i+1,sg,a',cap⟩,u,by simp only;omega,⟨Y,?_,cntL⟩,Le.refl _,Y,hlt,?_⟩
   ·simp only
    rw [hsu]
    exact rg
   ·simp only
    rw [hsu];exact hS
  | false=>
   rw [h,if_neg dM]at hsu
   generalize a[i]=x at hsu
   refine su ?_
   refine Q_op fun ho'=>A3w tab ho' Y Y Y Y Y Y Y Y Y (fun b3 c3 hL=>?_)
   clear ho'
   refine Q_op fun ho'=>A3x tab (xs:=x.cells) sg [(b3,c3,40)] [(bx,x.cells.toArray,40)] ho' Y Y Y Y Y Y Y Y Y Y (show ∀p,Pal.cnt p ((b3,c3,40)::(bx,x.cells.toArray,40)::sg)=Pal.cnt p (sg++([(b3,c3,40)]++[(bx,x.cells.toArray,40)]))from cntA) hS
    (fun hb=>RowAt.own hb cntL hL) Y Y (by show(2*((A3b (a.take i) out).length+1)+768)*32≤2^48;omega) oM (fun sg' a'' cap' hS'=>?_)
   clear ho'
   refine su ?_
   refine A0b ⟨⟨i+1,sg',a'',cap'⟩,u,by simp only;omega,⟨Y,?_,show Subm sg' (sg'++[(bx,x.cells.toArray,40)])from cntL⟩,Le.refl _,Y,hlt,?_⟩
   ·simp only
    rw [hsu,List.length_append]
    exact rg
   ·simp only
    rw [hsu,List.length_append,List.map_append,List.flatten_append]
    simpa using hS'
 ·replace h:=fa h
  have hin:i=a.length:=oM
  subst hin
  rw [List.take_length]at hS⊢
  refine su ?_
  refine A0f tab sg (by exact .tmp rfl .nil) (Back.here cntL) ?_
  exact⟨a',cap,Y,hS⟩
end
end Go.Proofs.YtclejblcnfaeaaaGreatDoor
end
section
namespace Go.Proofs.YtclejblcnfaeaaaGreatDoor.S
open Go Go.Pal Go.Pal.To Go.Conc View
open Go.Proofs.Tryz
open Go.Sort (swp PermIn SortedIn Below SWO)
set_option maxHeartbeats 4000000
abbrev E:Type:=Nat
abbrev SZ:Nat:=1
abbrev cE(e:E):List Value:=[u8V e]
def eV(e:E):Value:=u8V e
theorem eV_cells(e:E):(eV e).cells.toList=cE e:=rfl
theorem A1f(e:E):(eV e).cells.size=1:=rfl
theorem A1v(e:E):(eV e).cells.toList.all A2k=true:=rfl
attribute [irreducible] eV
structure ZT where
 (bc ba bb na nb:Nat)
def okE(_:ZT)(e:E):Prop:=e<256
def zAt(ζ:ZT)(v:View):Prop:=ζ.na+ζ.nb≤8∧(∃p f,v ζ.bc=some (p,.cells (List.toArray [.func (.func 97) #[] #[]]) 185 f))∧(∃p f aA cA,v ζ.ba=some (p,.cells (List.toArray [.slice aA ζ.na cA]) 28 f))∧(∃p f aB cB,v ζ.bb=some (p,.cells (List.toArray [.slice aB ζ.nb cB]) 28 f))
theorem zat{ζ:ZT}{u w:View}(h:zAt ζ u)(k:u.Le w:=by first|exact Le.refl _|exact A0g _ _):zAt ζ w:=by
 obtain⟨h0,⟨p1,f1,h1⟩,⟨p2,f2,a2,c2,h2⟩,⟨p3,f3,a3,c3,h3⟩⟩:=h
 exact⟨h0,⟨p1,f1,k _ _ h1⟩,⟨p2,f2,a2,c2,k _ _ h2⟩,⟨p3,f3,a3,c3,k _ _ h3⟩⟩
theorem zUp{ζ:ZT}{v F:View}(h:zAt ζ v):zAt ζ (v.union F):=zat h
def cmE(ζ:ZT)(x y:E):Int:=cmS ζ.na ζ.nb x y
def ltE(ζ:ZT)(x y:E):Bool:=decide (cmE ζ x y<0)
abbrev cmV(ζ:ZT):Value:=.func (.func 99) #[] (List.toArray [.pointer (some ⟨ζ.bc,0,none⟩),.pointer (some ⟨ζ.ba,0,none⟩),.pointer (some ⟨ζ.bb,0,none⟩)])
theorem swoE(ζ:ZT):SWO (ltE ζ):=by
 have e:∀x y,ltE ζ x y=true↔A5c (cntN x) (pL x ζ.na (ζ.na+ζ.nb)) (qL x ζ.na (ζ.na+ζ.nb)) (cntN y) (pL y ζ.na (ζ.na+ζ.nb)) (qL y ζ.na (ζ.na+ζ.nb)):=fun x y=>by
  unfold ltE cmE
  rw [decide_eq_true_iff]
  exact cmS_lt
 have e0:∀x y,ltE ζ x y=false↔¬A5c (cntN x) (pL x ζ.na (ζ.na+ζ.nb)) (qL x ζ.na (ζ.na+ζ.nb)) (cntN y) (pL y ζ.na (ζ.na+ζ.nb)) (qL y ζ.na (ζ.na+ζ.nb)):=fun x y=>by
  rw [←e];simp
 refine⟨fun x=>?_,fun x y z h1 h2=>?_,fun x y z h1 h2=>?_⟩
 ·rw [e0];exact B0k
 ·rw [e]at h1 h2⊢;exact B1v h1 h2
 ·rw [e0]at h1 h2⊢;exact keyLt_ntrans h1 h2
structure DBz(ζ:ZT)(cap:Nat)(d:Array E)(c:Array Value):Prop where
 db:DB SZ cE (okE ζ) cap d c
section
variable{mn:Who}{v:View}{cap:Nat}{ζ:ZT}{d:Array E}{c:Array Value}
theorem lexL{P:Program}{rd:Option Nat}{n:Nat}{Q:Exit→St→View→Prop}{ds:List Deferred}{ρ:Regs}{β:A0e}{id:Nat}{ops:Array Oper}{l:List Oper}(hm:P.follows .mixedOrders=true)(hl:ops.toList=l)(hB:(Region.lexB .any ops&&ops.all (fun o=>!A1t o.op))=true)(h:XL P mn n ops Q l ⟨ds,ρ,β⟩ v):XC P mn rd n (.region id ops true) Q ⟨ds,ρ,β⟩ v:=XC_lex hm hl hB h
theorem DBz.rdE(h:DBz ζ cap d c){i:Nat}(hi:i<d.size):A4k tab 187 c (0+i*1)=some (eV d[i]!):=by
 unfold eV
 exact A0l tab Y Y Y (h.db.one Y hi Y)
theorem DBz.le(h:DBz ζ cap d c):d.size≤cap:=h.db.le
theorem DBz.ok(h:DBz ζ cap d c){i:Nat}(hi:i<d.size):okE ζ d[i]!:=h.db.ok hi
theorem DBz.off(h:DBz ζ cap d c){i:Nat}(hi:i<d.size){n:Nat}(hn:n=1):Nat.ble (0+i*1+n) c.size=true:=h.db.off hi hn
theorem DBz.set(h:DBz ζ cap d c){i:Nat}(hi:i<d.size){x:E}(hx:okE ζ x):DBz ζ cap (d.setIfInBounds i x) (A0z c (0+i*1) (eV x).cells.toList):=by
 rw [eV_cells]
 exact⟨h.db.set hi hx⟩
theorem DBz.swp(h:DBz ζ cap d c){i j:Nat}(hi:i<d.size)(hj:j<d.size):DBz ζ cap (Go.Sort.swp d i j) (A0z (A0z c (0+i*1) (eV d[j]!).cells.toList) (0+j*1) (eV d[i]!).cells.toList):=
 (h.set hi (h.ok hj)).set (by simpa using hj) (h.ok hi)
theorem A1z{x y:E}(hP:zAt ζ v)(hx:okE ζ x)(hy:okE ζ y):Ret1 prog mn 99 [eV x,eV y,.pointer (some ⟨ζ.bc,0,none⟩),.pointer (some ⟨ζ.ba,0,none⟩),.pointer (some ⟨ζ.bb,0,none⟩)] (.int .i64 (cmE ζ x y)) v:=by
 unfold eV
 obtain⟨bc,ba,bb,na,nb⟩:=ζ
 obtain⟨h8,⟨p1,f1,h1⟩,⟨p2,f2,a2,c2,h2⟩,⟨p3,f3,a3,c3,h3⟩⟩:=hP
 simp only at h8 h1 h2 h3
 have hx8:=cnt8 hx
 have hy8:=cnt8 hy
 show Ret1 prog mn 99 [u8V x,u8V y,.pointer (some ⟨bc,0,none⟩),.pointer (some ⟨ba,0,none⟩),.pointer (some ⟨bb,0,none⟩)] (.int .i64 (cmS na nb x y)) v
 refine A0d tab func99 Y nB (args:=[_,_,_,_,_]) ?_
 refine su ?_
 refine lexL A1e Y kR ?_
 refine su ?_
 refine A4l tab Y Y Y h1 (A0l tab Y Y Y Y) ?_
 refine su ?_
 refine A2w bod97 Y Y Y Y Y (cnt_x hx) ?_
 refine A4l tab Y Y Y h1 (A0l tab Y Y Y Y) ?_
 refine su ?_
 refine A2w bod97 Y Y Y Y Y (cnt_x hy) ?_
 refine su ?_
 unfold cmS
 by_cases hc:(cntN x:Int)-cntN y=0
 ·rw [show((cntN x:Int)-(cntN y:Int) != 0)=false from by simpa using hc]
  rw [if_neg (by simpa using hc)]
  refine su ?_
  refine A2b tab Y Y Y h2 (A0l tab Y Y Y Y) ?_
  refine su ?_
  refine A2b tab Y Y Y h3 (A0l tab Y Y Y Y) ?_
  refine su ?_
  refine Q_op fun ho=>A0o [] _ ho bod100 Y Y Y Y Y A7s (lists_x hx h8) (fun x β' hR=>?_)
  clear ho
  obtain⟨sp,sq,ap,aq,cp,cq,rfl,rfl,hp,hq⟩:=hR
  refine A8x (β1:=sp++sq) (β2:=[]) (show ∀p,Pal.cnt p ((sp++sq)++[])=Pal.cnt p ((sp++sq)++[])from fun _=>rfl) (fun hb=>?_)
  have hrp:=RowAt.own hb (show Subm sp (sp++sq)from cntL) hp
  have hrq:=RowAt.own hb (show Subm sq (sp++sq)from cntL) hq
  have hl:=A0g v (A0c (sp++sq))
  generalize v.union (A0c (sp++sq))=u at *
  clear hb hp hq
  refine su ?_
  refine A2b tab Y Y Y (hl _ _ h2) (A0l tab Y Y Y Y) ?_
  refine su ?_
  refine A2b tab Y Y Y (hl _ _ h3) (A0l tab Y Y Y Y) ?_
  refine su ?_
  refine Q_op fun ho=>A0o [] _ ho bod100 Y Y Y Y Y A7s (lists_x hy h8) (fun x β' hR=>?_)
  clear ho
  obtain⟨sp',sq',ap',aq',cp',cq',rfl,rfl,hp',hq'⟩:=hR
  refine A8x (β1:=sp'++sq') (β2:=[]) (show ∀p,Pal.cnt p ((sp'++sq')++[])=Pal.cnt p ((sp'++sq')++[])from fun _=>rfl) (fun hb=>?_)
  have hrp':=RowAt.own hb (show Subm sp' (sp'++sq')from cntL) hp'
  have hrq':=RowAt.own hb (show Subm sq' (sp'++sq')from cntL) hq'
  have hl2:=A0g u (A0c (sp'++sq'))
  generalize u.union (A0c (sp'++sq'))=u2 at *
  clear hb hp' hq'
  have k1:=pL_len x na (na+nb)
  have k2:=pL_len y na (na+nb)
  have k3:=qL_len x na (na+nb)
  have k4:=qL_len y na (na+nb)
  refine su ?_
  refine Q_op fun ho=>A0u ho bod101 Y Y Y Y Y (A9x (hrp.le hl2) hrp' oM oM) ?_
  clear ho
  by_cases hd:lexZ (pL x na (na+nb)) (pL y na (na+nb))=0
  ·rw [hd,if_neg dM]
   refine su ?_
   refine Q_op fun ho=>A0u ho bod101 Y Y Y Y Y (A9x (hrq.le hl2) hrq' oM oM) ?_
   clear ho
   refine su ?_
   refine A0f tab [] (by exact .tmp rfl .nil) (Back.le (hl.trans hl2) cntL) ?_
   exact⟨Y,Y⟩
  ·rw [if_pos hd]
   refine su ?_
   rw [show(lexZ (pL x na (na+nb)) (pL y na (na+nb)) != 0)=true from by simpa using hd]
   refine su ?_
   refine A0f tab [] (by exact .tmp rfl .nil) (Back.le (hl.trans hl2) cntL) ?_
   exact⟨Y,Y⟩
 ·rw [show((cntN x:Int)-(cntN y:Int) != 0)=true from by simpa using hc]
  rw [if_pos hc]
  refine su ?_
  refine A0f tab [] (by exact .tmp rfl .nil) (Back.here cntL) ?_
  exact⟨Y,Y⟩
end
end Go.Proofs.YtclejblcnfaeaaaGreatDoor.S
end
section
namespace Go.Proofs.YtclejblcnfaeaaaGreatDoor.S
open Go Go.Pal Go.Conc View
open Go.Proofs.YtclejblcnfaeaaaGreatDoor.W (zkb_reverse_x)
open Go.Proofs.Tryz
open Go.Sort (swp PermIn SortedIn Below SWO)
set_option maxHeartbeats 4000000
abbrev tE:Nat:=187
abbrev u164:=func98
abbrev u217:=func139
abbrev u236:=func177
abbrev u237:=func178
abbrev u238:=func179
abbrev u240:=func181
abbrev u241:=func182
abbrev u242:=func183
abbrev u243:=func184
abbrev u247:=func223
abbrev u248:=func224
abbrev u249:=func225
abbrev u250:=func245
abbrev w137:=bod137
abbrev w165:=bod99
abbrev w217:=bod139
abbrev w219:=bod219
abbrev w220:=bod220
abbrev w236:=bod177
abbrev w237:=bod178
abbrev w238:=bod179
abbrev w239:=bod180
abbrev w240:=bod181
abbrev w241:=bod182
abbrev w242:=bod183
abbrev w243:=bod184
abbrev w247:=bod223
abbrev w249:=bod225
abbrev w250:=bod245
section
variable{mn:Who}{v:View}{cap:Nat}{ζ:ZT}{d:Array E}{c:Array Value}
abbrev SBox(ζ:ZT)(cap b:Nat)(post:Array E→Prop):A0e→Prop:=fun β'=>∃d' c',β'=[(b,c',tE)]∧DBz ζ cap d' c'∧post d'
abbrev slV(b n cap:Nat):Value:=.slice (some ⟨b,0,none⟩) n cap
theorem reverse_x{b i0 j0:Nat}{f:Value}(hD:DBz ζ cap d c)(hcap:d.size<2^30)(hij:i0≤j0)(hj:j0≤d.size) :
  CallsB prog mn 181 #[slV b d.size cap,.int .i64 i0,.int .i64 j0,f] (RetB fun r β'=>r = .tuple #[]∧SBox ζ cap b (fun d'=>PermIn i0 j0 d d') β') [(b,c,tE)] v:=zkb_reverse_x
end
end Go.Proofs.YtclejblcnfaeaaaGreatDoor.S
end
section
namespace Go.Proofs.YtclejblcnfaeaaaGreatDoor.S
open Go Go.Pal Go.Conc View
open Go.Proofs.YtclejblcnfaeaaaGreatDoor.W (zkc_insertion_x)
open Go.Proofs.Tryz
open Go.Sort (swp PermIn SortedIn Below SWO insInner insOuter insertionSort)
set_option maxHeartbeats 4000000
section
variable{mn:Who}{v:View}{cap:Nat}{ζ:ZT}{d:Array E}{c:Array Value}
abbrev AS:=Nat×Array E×Array Value
theorem B1w{b x y:Nat}(hP:zAt ζ v)(hD:DBz ζ cap d c)(hcap:d.size<2^30)(hxy:x≤y)(hy:y≤d.size) :
  CallsB prog mn 177 #[slV b d.size cap,.int .i64 x,.int .i64 y,cmV ζ] (RetB fun r β'=>r = .tuple #[]∧SBox ζ cap b (fun d'=>d'.size=d.size∧d'=insertionSort (ltE ζ) d x y) β') [(b,c,tE)] v:=zkc_insertion_x
end
end Go.Proofs.YtclejblcnfaeaaaGreatDoor.S
end
