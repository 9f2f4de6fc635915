/- Part 10. -/
import Derived.Test.YtclejblcnfaeaaaGreatDoorPai
set_option linter.all false
section
namespace Go.Proofs.YtclejblcnfaeaaaGreatDoor
open Go Go.Pal Go.Pal.To Go.Conc View
open Go.Proofs.Tryz
set_option maxHeartbeats 4000000
set_option maxRecDepth 20000
section
variable{mn:Who}{v:View}
abbrev natV(n:Nat):Value:=.int .i64 n
abbrev intV(n:Int):Value:=.int .i64 n
theorem A7s{β:A0e}:∀p,Pal.cnt p β=Pal.cnt p ([]++β):=fun _=>rfl
theorem nan_x{x:Int}:Ret1 prog mn 185 [.int .i64 x] (.bool false) v:=by
 refine A0d tab func185 Y nB (args:=[_]) ?_
 refine su ?_
 refine A0f tab [] (by exact .tmp rfl .nil) (Back.here cntL) ?_
 exact⟨by show Value.bool (x != x)=_;simp,Y⟩
def cmpI(x y:Int):Int:=if x<y then -1 else if y<x then 1 else 0
theorem cmp_x{x y:Int}:Ret1 prog mn 141 [.int .i64 x,.int .i64 y] (.int .i64 (cmpI x y)) v:=by
 refine A0d tab func141 Y nB (args:=[_,_]) ?_
 refine su ?_
 refine Q_op fun ho=>A0u ho bod185 Y Y Y Y Y nan_x ?_
 clear ho
 refine su ?_
 refine Q_op fun ho=>A0u ho bod185 Y Y Y Y Y nan_x ?_
 clear ho
 refine su ?_
 refine A1i Y (fun h=>?_) (fun h=>?_)
 ·replace h:=fa h
  refine su ?_
  refine A0f tab [] (by exact .tmp rfl .nil) (Back.here cntL) ?_
  exact⟨by unfold cmpI;rw [if_pos h];rfl,Y⟩
 ·replace h:=fa h
  have h1:=h
  clear h
  refine su ?_
  refine A1i Y (fun h=>?_) (fun h=>?_)
  ·replace h:=fa h
   refine su ?_
   refine A0f tab [] (by exact .tmp rfl .nil) (Back.here cntL) ?_
   exact⟨by unfold cmpI;rw [if_neg h1,if_pos h];rfl,Y⟩
  ·replace h:=fa h
   refine su ?_
   refine A0f tab [] (by exact .tmp rfl .nil) (Back.here cntL) ?_
   exact⟨by unfold cmpI;rw [if_neg h1,if_neg h];rfl,Y⟩
theorem A8o:∀(i:Nat) (l m:List Int),l.take i=m.take i→i≤l.length→i≤m.length→lexZ l m=lexZ (l.drop i) (m.drop i)
 | 0,l,m,_,_,_=>rfl
 | i+1,[],m,_,h,_=>by simp at h
 | i+1,_::_,[],_,_,h=>by simp at h
 | i+1,x::l,y::m,h,h1,h2=>by
  simp only [List.take_succ_cons,List.cons.injEq]at h
  obtain⟨rfl,h⟩:=h
  simp only [lexZ,Int.lt_irrefl,if_false,List.drop_succ_cons]
  exact A8o i l m h (by simpa using h1) (by simpa using h2)
theorem A9x{a a':Option Addr}{cap cap':Nat}{l m:List Int}(hl:RowAt v a (l.map intV))(hm:RowAt v a' (m.map intV))(h1:l.length<2^62)(h2:m.length<2^62) :
    Ret1 prog mn 101 [.slice a l.length cap,.slice a' m.length cap'] (.int .i64 (lexZ l m)) v:=by
  refine A0d tab func101 Y nB (args:=[_,_]) ?_
  refine su ?_
  refine A1q (α:=Nat) (fun i=>⟨[],[(11,.int .i64 i),(10,.int .i64 l.length),(9,.slice a l.length cap),(0,.slice a l.length cap),(1,.slice a' m.length cap')],[]⟩)
    (fun i u=>u=v∧i≤l.length∧i≤m.length∧l.take i=m.take i) (fun i=>l.length-i) 0 ⟨Y,rg,cntL⟩ (Le.refl _) ⟨Y,Nat.zero_le _,Nat.zero_le _,Y⟩ ?_
  rintro i u ⟨rfl,hi,hi',hp⟩
  refine su ?_
  refine A1i Y (fun h=>?_) (fun h=>?_)
  · replace h:=fa h
    have hlt:i<l.length:=oM
    obtain⟨bb,off,p,c,e,f,rfl,hv,hc⟩:=hl.get hlt
    refine su ?_
    refine A6d tab i Y Y Y Y Y Y Y hlt ?_
    refine A2b tab Y Y Y hv (A0l tab Y Y Y (by rw [Nat.mul_one];exact hc _ hlt)) ?_
    have h:=h
    clear h
    refine su ?_
    refine A1i Y (fun h=>?_) (fun h=>?_)
    · replace h:=fa h
      have him:i=m.length:=oM
      refine su ?_
      refine A0f tab [] (by exact .tmp rfl .nil) (Back.here cntL) ?_
      refine⟨?_,Y⟩
      rw [A8o i l m hp hi hi',him,List.drop_length,←him,List.drop_eq_getElem_cons hlt]
      rfl
    · replace h:=fa h
      have hlt':i<m.length:=oM
      obtain⟨bb',off',p',c',e',f',rfl,hv',hc'⟩:=hm.get hlt'
      refine su ?_
      refine A6d tab i Y Y Y Y Y Y Y hlt' ?_
      refine A2b tab Y Y Y hv' (A0l tab Y Y Y (by rw [Nat.mul_one];exact hc' _ hlt')) ?_
      refine su ?_
      refine Q_op fun ho=>A0u ho bod141 Y Y Y Y Y cmp_x ?_
      clear ho
      have hd:lexZ l m=lexZ (l[i]::l.drop (i+1)) (m[i]::m.drop (i+1)):=by
        rw [A8o i l m hp hi hi',List.drop_eq_getElem_cons hlt,List.drop_eq_getElem_cons hlt']
      by_cases hlt1:l[i]<m[i]
      · rw [show cmpI l[i] m[i] = -1 from by unfold cmpI;rw [if_pos oM]]
        refine su ?_
        refine A0f tab [] (by exact .tmp rfl .nil) (Back.here cntL) ?_
        refine⟨?_,Y⟩
        rw [hd];unfold lexZ;rw [if_pos hlt1];rfl
      · by_cases hlt2:m[i]<l[i]
        · rw [show cmpI l[i] m[i]=1 from by unfold cmpI;rw [if_neg oM,if_pos oM]]
          refine su ?_
          refine A0f tab [] (by exact .tmp rfl .nil) (Back.here cntL) ?_
          refine⟨?_,Y⟩
          rw [hd];unfold lexZ;rw [if_neg hlt1,if_pos hlt2];rfl
        · rw [show cmpI l[i] m[i]=0 from by unfold cmpI;rw [if_neg oM,if_neg oM]]
          refine su ?_
          refine A0b ⟨i+1,u,oM,⟨Y,rg,cntL⟩,Le.refl _,Y,hlt,hlt',?_⟩
          rw [List.take_succ_eq_append_getElem hlt,List.take_succ_eq_append_getElem hlt',hp,show l[i]=m[i] by omega]
  · replace h:=fa h
    have hin:i=l.length:=oM
    have hd:lexZ l m=lexZ [] (m.drop i):=by
      rw [A8o i l m hp hi hi']
      rw [hin,List.drop_length]
    refine su ?_
    refine A1i Y (fun h=>?_) (fun h=>?_)
    · replace h:=fa h
      refine su ?_
      refine A0f tab [] (by exact .tmp rfl .nil) (Back.here cntL) ?_
      refine⟨?_,Y⟩
      rw [hd,List.drop_eq_getElem_cons (show i<m.length by omega)]
      rfl
    · replace h:=fa h
      refine su ?_
      refine A0f tab [] (by exact .tmp rfl .nil) (Back.here cntL) ?_
      refine⟨?_,Y⟩
      rw [hd,List.drop_eq_nil_of_le (show m.length≤i by omega)]
      rfl
end
end Go.Proofs.YtclejblcnfaeaaaGreatDoor
end
section
namespace Go.Pal.To
def outZ(n lo hi:Int):Prop:=n<lo∨n > hi
instance (n lo hi:Int):Decidable (outZ n lo hi):=inferInstanceAs (Decidable (_∨_))
def A4o(k:Int):Int:=if k=1 then 0 else if k=0∨k=2 then 2 else -1
def A7a(P N:Int)(x:MA):Int:=
 if A4o x.k<0 then 8
 else if A4o x.k=0∧(x.a≠0∨x.b≠0)then 1
 else if A4o x.k > 0∧(outZ x.a 0 (P-1)∨outZ x.b 0 (P-1))then 3
 else if outZ x.h 0 (N-1)then 3
 else if x.k=0∧x.a=x.b then 4 else 0
def A5t(P:Int):List Int→Int
 | []=>0
 | x::l=>if outZ x 0 (P-1)then 3 else A5t P l
def A4b(P:Int)(d:List Int):Int:=if outZ P 1 4 then 1 else if d.length=0 then 7 else if d.length > 3 then 6 else A5t P d
def A5a(P N:Int):List MA→Int
 | []=>0
 | x::l=>if A7a P N x≠0 then A7a P N x else A5a P N l
def A4z(P N:Int)(most:Nat)(l:List MA):Int:=if l.length > most then 6 else A5a P N l
def chkBooks(P:Int)(d:List Int)(most:Nat)(ls:List (List MA)):Int:=
 if A4b P d≠0 then A4b P d else go ls
where go:List (List MA)→Int
 | []=>0
 | l::r=>if A4z P d.length most l≠0 then A4z P d.length most l else go r
theorem persN_of{k:Int}(h:¬A4o k<0):(k=0∨k=1∨k=2):=by
 unfold A4o at h
 by_cases h1:k=1
 ·exact .inr (.inl h1)
 ·rw [if_neg h1]at h
  by_cases h2:k=0∨k=2
  ·rcases h2 with h2|h2
   ·exact .inl h2
   ·exact .inr (.inr h2)
  ·rw [if_neg h2]at h;omega
structure Ok(P N:Int)(x:MA):Prop where
 k:x.k=0∨x.k=1∨x.k=2
 h:0≤x.h∧x.h<N
 asks:x.k=1→x.a=0∧x.b=0
 ab:x.k≠1→(0≤x.a∧x.a<P)∧(0≤x.b∧x.b<P)
 ne:x.k=0→x.a≠x.b
theorem chkAct_ok{P N:Int}{x:MA}:A7a P N x=0↔Ok P N x:=by
 unfold A7a
 constructor
 ·intro h
  by_cases h1:A4o x.k<0
  ·rw [if_pos h1]at h;cases h
  rw [if_neg h1]at h
  have hk:=persN_of h1
  by_cases h2:A4o x.k=0∧(x.a≠0∨x.b≠0)
  ·rw [if_pos h2]at h;cases h
  rw [if_neg h2]at h
  by_cases h3:A4o x.k > 0∧(outZ x.a 0 (P-1)∨outZ x.b 0 (P-1))
  ·rw [if_pos h3]at h;cases h
  rw [if_neg h3]at h
  by_cases h4:outZ x.h 0 (N-1)
  ·rw [if_pos h4]at h;cases h
  rw [if_neg h4]at h
  by_cases h5:x.k=0∧x.a=x.b
  ·rw [if_pos h5]at h;cases h
  unfold outZ at h3 h4
  refine⟨hk,oM,fun e=>?_,fun e=>?_,fun e e'=>h5 ⟨e,e'⟩⟩
  ·have:A4o x.k=0:=by unfold A4o;rw [if_pos e]
   rw [this]at h2
   simp only [true_and,not_or,Classical.not_not]at h2
   exact h2
  ·have:A4o x.k=2:=by unfold A4o;rw [if_neg e,if_pos oM]
   rw [this]at h3
   omega
 ·intro ⟨h1,h2,h3,h4,h5⟩
  have k0:¬A4o x.k<0:=by unfold A4o;split;omega;rw [if_pos oM];omega
  rw [if_neg k0,if_neg (by
   rintro⟨a,b⟩
   have:x.k=1:=by
    unfold A4o at a
    by_cases e:x.k=1
    ·exact e
    ·rw [if_neg e,if_pos oM]at a;omega
   have:=h3 this;omega),if_neg (by
   rintro⟨a,b⟩
   have e:x.k≠1:=fun e=>by unfold A4o at a;rw [if_pos e]at a;omega
   have:=h4 e
   unfold outZ at b;omega),if_neg (by unfold outZ;omega),if_neg (fun⟨a,b⟩=>h5 a b)]
theorem chkActs_ok{P N:Int}:∀{l:List MA},A5a P N l=0↔∀x∈l,Ok P N x
 | []=>by simp [A5a]
 | x::l=>by
  unfold A5a
  by_cases h:A7a P N x=0
  ·rw [if_neg (by simpa using h),chkActs_ok (l:=l)]
   simp [chkAct_ok.1 h]
  ·rw [if_pos h]
   constructor
   ·intro e;exact absurd e h
   ·intro e;exact absurd (chkAct_ok.2 (e x sM)) h
theorem chkDawn_ok{P:Int}:∀{l:List Int},A5t P l=0↔∀x∈l,0≤x∧x<P
 | []=>by simp [A5t]
 | x::l=>by
  unfold A5t
  by_cases h:outZ x 0 (P-1)
  ·rw [if_pos h]
   constructor
   ·intro e;cases e
   ·intro e
    have:=e x sM
    unfold outZ at h;omega
  ·rw [if_neg h,chkDawn_ok (l:=l)]
   have:0≤x∧x<P:=by unfold outZ at h;omega
   simp [this]
structure MOk(P:Int)(d:List Int):Prop where
 p:1≤P∧P≤4
 len:1≤d.length∧d.length≤3
 all:∀x∈d,0≤x∧x<P
theorem chkMorn_ok{P:Int}{d:List Int}:A4b P d=0↔MOk P d:=by
 unfold A4b
 by_cases h1:outZ P 1 4
 ·rw [if_pos h1]
  constructor
  ·intro e;cases e
  ·intro e;have:=e.p;unfold outZ at h1;omega
 rw [if_neg h1]
 by_cases h2:d.length=0
 ·rw [if_pos h2]
  constructor
  ·intro e;cases e
  ·intro e;have:=e.len;omega
 rw [if_neg h2]
 by_cases h3:d.length > 3
 ·rw [if_pos h3]
  constructor
  ·intro e;cases e
  ·intro e;have:=e.len;omega
 rw [if_neg h3,chkDawn_ok]
 unfold outZ at h1
 exact⟨fun h=>⟨oM,oM,h⟩,fun h=>h.all⟩
end Go.Pal.To
end
section
namespace Go.Proofs.YtclejblcnfaeaaaGreatDoor
open Go Go.Pal Go.Pal.To Go.Conc View
open Go.Proofs.Tryz
set_option maxHeartbeats 4000000
set_option maxRecDepth 20000
section
variable{mn:Who}{v:View}
def _root_.Go.Pal.To.MA.cells(x:MA):List Value:=[intV x.k,intV x.a,intV x.b,intV x.h]
abbrev _root_.Go.Pal.To.MA.val(x:MA):Value:=.agg (List.toArray [intV x.k,intV x.a,intV x.b,intV x.h])
def ActsAt(v:View)(a:Option Addr)(l:List MA):Prop:=RowAt v a (l.map MA.cells).flatten
theorem ActsAt.le{u v:View}{a:Option Addr}{l:List MA}(h:ActsAt u a l)(hl:u.Le v):ActsAt v a l:=RowAt.le h hl
theorem ActsAt.get{a:Option Addr}{l:List MA}(h:ActsAt v a l){i:Nat}(hi:i<l.length):∃b off p c e f,a=some ⟨b,off,none⟩∧v b=some (p,.cells c e f)∧∀j (hj:j<l.length),off+j*4+4≤c.size∧c.extract (off+j*4) (off+j*4+4)=l[j].cells.toArray:=by
 obtain⟨b,off,p,c,e,f,h1,h2,h3⟩:=RowAt.recs (k:=4) h (by simp [MA.cells]) dM (by simpa using hi)
 refine⟨b,off,p,c,e,f,h1,h2,fun j hj=>?_⟩
 have:=h3 j (by simpa using hj)
 simpa using this
abbrev moV(P:Int)(a:Option Addr)(n cap:Nat):Value:=.agg (List.toArray [intV P,.slice a n cap])
theorem A3g{n lo hi:Int}:Ret1 prog mn 81 [intV n,intV lo,intV hi] (.bool (decide (outZ n lo hi))) v:=by
 refine A0d tab func81 Y nB (args:=[_,_,_]) ?_
 refine su ?_
 refine Q_guard Y Y (fun h=>?_) (fun h=>?_)
 ·replace h:=fa h
  refine su ?_
  refine A0f tab [] (by exact .tmp rfl .nil) (Back.here cntL) ?_
  refine⟨?_,Y⟩
  simp [A3t,outZ,h]
 ·replace h:=fa h
  refine su ?_
  refine A0f tab [] (by exact .tmp rfl .nil) (Back.here cntL) ?_
  refine⟨?_,Y⟩
  simp [A3t,outZ,h]
theorem persons_x{k:Int}:Ret1 prog mn 84 [intV k] (intV (A4o k)) v:=by
 refine A0d tab func84 Y nB (args:=[_]) ?_
 refine su ?_
 by_cases h0:k=0
 ·subst h0
  refine su ?_
  refine A0f tab [] (by exact .tmp rfl .nil) (Back.here cntL) ?_
  exact⟨Y,Y⟩
 rw [show(k==0)=false from by simpa using h0]
 refine su ?_
 by_cases h2:k=2
 ·subst h2
  refine su ?_
  refine A0f tab [] (by exact .tmp rfl .nil) (Back.here cntL) ?_
  exact⟨Y,Y⟩
 rw [show(k==2)=false from by simpa using h2]
 refine su ?_
 by_cases h1:k=1
 ·subst h1
  refine su ?_
  refine A0f tab [] (by exact .tmp rfl .nil) (Back.here cntL) ?_
  exact⟨Y,Y⟩
 rw [show(k==1)=false from by simpa using h1]
 refine su ?_
 refine A0f tab [] (by exact .tmp rfl .nil) (Back.here cntL) ?_
 refine⟨?_,Y⟩
 unfold A4o
 rw [if_neg h1,if_neg (by rintro(h|h);exact h0 h;exact h2 h)]
 rfl
theorem morn_x{P:Int}{a:Option Addr}{cap:Nat}{d:List Int}(hd:RowAt v a (d.map intV))(hlen:d.length<2^30):Ret1 prog mn 32 [moV P a d.length cap] (intV (A4b P d)) v:=by
 refine A0d tab func32 Y nB (args:=[_]) ?_
 refine sw fun bx=>?_
 refine Q_op fun ho=>A0u ho bod81 Y Y Y Y Y A3g ?_
 clear ho
 by_cases h1:outZ P 1 4
 ·rw [show decide (outZ P 1 4)=true from decide_eq_true h1]
  refine su ?_
  refine A0f tab [] (by exact .tmp rfl .nil) (Back.here cntL) ?_
  exact⟨by unfold A4b;rw [if_pos h1];rfl,Y⟩
 rw [show decide (outZ P 1 4)=false from decide_eq_false h1]
 have hP:1≤P∧P≤4:=by unfold outZ at h1;omega
 refine su ?_
 by_cases h2:d.length=0
 ·rw [show((d.length:Int)==0)=true from by rw [h2];rfl]
  refine su ?_
  refine A0f tab [] (by exact .tmp rfl .nil) (Back.here cntL) ?_
  exact⟨by unfold A4b;rw [if_neg h1,if_pos h2];rfl,Y⟩
 rw [show((d.length:Int)==0)=false from by rw [beq_eq_false_iff_ne];omega]
 refine su ?_
 by_cases h3:d.length > 3
 ·rw [show decide ((d.length:Int) > 3)=true from decide_eq_true oM]
  refine su ?_
  refine A0f tab [] (by exact .tmp rfl .nil) (Back.here cntL) ?_
  exact⟨by unfold A4b;rw [if_neg h1,if_neg h2,if_pos h3];rfl,Y⟩
 rw [show decide ((d.length:Int) > 3)=false from decide_eq_false oM]
 refine su ?_
 have hcm:A4b P d=A5t P d:=by unfold A4b;rw [if_neg h1,if_neg h2,if_neg h3]
 rw [hcm]
 refine A1q (α:=Nat) (fun i=>⟨[],[(22,.int .i64 i),(21,.int .i64 d.length),(20,.slice a d.length cap),(1,.pointer (some ⟨bx,0,none⟩))],[(bx,List.toArray [intV P,.slice a d.length cap],26)]⟩)
  (fun i u=>u=v∧i≤d.length∧A5t P (d.drop i)=A5t P d) (fun i=>d.length-i) 0 ⟨Y,rg,cntL⟩ (Le.refl _) ⟨Y,Nat.zero_le _,Y⟩ ?_
 rintro i u ⟨rfl,hi,hr⟩
 refine su ?_
 refine A1i Y (fun h=>?_) (fun h=>?_)
 ·replace h:=fa h
  have hlt:i<d.length:=oM
  obtain⟨bb,off,p,c,e,f,rfl,hv,hc⟩:=hd.get hlt
  rw [List.drop_eq_getElem_cons hlt,show A5t P (d[i]::d.drop (i+1))=(if outZ d[i] 0 (P-1)then 3 else A5t P (d.drop (i+1)))from rfl]at hr
  refine su ?_
  refine A6d tab i Y Y Y Y Y Y Y hlt ?_
  refine A2b tab Y Y Y hv (A0l tab Y Y Y (by rw [Nat.mul_one];exact hc _ hlt)) ?_
  refine su ?_
  refine Q_op fun ho=>A0u ho bod81 Y Y Y Y Y A3g ?_
  clear ho
  by_cases h4:outZ d[i] 0 (P-1)
  ·rw [show decide (outZ d[i] 0 (P-1))=true from decide_eq_true h4]
   rw [if_pos h4]at hr
   refine su ?_
   refine A0f tab [] (by exact .tmp rfl .nil) (Back.here cntL) ?_
   exact⟨by rw [←hr];rfl,Y⟩
  ·rw [show decide (outZ d[i] 0 (P-1))=false from decide_eq_false h4]
   rw [if_neg h4]at hr
   refine su ?_
   exact A0b ⟨i+1,u,oM,⟨Y,rg,cntL⟩,Le.refl _,Y,hlt,hr⟩
 ·replace h:=fa h
  have hin:i=d.length:=oM
  rw [hin,List.drop_length]at hr
  refine su ?_
  refine A0f tab [] (by exact .tmp rfl .nil) (Back.here cntL) ?_
  exact⟨by rw [←hr];rfl,Y⟩
theorem checkAct_x{P:Int}{a:Option Addr}{n cap:Nat}{x:MA}(hP:1≤P∧P≤4)(hn:n<2^30):Ret1 prog mn 106 [moV P a n cap,x.val] (intV (A7a P n x)) v:=by
 obtain⟨k,xa,xb,xh⟩:=x
 refine A0d tab func106 Y nB (args:=[_,_]) ?_
 refine sw fun bx=>?_;refine sw fun bx=>?_
 refine Q_op fun ho=>A0u ho bod84 Y Y Y Y Y persons_x ?_
 clear ho
 unfold A7a
 dsimp only
 generalize A4o k=q
 refine su ?_
 by_cases h1:q<0
 ·rw [show decide (q<0)=true from decide_eq_true h1,if_pos h1]
  refine su ?_
  refine A0f tab [] (by exact .tmp rfl .nil) (Back.here cntL) ?_
  exact⟨Y,Y⟩
 rw [show decide (q<0)=false from decide_eq_false h1,if_neg h1]
 refine su ?_
 by_cases h2:q=0
 ·subst h2
  rw [if_neg (show ¬((0:Int) > 0∧(outZ xa 0 (P-1)∨outZ xb 0 (P-1)))from fun h=>absurd h.1 dM)]
  refine su ?_
  by_cases h4:xa=0
  ·subst h4
   refine su ?_
   by_cases h5:xb=0
   ·subst h5
    refine su ?_
    rw [if_neg (by rintro⟨-,h|h⟩<;>exact h Y)]
    refine Q_op fun ho=>A0u ho bod81 Y Y Y Y Y A3g ?_
    clear ho
    by_cases h6:outZ xh 0 ((n:Int)-1)
    ·rw [show decide (outZ xh 0 ((n:Int)-1))=true from decide_eq_true h6,if_pos h6]
     refine su ?_
     refine A0f tab [] (by exact .tmp rfl .nil) (Back.here cntL) ?_
     exact⟨Y,Y⟩
    rw [show decide (outZ xh 0 ((n:Int)-1))=false from decide_eq_false h6,if_neg h6]
    refine su ?_
    by_cases h7:k=0
    ·subst h7
     refine su ?_
     rw [if_pos ⟨Y,Y⟩]
     refine A0f tab [] (by exact .tmp rfl .nil) (Back.here cntL) ?_
     exact⟨Y,Y⟩
    ·rw [show(k==0)=false from by simpa using h7,if_neg (fun h=>h7 h.1)]
     refine su ?_
     refine A0f tab [] (by exact .tmp rfl .nil) (Back.here cntL) ?_
     exact⟨Y,Y⟩
   ·rw [show(xb != 0)=true from by simpa using h5,if_pos ⟨Y,.inr h5⟩]
    refine su ?_
    refine A0f tab [] (by exact .tmp rfl .nil) (Back.here cntL) ?_
    exact⟨Y,Y⟩
  ·rw [show(xa != 0)=true from by simpa using h4,if_pos ⟨Y,.inl h4⟩]
   refine su ?_
   refine A0f tab [] (by exact .tmp rfl .nil) (Back.here cntL) ?_
   exact⟨Y,Y⟩
 ·rw [show(q==0)=false from by simpa using h2,if_neg (fun h=>h2 h.1)]
  have h3:q > 0:=oM
  refine su ?_
  rw [show decide (q > 0)=true from decide_eq_true h3]
  refine su ?_
  refine Q_op fun ho=>A0u ho bod81 Y Y Y Y Y A3g ?_
  clear ho
  by_cases h4:outZ xa 0 (P-1)
  ·rw [show decide (outZ xa 0 (P-1))=true from decide_eq_true h4,if_pos ⟨h3,.inl h4⟩]
   refine su ?_
   refine A0f tab [] (by exact .tmp rfl .nil) (Back.here cntL) ?_
   exact⟨Y,Y⟩
  rw [show decide (outZ xa 0 (P-1))=false from decide_eq_false h4]
  refine su ?_
  refine Q_op fun ho=>A0u ho bod81 Y Y Y Y Y A3g ?_
  clear ho
  by_cases h5:outZ xb 0 (P-1)
  ·rw [show decide (outZ xb 0 (P-1))=true from decide_eq_true h5,if_pos ⟨h3,.inr h5⟩]
   refine su ?_
   refine A0f tab [] (by exact .tmp rfl .nil) (Back.here cntL) ?_
   exact⟨Y,Y⟩
  rw [show decide (outZ xb 0 (P-1))=false from decide_eq_false h5,if_neg (fun h=>h.2.elim h4 h5)]
  refine su ?_
  refine Q_op fun ho=>A0u ho bod81 Y Y Y Y Y A3g ?_
  clear ho
  by_cases h6:outZ xh 0 ((n:Int)-1)
  ·rw [show decide (outZ xh 0 ((n:Int)-1))=true from decide_eq_true h6,if_pos h6]
   refine su ?_
   refine A0f tab [] (by exact .tmp rfl .nil) (Back.here cntL) ?_
   exact⟨Y,Y⟩
  rw [show decide (outZ xh 0 ((n:Int)-1))=false from decide_eq_false h6,if_neg h6]
  refine su ?_
  by_cases h7:k=0
  ·subst h7
   refine su ?_
   by_cases h8:xa=xb
   ·rw [show(xa==xb)=true from by simpa using h8,if_pos ⟨Y,h8⟩]
    refine su ?_
    refine A0f tab [] (by exact .tmp rfl .nil) (Back.here cntL) ?_
    exact⟨Y,Y⟩
   ·rw [show(xa==xb)=false from by simpa using h8,if_neg (fun h=>h8 h.2)]
    refine su ?_
    refine A0f tab [] (by exact .tmp rfl .nil) (Back.here cntL) ?_
    exact⟨Y,Y⟩
  ·rw [show(k==0)=false from by simpa using h7,if_neg (fun h=>h7 h.1)]
   refine su ?_
   refine A0f tab [] (by exact .tmp rfl .nil) (Back.here cntL) ?_
   exact⟨Y,Y⟩
end
end Go.Proofs.YtclejblcnfaeaaaGreatDoor
end
section
namespace Go.Pal.To
open Go
def ow(os:List Int)(i:Nat):Int:=os[i]?.getD (-1)
def ownH(os:List Int)(h:Int):Int:=ow os h.toNat
def B1q(os:List Int)(x:MA):ByteArray:=
 if x.k=0 then(if sold os x then⟨#[111,107]⟩else⟨#[110,111]⟩)
 else if x.k=2 then(if ownH os x.h=x.b then⟨#[115,111]⟩else⟨#[110,111,116]⟩)
 else Utf8.encode (IntKind.i32.wrap (IntKind.i64.wrap (48+ownH os x.h)))
theorem sold_iff{os:List Int}{x:MA}(hh:0≤x.h∧x.h<os.length):sold os x=true↔x.k=0∧ownH os x.h=x.a:=by
 unfold sold ownH ow
 have:x.h.toNat<os.length:=oM
 simp [this]
theorem refd_iff{os:List Int}{x:MA}(hh:0≤x.h∧x.h<os.length):refd os x=true↔x.k=0∧ownH os x.h≠x.a:=by
 unfold refd ownH ow
 have:x.h.toNat<os.length:=oM
 simp [this]
theorem doN_len(os:List Int)(x:MA):(doN os x).length=os.length:=by unfold doN;split<;>simp
theorem A9w:∀(l:List MA) (os:List Int),(A3z os l).length=os.length
 | [],os=>rfl
 | x::l,os=>by
  show(A3z (doN os x) l).length=_
  rw [A9w l,doN_len]
theorem ow_set{os:List Int}{h:Nat}{b:Int}(hh:h<os.length)(i:Nat):ow (os.set h b) i=if i=h then b else ow os i:=by
 unfold ow
 rw [List.getElem?_set]
 by_cases e:i=h
 ·subst e;simp [hh]
 ·rw [if_neg (Ne.symm e),if_neg e]
end Go.Pal.To
end
section
namespace Go.Proofs.YtclejblcnfaeaaaGreatDoor
open Go Go.Pal Go.Pal.To Go.Conc View
open Go.Proofs.Tryz
set_option maxHeartbeats 4000000
set_option maxRecDepth 20000
section
variable{mn:Who}{v:View}
theorem saleOf_x{a b h:Int}:Ret1 prog mn 269 [.agg (List.toArray [intV a,intV b,intV h])] (intV h) v:=by
 refine A0d tab func269 Y nB (args:=[_]) ?_
 refine sw fun bx=>?_
 refine A0f tab [] (by exact .tmp rfl .nil) (Back.here cntL) ?_
 exact⟨Y,Y⟩
theorem claimOf_x{a b h:Int}:Ret1 prog mn 272 [.agg (List.toArray [intV a,intV b,intV h])] (intV h) v:=by
 refine A0d tab func272 Y nB (args:=[_]) ?_
 refine sw fun bx=>?_
 refine A0f tab [] (by exact .tmp rfl .nil) (Back.here cntL) ?_
 exact⟨Y,Y⟩
theorem askedOf_x{h:Int}:Ret1 prog mn 274 [.agg (List.toArray [intV h])] (intV h) v:=by
 refine A0d tab func274 Y nB (args:=[_]) ?_
 refine sw fun bx=>?_
 refine A0f tab [] (by exact .tmp rfl .nil) (Back.here cntL) ?_
 exact⟨Y,Y⟩
theorem meth203:methB prog 113 "palfrey/toll.of" 269=true:=by kernel_rfl
theorem meth168:methB prog 139 "palfrey/toll.of" 272=true:=by kernel_rfl
theorem meth207:methB prog 202 "palfrey/toll.of" 274=true:=by kernel_rfl
def _root_.Go.Pal.To.MA.deed(x:MA):Value:=
 if x.k=0 then .iface 113 (.agg (List.toArray [intV x.a,intV x.b,intV x.h]))else if x.k=2 then .iface 139 (.agg (List.toArray [intV x.a,intV x.b,intV x.h]))else .iface 202 (.agg (List.toArray [intV x.h]))
theorem deedOf_x{x:MA}(hk:x.k=0∨x.k=1∨x.k=2):Ret1 prog mn 60 [x.val] x.deed v:=by
 obtain⟨k,a,b,hn⟩:=x
 simp only at hk
 refine A0d tab func60 Y nB (args:=[_]) ?_
 rcases hk with rfl|rfl|rfl
 ·refine sw fun bx=>?_
  refine A0f tab [] (by exact .tmp rfl .nil) (Back.here cntL) ?_
  exact⟨Y,Y⟩
 ·refine sw fun bx=>?_
  refine A0f tab [] (by exact .tmp rfl .nil) (Back.here cntL) ?_
  exact⟨Y,Y⟩
 ·refine sw fun bx=>?_
  refine A0f tab [] (by exact .tmp rfl .nil) (Back.here cntL) ?_
  exact⟨Y,Y⟩
abbrev owC(x0 x1:Value)(os:List Int):Array Value:=List.toArray [x0,x1,intV (ow os 0),intV (ow os 1),intV (ow os 2)]
theorem owC_at{x0 x1:Value}{os:List Int}{h:Nat}(h3:h<3):(owC x0 x1 os)[2+h*1]?=some (intV (ow os h)):=by
 rcases (by omega:h=0∨h=1∨h=2)with rfl|rfl|rfl<;>rfl
theorem owC_set{x0 x1:Value}{os:List Int}{h:Nat}{b:Int}(hh:h<os.length)(h3:h<3):(putV (owC x0 x1 os).toList (2+h*1) [intV b]).toArray=owC x0 x1 (os.set h b):=by
 rcases (by omega:h=0∨h=1∨h=2)with rfl|rfl|rfl<;>simp [owC,putV,ow_set hh]
theorem do_x{x0 x1:Value}{os:List Int}{b:Nat}{t:TypeId}{x:MA}(hl:os.length≤3)(hk:x.k=0∨x.k=1∨x.k=2)(hh:0≤x.h∧x.h<os.length) :
  CallsB prog mn 59 #[.pointer (some ⟨b,2,none⟩),x.deed] (RetB fun r β'=>(∃e,r = .tuple #[.string (B1q os x),e]∧((refd os x=false∧e = .nilIface)∨(refd os x=true∧∃(tx:Unit) (vx:Int×Int×Int),e = .iface 115 (.agg (List.toArray [intV vx.1,intV vx.2.1,intV vx.2.2])))))∧β'=[(b,owC x0 x1 (doN os x),t)]) [(b,owC x0 x1 os,t)] v:=by
 have hs:=sold_iff (os:=os) (x:=x) hh
 have hr:=refd_iff (os:=os) (x:=x) hh
 obtain⟨k,xa,xb,xh⟩:=x
 simp only at hk hh
 obtain⟨h,rfl⟩:=Int.eq_ofNat_of_zero_le hh.1
 have hlt:h<os.length:=oM
 have h3:h<3:=oM
 have hown:ownH os (h:Int)=ow os h:=rfl
 simp only [hown]at hs hr
 refine A0d tab func59 Y nB (args:=[_,_]) ?_
 rcases hk with rfl|rfl|rfl
 ·refine su ?_
  refine A1d [2] [0,1,3,2,4,5,6] A1e Y kR ?_
  refine su ?_
  refine S_do kR (A_inv1 tab Y bod269 meth203 Y Y Y Y Y Y Y saleOf_x ⟨Le.refl _,kp,?_⟩)
  refine su ?_
  refine S_elemA tab h Y Y Y kR Y Y Y Y Y h3 ?_
  refine A1a tab Y Y Y kR Y ib (A0l tab Y Y Y (owC_at h3)) ?_
  refine sw fun bx=>?_
  by_cases ho:ow os h=xa
  ·have hsold:sold os ⟨0,xa,xb,h⟩=true:=hs.2 ⟨Y,ho⟩
   have hrefd:refd os ⟨0,xa,xb,h⟩=false:=by
    cases e:refd os ⟨0,xa,xb,h⟩with
    | false=>rfl
    | true=>exact absurd ho (hr.1 e).2
   rw [show(ow os h != xa)=false from by simpa using ho]
   refine su ?_
   refine A1d [7] [0,1,2,3,4,5,6,7] A1e Y kR ?_
   refine su ?_
   refine S_elemA tab h Y Y Y kR Y Y Y Y Y h3 ?_
   repeat (refine ss ?_)
   refine S_do kR (A2q tab Y Y Y Y Y Y Y ib (by apply Nat.ble_eq_true_of_le;show 2+h*1+1≤5;omega) sb ⟨Le.refl _,kp,?_⟩)
   refine su ?_
   refine A0f tab [(b,owC x0 x1 (os.set h xb),t)] (by exact .tmp rfl (.tmp rfl .nil)) (Back.here ?_) ?_
   ·rw [←owC_set hlt h3]
    exact fun p=>Nat.le_add_left _ _
   ·refine⟨⟨_,?_,.inl ⟨hrefd,Y⟩⟩,?_⟩
    ·unfold B1q;rw [if_pos rfl,if_pos hsold];rfl
    ·unfold doN;rw [if_pos hsold];rfl
  ·have hsold:sold os ⟨0,xa,xb,h⟩=false:=by
    cases e:sold os ⟨0,xa,xb,h⟩with
    | false=>rfl
    | true=>exact absurd (hs.1 e).2 ho
   have hrefd:refd os ⟨0,xa,xb,h⟩=true:=hr.2 ⟨Y,ho⟩
   rw [show(ow os h != xa)=true from by simpa using ho]
   refine su ?_
   refine A0f tab [(b,owC x0 x1 os,t)] (by exact .tmp rfl (.tmp rfl .nil)) (Back.here cntL) ?_
   have hrp:B1q os ⟨0,xa,xb,h⟩=⟨#[110,111]⟩:=by unfold B1q;rw [if_pos Y,if_neg (by simp [hsold])]
   rw [hrp]
   refine⟨⟨_,Y,.inr ⟨hrefd,(),(xa,xb,h),Y⟩⟩,?_⟩
   ·unfold doN;rw [if_neg (by simp [hsold])]
 ·have hsold:sold os ⟨1,xa,xb,h⟩=false:=rfl
  have hrefd:refd os ⟨1,xa,xb,h⟩=false:=rfl
  refine su ?_
  refine A1d [2] [0,1,3,2,4,5,6] A1e Y kR ?_
  refine su ?_
  refine S_do kR (A_inv1 tab Y bod274 meth207 Y Y Y Y Y Y Y askedOf_x ⟨Le.refl _,kp,?_⟩)
  refine su ?_
  refine S_elemA tab h Y Y Y kR Y Y Y Y Y h3 ?_
  refine A1a tab Y Y Y kR Y ib (A0l tab Y Y Y (owC_at h3)) ?_
  refine su ?_
  refine A0f tab [(b,owC x0 x1 os,t)] (by exact .tmp rfl (.tmp rfl .nil)) (Back.here cntL) ?_
  refine⟨⟨_,?_,.inl ⟨hrefd,Y⟩⟩,?_⟩
  ·unfold B1q;dsimp only;rw [if_neg dM,if_neg dM,hown];rfl
  ·unfold doN;rw [if_neg (by simp [hsold])]
 ·have hsold:sold os ⟨2,xa,xb,h⟩=false:=rfl
  have hrefd:refd os ⟨2,xa,xb,h⟩=false:=rfl
  refine su ?_
  refine A1d [2] [0,1,3,2,4,5,6] A1e Y kR ?_
  refine su ?_
  refine S_do kR (A_inv1 tab Y bod272 meth168 Y Y Y Y Y Y Y claimOf_x ⟨Le.refl _,kp,?_⟩)
  refine su ?_
  refine S_elemA tab h Y Y Y kR Y Y Y Y Y h3 ?_
  refine A1a tab Y Y Y kR Y ib (A0l tab Y Y Y (owC_at h3)) ?_
  refine sw fun bx=>?_
  by_cases ho:ow os h=xb
  ·rw [show(ow os h != xb)=false from by simpa using ho]
   refine su ?_
   refine A0f tab [(b,owC x0 x1 os,t)] (by exact .tmp rfl (.tmp rfl .nil)) (Back.here cntL) ?_
   refine⟨⟨_,?_,.inl ⟨hrefd,Y⟩⟩,?_⟩
   ·unfold B1q;dsimp only;rw [if_neg dM,if_pos rfl,hown,if_pos ho];rfl
   ·unfold doN;rw [if_neg (by simp [hsold])]
  ·rw [show(ow os h != xb)=true from by simpa using ho]
   refine su ?_
   refine A0f tab [(b,owC x0 x1 os,t)] (by exact .tmp rfl (.tmp rfl .nil)) (Back.here cntL) ?_
   refine⟨⟨_,?_,.inl ⟨hrefd,Y⟩⟩,?_⟩
   ·unfold B1q;dsimp only;rw [if_neg dM,if_pos rfl,hown,if_neg ho];rfl
   ·unfold doN;rw [if_neg (by simp [hsold])]
theorem open_x{P:Int}{a:Option Addr}{cap:Nat}{d:List Int}(hd:RowAt v a (d.map intV))(hlen:1≤d.length∧d.length≤3) :
  CallsB prog mn 58 #[moV P a d.length cap] (RetB fun r β'=>∃b,r = .pointer (some ⟨b,0,none⟩)∧β'=[(b,owC (intV P) (.slice a d.length cap) d,106)]) [] v:=by
 refine A0d tab func58 Y nB (args:=[_]) ?_
 refine sw fun bx=>?_;refine sw fun bx=>?_
 rename_i b1
 refine A1q (α:=Nat) (fun i=>⟨[],[(8,.int .i64 i),(3,.pointer (some ⟨bx,0,none⟩)),(2,.pointer none),(1,.pointer (some ⟨b1,0,none⟩))],[(bx,List.toArray [intV P,.slice a d.length cap,intV (if 0<i then -1 else 0),intV (if 1<i then -1 else 0),intV (if 2<i then -1 else 0)],106),(b1,List.toArray [intV P,.slice a d.length cap],26)]⟩)
  (fun i u=>u=v∧i≤3) (fun i=>3-i) 0 ⟨Y,rg,cntL⟩ (Le.refl _) ⟨Y,Nat.zero_le _⟩ ?_
 rintro i u ⟨rfl,hi⟩
 refine su ?_
 refine A1i Y (fun h=>?_) (fun h=>?_)
 ·replace h:=fa h
  rcases (by omega:i=0∨i=1∨i=2)with rfl|rfl|rfl
  ·refine su ?_
   refine Q_elemA tab 0 Y Y Y Y Y Y Y oM ?_
   refine su ?_
   exact A0b ⟨1,u,oM,⟨Y,rg,cntL⟩,Le.refl _,Y,oM⟩
  ·refine su ?_
   refine Q_elemA tab 1 Y Y Y Y Y Y Y oM ?_
   refine su ?_
   exact A0b ⟨2,u,oM,⟨Y,rg,cntL⟩,Le.refl _,Y,oM⟩
  ·refine su ?_
   refine Q_elemA tab 2 Y Y Y Y Y Y Y oM ?_
   refine su ?_
   exact A0b ⟨3,u,oM,⟨Y,rg,cntL⟩,Le.refl _,Y,oM⟩
 ·replace h:=fa h
  have:i=3:=oM
  subst this
  refine su ?_
  rcases d with _|⟨x,_|⟨y,_|⟨z,_|⟨w,l⟩⟩⟩⟩
  ·simp at hlen
  ·refine A1d [3,6] [0,1,2,4,5,3,6] A1e Y kR ?_
   refine su ?_
   refine S_do kR (B0c tab Y Y Y Y Y Y ⟨Le.refl _,kp,?_⟩)
   refine su ?_
   refine S_do kR (A_copy (xs:=[intV x]) tab Y Y Y Y Y Y Y (hd.le (A0g _ _)) Y Y nB ib nB sb ⟨Le.refl _,kp,?_⟩)
   refine su ?_
   refine A0f tab [(bx,owC (intV P) (.slice a 1 cap) [x],106)] (by exact .tmp rfl .nil) (Back.here fun p=>Nat.add_le_add_left (Nat.zero_le _) _) ?_
   exact⟨_,Y,Y⟩
  ·refine A1d [3,6] [0,1,2,4,5,3,6] A1e Y kR ?_
   refine su ?_
   refine S_do kR (B0c tab Y Y Y Y Y Y ⟨Le.refl _,kp,?_⟩)
   refine su ?_
   refine S_do kR (A_copy (xs:=[intV x,intV y]) tab Y Y Y Y Y Y Y (hd.le (A0g _ _)) Y Y nB ib nB sb ⟨Le.refl _,kp,?_⟩)
   refine su ?_
   refine A0f tab [(bx,owC (intV P) (.slice a 2 cap) [x,y],106)] (by exact .tmp rfl .nil) (Back.here fun p=>Nat.add_le_add_left (Nat.zero_le _) _) ?_
   exact⟨_,Y,Y⟩
  ·refine A1d [3,6] [0,1,2,4,5,3,6] A1e Y kR ?_
   refine su ?_
   refine S_do kR (B0c tab Y Y Y Y Y Y ⟨Le.refl _,kp,?_⟩)
   refine su ?_
   refine S_do kR (A_copy (xs:=[intV x,intV y,intV z]) tab Y Y Y Y Y Y Y (hd.le (A0g _ _)) Y Y nB ib nB sb ⟨Le.refl _,kp,?_⟩)
   refine su ?_
   refine A0f tab [(bx,owC (intV P) (.slice a 3 cap) [x,y,z],106)] (by exact .tmp rfl .nil) (Back.here fun p=>Nat.add_le_add_left (Nat.zero_le _) _) ?_
   exact⟨_,Y,Y⟩
  ·simp at hlen
theorem day_cell{x0 x1:Value}{os:List Int}(hl:os.length≤3):∀(i:Nat) (x:Value),(os.map intV)[i]?=some x→(owC x0 x1 os)[2+i]?=some x:=by
 intro i x h
 have hi:i<os.length:=by
  have:=(List.getElem?_eq_some_iff.1 h).1
  simpa using this
 have e:=owC_at (x0:=x0) (x1:=x1) (os:=os) (h:=i) oM
 rw [Nat.mul_one]at e
 rw [e,←h]
 simp [ow,hi]
theorem told_x{P:Int}{a:Option Addr}{n cap b:Nat}{os:List Int}(hn:os.length=n)(h3:n≤3) :
  CallsB prog mn 61 #[.pointer (some ⟨b,0,none⟩)] (RetB fun r β'=>∃a' cap' seg,r = .slice a' os.length cap'∧β'=seg++[(b,owC (intV P) (.slice a n cap) os,106)]∧OwnS 3 1 seg a' os.length cap' (os.map intV)) [(b,owC (intV P) (.slice a n cap) os,106)] v:=by
 refine A0d tab func61 Y nB (args:=[_]) ?_
 refine su ?_
 refine A1d [9,10] [0,1,2,3,4,5,6,7,8,9,10,11] A1e Y kR ?_
 refine su ?_
 refine S_do kR (A_sliceArr_h tab Y Y Y Y Y Y Y h3 ⟨Le.refl _,kp,?_⟩)
 refine su ?_
 refine S_do kR (A3x tab (xs:=os.map intV) [] [] [(b,owC (intV P) (.slice a n cap) os,106)] Y Y Y Y Y Y Y Y Y Y Y (fun _=>rfl) .nil
  (fun hb=>RowAt.box hb ib (by simp [owC];omega) (day_cell oM)) (by simp [hn]) (by simp [List.all_eq_true,intV,A2k]) (by show(2*(0+(n-0))+768)*8≤2^48;omega) oM (fun seg a' cap' hS=>⟨Le.refl _,kp,?_⟩))
 refine su ?_
 refine A0f tab (seg++[(b,owC (intV P) (.slice a n cap) os,106)]) (by exact .tmp rfl .nil) (Back.here fun p=>Nat.le_refl _) ?_
 have e:0+(n-0)=os.length:=oM
 change OwnS 3 1 seg a' (0+(n-0)) cap' ([]++List.map intV os)at hS
 rw [e]at hS
 refine⟨a',cap',seg,?_,Y,hS⟩
 show Value.slice a' (0+(n-0)) cap'=_
 rw [e]
end
section
variable{v:View}
theorem i64_eq{d:Nat}{x y:Int}{K:Bool→View→Prop}{E:Value→View→Prop}(h:K (x==y) v):SemX prog (Op.equalIn (d+1) 3 (.int .i64 x) (.int .i64 y)) K E v:=by
 unfold Op.equalIn
 rw [A0a,A1k tab (t:=3) rfl]
 simp only [if_true]
 exact h
theorem A3j{cs:Array Value}{off:Nat}{x:Value}{K:Value→View→Prop}{E:Value→View→Prop}(hx:cs[off]?=some x)(h:K x v):SemX prog (part 3 cs off) K E v:=by
 unfold part
 simp only [A0a]
 rw [sx_isAgg (tab.und_ok 3 _ Y)]
 simp only [aggOf,Bool.false_eq_true,if_false,hx]
 exact h
theorem act_eq{k a b x k' a' b' x':Int}{K:Bool→View→Prop}{E:Value→View→Prop}(h:K (decide (k=k'∧a=a'∧b=b'∧x=x')) v):SemX prog (Op.equal 40 (MA.val ⟨k,a,b,x⟩) (MA.val ⟨k',a',b',x'⟩)) K E v:=by
 have hs:prog.stoodInHeld 40=false:=by kernel_rfl
 show SemX prog (Op.equalIn (9998+1+1) 40 _ _) K E v
 unfold Op.equalIn
 rw [A0a,A1k tab (t:=40) rfl]
 simp only [A0a,A1s,hs,Bool.false_eq_true,if_false,List.forIn_toArray,List.forIn_cons,List.forIn_nil]
 rw [if_pos dM]
 simp only [A0a]
 refine A3j (x:=.int .i64 k) Y ?_
 refine A3j (x:=.int .i64 k') Y ?_
 refine i64_eq ?_
 by_cases h0:k=k'
 ·rw [show(k==k')=true from by simp [h0]]
  simp only [Bool.not_true,Bool.false_eq_true,if_false,A0h,A0a]
  rw [if_pos dM]
  simp only [A0a]
  refine A3j (x:=.int .i64 a) Y ?_
  refine A3j (x:=.int .i64 a') Y ?_
  refine i64_eq ?_
  by_cases h1:a=a'
  ·rw [show(a==a')=true from by simp [h1]]
   simp only [Bool.not_true,Bool.false_eq_true,if_false,A0h,A0a]
   rw [if_pos dM]
   simp only [A0a]
   refine A3j (x:=.int .i64 b) Y ?_
   refine A3j (x:=.int .i64 b') Y ?_
   refine i64_eq ?_
   by_cases h2:b=b'
   ·rw [show(b==b')=true from by simp [h2]]
    simp only [Bool.not_true,Bool.false_eq_true,if_false,A0h,A0a]
    rw [if_pos dM]
    simp only [A0a]
    refine A3j (x:=.int .i64 x) Y ?_
    refine A3j (x:=.int .i64 x') Y ?_
    refine i64_eq ?_
    by_cases h3:x=x'
    ·rw [show(x==x')=true from by simp [h3]]
     rw [show decide (k=k'∧a=a'∧b=b'∧x=x')=true from decide_eq_true ⟨h0,h1,h2,h3⟩]at h
     exact h
    ·rw [show(x==x')=false from by simp [h3]]
     rw [show decide (k=k'∧a=a'∧b=b'∧x=x')=false from decide_eq_false fun e=>h3 e.2.2.2]at h
     exact h
   ·rw [show(b==b')=false from by simp [h2]]
    rw [show decide (k=k'∧a=a'∧b=b'∧x=x')=false from decide_eq_false fun e=>h2 e.2.2.1]at h
    exact h
  ·rw [show(a==a')=false from by simp [h1]]
   rw [show decide (k=k'∧a=a'∧b=b'∧x=x')=false from decide_eq_false fun e=>h1 e.2.1]at h
   exact h
 ·rw [show(k==k')=false from by simp [h0]]
  rw [show decide (k=k'∧a=a'∧b=b'∧x=x')=false from decide_eq_false fun e=>h0 e.1]at h
  exact h
theorem place_eq{a b a' b':Int}{K:Bool→View→Prop}{E:Value→View→Prop}(h:K (decide (a=a'∧b=b')) v):SemX prog (Op.equal 249 (.agg (List.toArray [intV a,intV b])) (.agg (List.toArray [intV a',intV b']))) K E v:=by
 have hs:prog.stoodInHeld 249=false:=by kernel_rfl
 show SemX prog (Op.equalIn (9998+1+1) 249 _ _) K E v
 unfold Op.equalIn
 rw [A0a,A1k tab (t:=249) rfl]
 simp only [A0a,A1s,hs,Bool.false_eq_true,if_false,List.forIn_toArray,List.forIn_cons,List.forIn_nil]
 rw [if_pos dM]
 simp only [A0a]
 refine A3j (x:=.int .i64 a) Y ?_
 refine A3j (x:=.int .i64 a') Y ?_
 refine i64_eq ?_
 by_cases h0:a=a'
 ·rw [show(a==a')=true from by simp [h0]]
  simp only [Bool.not_true,Bool.false_eq_true,if_false,A0h,A0a]
  rw [if_pos dM]
  simp only [A0a]
  refine A3j (x:=.int .i64 b) Y ?_
  refine A3j (x:=.int .i64 b') Y ?_
  refine i64_eq ?_
  by_cases h1:b=b'
  ·rw [show(b==b')=true from by simp [h1]]
   rw [show decide (a=a'∧b=b')=true from decide_eq_true ⟨h0,h1⟩]at h
   exact h
  ·rw [show(b==b')=false from by simp [h1]]
   rw [show decide (a=a'∧b=b')=false from decide_eq_false fun e=>h1 e.2]at h
   exact h
 ·rw [show(a==a')=false from by simp [h0]]
  rw [show decide (a=a'∧b=b')=false from decide_eq_false fun e=>h0 e.1]at h
  exact h
end
section
variable{mn:Who}{rd:Option Nat}{n:Nat}{Q:Exit→St→View→Prop}{ds:List Deferred}{ρ:Regs}{β:A0e}{v:View}{K:St→View→Prop}
 {ops:Array Oper}{i:Nat}{l:List Oper}{d:Nat}{ty:TypeId}{pos:String}{af:Array Edge}{gu:Option (Nat×Bool)}
theorem sx_eqlA{ev:Operand→Value}{y z:Operand}{t2:TypeId}{a b:MA}(hy:ev y=a.val)(hz:ev z=b.val){K:Next→View→Prop}{E:Value→View→Prop}{w:View}(h:K (.value (.bool (decide (a=b)))) w):SemX prog (execOp ev ⟨some d,.binOp .eql 40 y z t2,ty,pos,af,gu⟩) K E w:=by
 have hg:prog.eqGuardType prog.depth 40=false:=by kernel_rfl
 simp only [execOp,A0a,hy,hz,eqGuard,binOp,A1s,hg]
 simp only [Bool.not_true,Bool.false_eq_true,if_false,A0a]
 rw [A1s,A1s,hg]
 simp only [Bool.not_true,Bool.not_false,Bool.false_eq_true,if_false,if_true,A0h,A0a]
 obtain⟨k,a,b',x⟩:=a
 obtain⟨k',a',b'',x'⟩:=b
 refine act_eq ?_
 rw [show decide (k=k'∧a=a'∧b'=b''∧x=x')=decide ((⟨k,a,b',x⟩:MA)=⟨k',a',b'',x'⟩)from by simp]
 exact h
theorem L_eqlA{y z:Operand}{t2:TypeId}{a b:MA}(hw:A0p ops gu ρ=some true)(hn:Nat.blt d n=true)(hy:ρ.val y=some a.val)(hz:ρ.val z=some b.val)
  (h:XL prog mn n ops Q l ⟨ds,(d,.bool (decide (a=b)))::ρ,β⟩ v):XL prog mn n ops Q (⟨some d,.binOp .eql 40 y z t2,ty,pos,af,gu⟩::l) ⟨ds,ρ,β⟩ v:=
 A4e (o:=⟨some d,.binOp .eql 40 y z t2,ty,pos,af,gu⟩) (A0j hw) hn (fun _ hev _ _ _=>sx_eqlA (hev _ _ hy) (hev _ _ hz) ⟨Le.refl _,rfl⟩) h
end
end Go.Proofs.YtclejblcnfaeaaaGreatDoor
end
section
namespace Go.Pal.To
def mayG(g:List Int)(n m:Nat):Bool:=match g[n]? with
 | some x=>x==(m:Int)
 | none=>true
def A6s(g:List Int):Nat→List MA→List MA→Wy→List Wy
 | 0,_,_,w=>[w]
 | n+1,a,b,w=>if a=[]∧b=[]then [w]else
  (if mayG g w.marks.length 0 then A2j (A6s g n) a b w 0 else [])++(if mayG g w.marks.length 1 then A2j (A6s g n) a b w 1 else [])++(if mayG g w.marks.length 2 then A2j (A6s g n) a b w 2 else [])
def A3e(g:List Int)(a b:List MA)(w:Wy):List Wy:=A6s g (a.length+b.length) a b w
def A3d(g:List Int)(a b:List MA)(w:Wy)(m:Nat):List Wy:=if mayG g w.marks.length m then A2j (A3e g) a b w m else []
theorem A8a{g:List Int}:∀{n:Nat} {a b:List MA} {w:Wy},a.length+b.length≤n→A6s g n a b w=A3e g a b w
 | 0,a,b,w,h=>by
  unfold A3e
  have e:a.length+b.length=0:=oM
  rw [e]
 | n+1,a,b,w,h=>by
  unfold A3e
  by_cases e0:a=[]∧b=[]
  ·obtain⟨rfl,rfl⟩:=e0
   simp [A6s]
  ·obtain⟨m,hm⟩:∃m,a.length+b.length=m+1:=by
    refine⟨a.length+b.length-1,?_⟩
    have:a.length≠0∨b.length≠0:=by
     rcases a with _|⟨x,a⟩
     ·rcases b with _|⟨y,b⟩
      ·exact absurd ⟨Y,Y⟩ e0
      ·right;simp
     ·left;simp
    omega
   rw [hm]
   simp only [A6s,if_neg e0]
   have key:∀k,A2j (A6s g n) a b w k=A2j (A6s g m) a b w k:=fun k=>A6f fun a' b' w' h'=>by
    rw [A8a (n:=n) oM,A8a (n:=m) oM]
   rw [key,key,key]
theorem waysG_eq{g:List Int}{a b:List MA}{w:Wy}(h:¬(a=[]∧b=[])):A3e g a b w=A3d g a b w 0++A3d g a b w 1++A3d g a b w 2:=by
 rw [←A8a (n:=a.length+b.length+1) (Nat.le_succ _)]
 simp only [A6s,if_neg h]
 have key:∀k,A2j (A6s g (a.length+b.length)) a b w k=A2j (A3e g) a b w k:=fun k=>A6f fun a' b' w' h'=>A8a oM
 rw [key,key,key]
 rfl
theorem A9e{g:List Int}:∀{n:Nat} {a b:List MA} {w:Wy},a.length+b.length≤n→g.length≤w.marks.length→A3e g a b w=ways a b w
 | n,a,b,w,h,hg=>by
  by_cases e:a=[]∧b=[]
  ·obtain⟨rfl,rfl⟩:=e;rfl
  ·cases n with
   | zero=>
    exfalso
    apply e
    exact⟨List.length_eq_zero_iff.1 oM,List.length_eq_zero_iff.1 oM⟩
   | succ n=>
    rw [waysG_eq e,A9c e]
    have hm:∀m,mayG g w.marks.length m=true:=fun m=>by
     unfold mayG
     rw [List.getElem?_eq_none hg]
    have key:∀m,A3d g a b w m=A2j ways a b w m:=fun m=>by
     unfold A3d
     rw [if_pos (hm m)]
     unfold A2j
     cases es:A4g a b m with
     | none=>rfl
     | some t=>
      obtain⟨x,a',b'⟩:=t
      simp only
      split
      ·rfl
      ·have hl:=A4u es
       exact A9e (n:=n) oM (by simp only [Wy.add,List.length_append];omega)
    rw [key,key,key]
theorem waysG_none(a b:List MA)(w:Wy):A3e [] a b w=ways a b w:=A9e (Nat.le_refl _) (Nat.zero_le _)
theorem B1g{m:Nat}(hm:m<3){a b:List MA}{os:List Int}(h:¬(a=[]∧b=[])):A3e [(m:Int)] a b ⟨[],[],os⟩=A2j ways a b ⟨[],[],os⟩ m:=by
 rw [waysG_eq h]
 have hy:A3d [(m:Int)] a b ⟨[],[],os⟩ m=A2j ways a b ⟨[],[],os⟩ m:=by
  unfold A3d
  have:mayG [(m:Int)] ([]:List Int).length m=true:=by simp [mayG]
  rw [if_pos this]
  unfold A2j
  cases es:A4g a b m with
  | none=>rfl
  | some t=>
   obtain⟨x,a',b'⟩:=t
   simp only
   split
   ·rfl
   ·exact A9e (Nat.le_refl _) (by simp [Wy.add])
 have hn:∀k,k≠m→A3d [(m:Int)] a b ⟨[],[],os⟩ k=[]:=fun k hk=>by
  unfold A3d
  have:mayG [(m:Int)] ([]:List Int).length k=false:=by simp [mayG];omega
  rw [if_neg (fun e=>by rw [show(⟨[],[],os⟩:Wy).marks.length=([]:List Int).length from Y,this]at e;cases e)]
 rcases (by omega:m=0∨m=1∨m=2)with rfl|rfl|rfl
 ·rw [hy,hn 1 dM,hn 2 dM];simp
 ·rw [hy,hn 0 dM,hn 2 dM];simp
 ·rw [hy,hn 0 dM,hn 1 dM];simp
theorem ways_three{a b:List MA}{os:List Int}(h:¬(a=[]∧b=[])):ways a b ⟨[],[],os⟩=A3e [((0:Nat):Int)] a b ⟨[],[],os⟩++A3e [((1:Nat):Int)] a b ⟨[],[],os⟩++A3e [((2:Nat):Int)] a b ⟨[],[],os⟩:=by
 rw [B1g dM h,B1g dM h,B1g dM h]
 exact A9c h
def endB(t:Bool)(l:List Wy):Bool:=t||l.isEmpty
def endS(t:Bool)(l s:List Wy):List Wy:=if t then s else match l with | []=>s|_::r=>r++s
theorem end_true(l s:List Wy):endB true l=true∧endS true l s=s:=⟨Y,Y⟩
theorem end_nil(t:Bool)(s:List Wy):endB t []=true∧endS t [] s=s:=by cases t<;>exact⟨Y,Y⟩
theorem end_go{t:Bool}{l m s:List Wy}(h:endB t l=true):endB t (l++m)=endB t m∧endS t (l++m) s=endS t m s∧endS t l (m++s)=m++s:=by
 cases t with
 | true=>exact⟨rfl,rfl,rfl⟩
 | false=>
  cases l with
  | nil=>exact⟨rfl,rfl,rfl⟩
  | cons x l=>cases h
theorem end_stop{t:Bool}{l m s:List Wy}(h:endB t l=false):endB t (l++m)=false∧endS t (l++m) s=endS t l (m++s):=by
 cases t with
 | true=>cases h
 | false=>
  cases l with
  | nil=>cases h
  | cons x l=>exact⟨rfl,by simp [endS]⟩
end Go.Pal.To
end
section
namespace Go.Proofs.YtclejblcnfaeaaaGreatDoor
open Go Go.Pal Go.Pal.To Go.Conc View
open Go.Proofs.Tryz
set_option maxHeartbeats 4000000
set_option maxRecDepth 20000
section
variable{mn:Who}{v:View}
abbrev dkV(bd:Nat)(aA:Option Addr)(nA cA:Nat)(aB:Option Addr)(nB cB:Nat):Value:=.agg (List.toArray [.pointer (some ⟨bd,0,none⟩),.slice aA nA cA,.slice aB nB cB])
abbrev plV(i k:Nat):Value:=.agg (List.toArray [natV i,natV k])
def nxI(i m:Nat):Nat:=if m=2 then i else i+1
def nxK(k m:Nat):Nat:=if m=1 then k else k+1
def A9j(a b:List MA)(i k m:Nat):Value:=match A4g (a.drop i) (b.drop k) m with
 | some (x,_,_)=>.tuple (List.toArray [x.val,plV (nxI i m) (nxK k m),.bool true])
 | none=>.tuple (List.toArray [MA.val ⟨0,0,0,0⟩,plV i k,.bool false])
theorem step_x{bd:Nat}{aA aB:Option Addr}{cA cB:Nat}{a b:List MA}{i k m:Nat}(ha:ActsAt v aA a)(hb:ActsAt v aB b)(hla:a.length<2^30)(hlb:b.length<2^30)(hi:i≤a.length)(hk:k≤b.length)(hm:m<3) :
  Ret1 prog mn 144 [dkV bd aA a.length cA aB b.length cB,plV i k,natV m] (A9j a b i k m) v:=by
 refine A0d tab func144 Y nB (args:=[_,_,_]) ?_
 refine sw fun bx=>?_;refine sw fun bx=>?_;refine sw fun bx=>?_;refine sw fun bx=>?_
 rcases (by omega:m=0∨m=1∨m=2)with rfl|rfl|rfl
 ·refine su ?_
  by_cases h1:i<a.length
  ·rw [show decide ((i:Int)<(a.length:Int))=true from decide_eq_true oM]
   by_cases h2:k<b.length
   ·rw [show decide ((k:Int)<(b.length:Int))=true from decide_eq_true oM]
    obtain⟨bb,off,p,c,e,f,rfl,hv,hc⟩:=ha.get h1
    obtain⟨bb',off',p',c',e',f',rfl,hv',hc'⟩:=hb.get h2
    refine su ?_
    refine A1m tab i Y Y Y Y Y Y Y h1 ?_
    refine A4l tab Y Y Y hv (A1g tab Y Y Y (hc i h1)) ?_
    refine su ?_
    refine A1m tab k Y Y Y Y Y Y Y h2 ?_
    refine A4l tab Y Y Y hv' (A1g tab Y Y Y (hc' k h2)) ?_
    refine su ?_
    refine L_eqlA (a:=a[i]) (b:=b[k]) Y Y Y Y ?_
    by_cases he:a[i]=b[k]
    ·rw [show decide (a[i]=b[k])=true from decide_eq_true he]
     have hst:A4g (a.drop i) (b.drop k) 0=some (a[i],a.drop (i+1),b.drop (k+1)):=by
      rw [List.drop_eq_getElem_cons h1,List.drop_eq_getElem_cons h2]
      unfold A4g
      simp only
      rw [if_pos he]
     refine su ?_
     refine A1d [13,14] [0,1,2,3,4,5,6,7,8,9,10,11,12,13,14,15] A1e Y kR ?_
     refine su ?_
     refine A0s tab i Y Y Y kR Y Y Y Y Y h1 ?_
     refine A8v tab Y Y Y kR Y hv (A1g tab Y Y Y (hc i h1)) ?_
     refine su ?_
     refine A0f tab [] (by exact .cell rfl ib rfl (.cell rfl ib rfl (.tmp rfl .nil))) (Back.here cntL) ?_
     refine⟨?_,Y⟩
     unfold A9j
     rw [hst]
     rfl
    ·rw [show decide (a[i]=b[k])=false from decide_eq_false he]
     have hst:A4g (a.drop i) (b.drop k) 0=none:=by
      rw [List.drop_eq_getElem_cons h1,List.drop_eq_getElem_cons h2]
      unfold A4g
      simp only
      rw [if_neg he]
     refine su ?_
     refine A1d [2,3] [0,1,2,3,4] A1e Y kR ?_
     refine su ?_
     refine A0f tab [] (by exact .cell rfl ib rfl (.cell rfl ib rfl (.tmp rfl .nil))) (Back.here cntL) ?_
     refine⟨?_,Y⟩
     unfold A9j
     rw [hst]
     rfl
   ·rw [show decide ((k:Int)<(b.length:Int))=false from decide_eq_false oM]
    have hst:A4g (a.drop i) (b.drop k) 0=none:=by
     rw [List.drop_eq_getElem_cons h1,show b.drop k=[]from List.drop_eq_nil_of_le oM];rfl
    refine su ?_
    refine A1d [2,3] [0,1,2,3,4] A1e Y kR ?_
    refine su ?_
    refine A0f tab [] (by exact .cell rfl ib rfl (.cell rfl ib rfl (.tmp rfl .nil))) (Back.here cntL) ?_
    refine⟨?_,Y⟩
    unfold A9j
    rw [hst]
    rfl
  ·rw [show decide ((i:Int)<(a.length:Int))=false from decide_eq_false oM]
   have hst:A4g (a.drop i) (b.drop k) 0=none:=by
    rw [show a.drop i=[]from List.drop_eq_nil_of_le oM];rfl
   refine su ?_
   refine A1d [2,3] [0,1,2,3,4] A1e Y kR ?_
   refine su ?_
   refine A0f tab [] (by exact .cell rfl ib rfl (.cell rfl ib rfl (.tmp rfl .nil))) (Back.here cntL) ?_
   refine⟨?_,Y⟩
   unfold A9j
   rw [hst]
   rfl
 ·refine su ?_
  by_cases h:i<a.length
  ·obtain⟨bb,off,p,c,e,f,rfl,hv,hc⟩:=ha.get h
   have hst:A4g (a.drop i) (b.drop k) 1=some (a[i],a.drop (i+1),b.drop k):=by
    rw [List.drop_eq_getElem_cons h];rfl
   rw [show decide ((i:Int)<(a.length:Int))=true from decide_eq_true oM]
   refine su ?_
   refine A1d [12,13] [0,1,2,3,4,5,6,7,8,9,10,11,12,13,14] A1e Y kR ?_
   refine su ?_
   refine A0s tab i Y Y Y kR Y Y Y Y Y h ?_
   refine A8v tab Y Y Y kR Y hv (A1g tab Y Y Y (hc i h)) ?_
   refine su ?_
   refine A0f tab [] (by exact .cell rfl ib rfl (.cell rfl ib rfl (.tmp rfl .nil))) (Back.here cntL) ?_
   refine⟨?_,Y⟩
   unfold A9j
   rw [hst]
   rfl
  ·have hst:A4g (a.drop i) (b.drop k) 1=none:=by
    rw [show a.drop i=[]from List.drop_eq_nil_of_le oM];first|rfl|(cases b.drop k<;>rfl)|(cases a.drop i<;>rfl)
   rw [show decide ((i:Int)<(a.length:Int))=false from decide_eq_false oM]
   refine su ?_
   refine A1d [2,3] [0,1,2,3,4] A1e Y kR ?_
   refine su ?_
   refine A0f tab [] (by exact .cell rfl ib rfl (.cell rfl ib rfl (.tmp rfl .nil))) (Back.here cntL) ?_
   refine⟨?_,Y⟩
   unfold A9j
   rw [hst]
   rfl
 ·refine su ?_
  by_cases h:k<b.length
  ·obtain⟨bb,off,p,c,e,f,rfl,hv,hc⟩:=hb.get h
   have hst:A4g (a.drop i) (b.drop k) 2=some (b[k],a.drop i,b.drop (k+1)):=by
    rw [List.drop_eq_getElem_cons h];rfl
   rw [show decide ((k:Int)<(b.length:Int))=true from decide_eq_true oM]
   refine su ?_
   refine A1d [12,13] [0,1,2,3,4,5,6,7,8,9,10,11,12,13,14] A1e Y kR ?_
   refine su ?_
   refine A0s tab k Y Y Y kR Y Y Y Y Y h ?_
   refine A8v tab Y Y Y kR Y hv (A1g tab Y Y Y (hc k h)) ?_
   refine su ?_
   refine A0f tab [] (by exact .cell rfl ib rfl (.cell rfl ib rfl (.tmp rfl .nil))) (Back.here cntL) ?_
   refine⟨?_,Y⟩
   unfold A9j
   rw [hst]
   rfl
  ·have hst:A4g (a.drop i) (b.drop k) 2=none:=by
    rw [show b.drop k=[]from List.drop_eq_nil_of_le oM];first|rfl|(cases b.drop k<;>rfl)|(cases a.drop i<;>rfl)
   rw [show decide ((k:Int)<(b.length:Int))=false from decide_eq_false oM]
   refine su ?_
   refine A1d [2,3] [0,1,2,3,4] A1e Y kR ?_
   refine su ?_
   refine A0f tab [] (by exact .cell rfl ib rfl (.cell rfl ib rfl (.tmp rfl .nil))) (Back.here cntL) ?_
   refine⟨?_,Y⟩
   unfold A9j
   rw [hst]
   rfl
end
end Go.Proofs.YtclejblcnfaeaaaGreatDoor
end
section
namespace Go.Pal
open Go Go.Conc View
section
variable{P:Program}{mn:Who}{rd:Option Nat}{n:Nat}{Q:Exit→St→View→Prop}{ds:List Deferred}{ρ:Regs}{β:A0e}{v:View}
 {ops:Array Oper}{i:Nat}{S:List Rec}{done done':List Nat}{ms:List Nat}{v0:View}{todo todo':List Nat}
def manyB(ops:Array Oper)(ms done js:List Nat):Bool:=!(Region.ready .any ops (mkL ops done)).isEmpty&&(Region.ready .any ops (mkL ops done)).all (fun j=>js.contains j)&&js.all (fun j=>ms.contains j)
def AllL(f:Nat→Prop):List Nat→Prop
 | []=>True
 | j::r=>f j∧AllL f r
theorem AllL.at{f:Nat→Prop}:∀{js:List Nat},AllL f js→∀{j:Nat},j∈js→f j
 | x::r,h,j,hj=>by
  rcases List.mem_cons.1 hj with rfl|hj
  ·exact h.1
  ·exact h.2.at hj
theorem S_many(js:List Nat)(hB:manyB ops ms done js=true)(h:AllL (fun j=>XOp P mn (some 4294967295) n ops j (fun _ _ _=>False) (fun σ' u=>v.Le u∧KeepS ops j S σ'.β∧XS P mn n ops ms v0 Q todo S (j::done) σ' u) ⟨ds,ρ,β⟩ v) js):XS P mn n ops ms v0 Q (i::todo) S done ⟨ds,ρ,β⟩ v:=fun a hf hb hv hc=>by
 simp only [manyB,Bool.and_eq_true]at hB
 obtain⟨⟨hb1,hb2⟩,hb3⟩:=hB
 show AnyS P mn ops ms v0 (fun a u=>Post n Q .normal a u) (todo.length+1) (SV S) (mkL ops done) a (v.union (A0c β))
 refine⟨fun e=>(by rw [e]at hb1;cases hb1),fun j hj=>?_⟩
 have hr:=hj
 have hjs:j∈js:=by simpa using List.all_eq_true.1 hb2 j hj
 have h3:ms.contains j=true:=List.all_eq_true.1 hb3 j hjs
 have h:=h.at hjs
 obtain⟨o,ho,hw,hd,hs⟩:=h a hf hb
 unfold OpS
 simp only [ho,hw,if_true]
 have key:∀{a' w},KP n (fun σ' u=>v.Le u∧KeepS ops j S σ'.β∧XS P mn n ops ms v0 Q todo S (j::done) σ' u) a' w→Keeps ops ms v0 (SV S) j (v.union (A0c β)) w∧AnyS P mn ops ms v0 (fun a u=>Post n Q .normal a u) todo.length (SV S) ((mkL ops done).setIfInBounds j true) a' w:=by
  rintro a' w ⟨σ',u,⟨hl,hk,hx⟩,hf',hb',hw'⟩
  refine⟨?_,?_⟩
  ·unfold Keeps
   rw [if_pos h3]
   refine⟨((hv.trans hl).trans (A0g _ _)).trans hw',fun p hp hdp=>?_⟩
   obtain⟨b,c,t,he,hin⟩:=A9t hk p hp hdp
   rw [he]
   intro j' x e
   simp only [A0c]at e
   split at e
   ·rename_i hj';subst hj';cases e;exact hw' _ _ (A0q hb' hin)
   ·cases e
  ·exact A5b (K:=fun a u=>Post n Q .normal a u) (fun a u v hl hp=>post_le hl hp) _ _ _ _ _ _ hw' (hx _ hf' hb' (hv.trans hl) (A4q hc hr A8m))
 refine A1y _ (fun nx w hK=>?_) (fun x w hE=>?_) hs
 ·cases nx with
  | value x=>exact key hK
  | skip=>exact key hK
  | defer d=>exact absurd hK.1 sM
  | enter f args=>exact CallsX.mono hK fun e w' hR=>⟨w',Le.refl _,by
    cases e with
    | ret x=>exact key hR
    | pan ch=>obtain⟨_,_,hq,_⟩:=hR;exact hq⟩
  | round l f tmps assign body=>exact absurd rfl hK.1
  | _=>exact hK.elim
 ·obtain⟨_,_,hq,_⟩:=hE;exact hq
end
end Go.Pal
end
