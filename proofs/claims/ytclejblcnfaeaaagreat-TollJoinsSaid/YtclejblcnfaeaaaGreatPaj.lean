/- Part 10. -/
import Derived.Test.YtclejblcnfaeaaaGreatPai
set_option linter.all false
section
namespace Go.Proofs.YtclejblcnfaeaaaGreat
open Go Go.Pal Go.Conc View
set_option maxHeartbeats 4000000
structure Hold(q:Prop):Prop where h:q
theorem cs{p q:Prop}(h:q)(k:Hold q→p:=by(intro h;(first|((with_reducible apply Q_add tab);(focus (exact Y));(focus (exact Y));(focus (exact Y));(focus (exact Y));(focus (omega));(focus (omega)))|((with_reducible apply Q_sub tab);(focus (exact Y));(focus (exact Y));(focus (exact Y));(focus (exact Y));(focus (omega));(focus (omega)))|((with_reducible apply Q_loadN tab);(focus (exact Y));(focus (exact Y));(focus (exact Y));(focus (((repeat (first|exact InB.head|apply InB.tail|(with_reducible apply InB.app)|(with_reducible apply InB.appA)));done)));(focus (exact Y)))|((with_reducible apply Q_store tab);(focus (exact Y));(focus (exact Y));(focus (exact Y));(focus (exact Y));(focus (exact Y));(focus (exact Y));(focus (((repeat (first|exact InB.head|apply InB.tail|(with_reducible apply InB.app)|(with_reducible apply InB.appA)));done)));(focus (exact Y));(focus (((repeat (first|exact SetB.head|apply SetB.tail|(with_reducible apply SetB.app)|(with_reducible apply SetB.appA)));done))))|((with_reducible apply B3n tab);(focus (exact Y));(focus (exact Y));(focus (exact Y)))|(with_reducible apply Q_nil)|((with_reducible apply Q_skip);(focus (exact Y));(focus (exact Y)))|(with_reducible apply A3z)|(with_reducible apply A4q)|(with_reducible apply C_block)|(with_reducible apply A6a)|(with_reducible apply XC_ret)|(with_reducible apply A9t)|(with_reducible apply Seq_ret)|(with_reducible apply B1y)|(with_reducible apply B3m)|(with_reducible apply A9q)|(with_reducible apply A7q)|(with_reducible apply B3l)|(with_reducible apply XC_label)|(with_reducible apply XC_scope)|(with_reducible apply A8e)|((with_reducible apply A6o);(focus (exact Y)))|((with_reducible apply B1z);(focus (exact Y)))|((with_reducible apply A5x);(focus (exact Y)))|((with_reducible apply A4x);(focus (exact Y)))|((with_reducible apply C_lex' A1f);(focus (exact Y));(focus (kernel_rfl)))|((with_reducible apply L_add tab);(focus (exact Y));(focus (exact Y));(focus (exact Y));(focus (exact Y));(focus (omega));(focus (omega)))|((with_reducible apply L_sub tab);(focus (exact Y));(focus (exact Y));(focus (exact Y));(focus (exact Y));(focus (omega));(focus (omega)))|((with_reducible apply L_pure tab);(focus (exact Y));(focus (exact Y));(focus (exact Y)))|(with_reducible apply XL_nil)|((with_reducible apply L_loadN tab);(focus (exact Y));(focus (exact Y));(focus (exact Y));(focus (((repeat (first|exact InB.head|apply InB.tail|(with_reducible apply InB.app)|(with_reducible apply InB.appA)));done)));(focus (exact Y)))|((with_reducible apply L_skip);(focus (exact Y));(focus (exact Y))));(repeat (first|((with_reducible apply Q_add tab);(focus (exact Y));(focus (exact Y));(focus (exact Y));(focus (exact Y));(focus (omega));(focus (omega)))|((with_reducible apply Q_sub tab);(focus (exact Y));(focus (exact Y));(focus (exact Y));(focus (exact Y));(focus (omega));(focus (omega)))|((with_reducible apply Q_loadN tab);(focus (exact Y));(focus (exact Y));(focus (exact Y));(focus (((repeat (first|exact InB.head|apply InB.tail|(with_reducible apply InB.app)|(with_reducible apply InB.appA)));done)));(focus (exact Y)))|((with_reducible apply Q_store tab);(focus (exact Y));(focus (exact Y));(focus (exact Y));(focus (exact Y));(focus (exact Y));(focus (exact Y));(focus (((repeat (first|exact InB.head|apply InB.tail|(with_reducible apply InB.app)|(with_reducible apply InB.appA)));done)));(focus (exact Y));(focus (((repeat (first|exact SetB.head|apply SetB.tail|(with_reducible apply SetB.app)|(with_reducible apply SetB.appA)));done))))|((with_reducible apply B3n tab);(focus (exact Y));(focus (exact Y));(focus (exact Y)))|(with_reducible apply Q_nil)|((with_reducible apply Q_skip);(focus (exact Y));(focus (exact Y)))|(with_reducible apply A3z)|(with_reducible apply A4q)|(with_reducible apply C_block)|(with_reducible apply A6a)|(with_reducible apply XC_ret)|(with_reducible apply A9t)|(with_reducible apply Seq_ret)|(with_reducible apply B1y)|(with_reducible apply B3m)|(with_reducible apply A9q)|(with_reducible apply A7q)|(with_reducible apply B3l)|(with_reducible apply XC_label)|(with_reducible apply XC_scope)|(with_reducible apply A8e)|((with_reducible apply A6o);(focus (exact Y)))|((with_reducible apply B1z);(focus (exact Y)))|((with_reducible apply A5x);(focus (exact Y)))|((with_reducible apply A4x);(focus (exact Y)))|((with_reducible apply C_lex' A1f);(focus (exact Y));(focus (kernel_rfl)))|((with_reducible apply L_add tab);(focus (exact Y));(focus (exact Y));(focus (exact Y));(focus (exact Y));(focus (omega));(focus (omega)))|((with_reducible apply L_sub tab);(focus (exact Y));(focus (exact Y));(focus (exact Y));(focus (exact Y));(focus (omega));(focus (omega)))|((with_reducible apply L_pure tab);(focus (exact Y));(focus (exact Y));(focus (exact Y)))|(with_reducible apply XL_nil)|((with_reducible apply L_loadN tab);(focus (exact Y));(focus (exact Y));(focus (exact Y));(focus (((repeat (first|exact InB.head|apply InB.tail|(with_reducible apply InB.app)|(with_reducible apply InB.appA)));done)));(focus (exact Y)))|((with_reducible apply L_skip);(focus (exact Y));(focus (exact Y)))));exact h.h)):p:=k ⟨h⟩
theorem cr{p q:Prop}(h:q)(k:Hold q→p:=by(intro h;(first|((with_reducible apply Q_add tab);(focus (exact Y));(focus (exact Y));(focus (exact Y));(focus (exact Y));(focus (omega));(focus (omega)))|((with_reducible apply Q_sub tab);(focus (exact Y));(focus (exact Y));(focus (exact Y));(focus (exact Y));(focus (omega));(focus (omega)))|((with_reducible apply Q_loadN tab);(focus (exact Y));(focus (exact Y));(focus (exact Y));(focus (((repeat (first|exact InB.head|apply InB.tail|(with_reducible apply InB.app)|(with_reducible apply InB.appA)));done)));(focus (exact Y)))|((with_reducible apply Q_store tab);(focus (exact Y));(focus (exact Y));(focus (exact Y));(focus (exact Y));(focus (exact Y));(focus (exact Y));(focus (((repeat (first|exact InB.head|apply InB.tail|(with_reducible apply InB.app)|(with_reducible apply InB.appA)));done)));(focus (exact Y));(focus (((repeat (first|exact SetB.head|apply SetB.tail|(with_reducible apply SetB.app)|(with_reducible apply SetB.appA)));done))))|((with_reducible apply B3n tab);(focus (exact Y));(focus (exact Y));(focus (exact Y)))|(with_reducible apply Q_nil)|((with_reducible apply Q_skip);(focus (exact Y));(focus (exact Y)))|(with_reducible apply A3z)|(with_reducible apply C_seqR)|(with_reducible apply C_block)|(with_reducible apply A6a)|(with_reducible apply XC_ret)|(with_reducible apply A9t)|(with_reducible apply Seq_ret)|(with_reducible apply B1y)|(with_reducible apply B3m)|(with_reducible apply A9q)|(with_reducible apply A7q)|(with_reducible apply B3l)|(with_reducible apply XC_label)|(with_reducible apply XC_scope)|(with_reducible apply A8e)|((with_reducible apply A6o);(focus (exact Y)))|((with_reducible apply B1z);(focus (exact Y)))|((with_reducible apply A5x);(focus (exact Y)))|((with_reducible apply A4x);(focus (exact Y)))|((with_reducible apply C_lex' A1f);(focus (exact Y));(focus (kernel_rfl)))|((with_reducible apply L_add tab);(focus (exact Y));(focus (exact Y));(focus (exact Y));(focus (exact Y));(focus (omega));(focus (omega)))|((with_reducible apply L_sub tab);(focus (exact Y));(focus (exact Y));(focus (exact Y));(focus (exact Y));(focus (omega));(focus (omega)))|((with_reducible apply L_pure tab);(focus (exact Y));(focus (exact Y));(focus (exact Y)))|(with_reducible apply XL_nil)|((with_reducible apply L_loadN tab);(focus (exact Y));(focus (exact Y));(focus (exact Y));(focus (((repeat (first|exact InB.head|apply InB.tail|(with_reducible apply InB.app)|(with_reducible apply InB.appA)));done)));(focus (exact Y)))|((with_reducible apply L_skip);(focus (exact Y));(focus (exact Y))));(repeat (first|((with_reducible apply Q_add tab);(focus (exact Y));(focus (exact Y));(focus (exact Y));(focus (exact Y));(focus (omega));(focus (omega)))|((with_reducible apply Q_sub tab);(focus (exact Y));(focus (exact Y));(focus (exact Y));(focus (exact Y));(focus (omega));(focus (omega)))|((with_reducible apply Q_loadN tab);(focus (exact Y));(focus (exact Y));(focus (exact Y));(focus (((repeat (first|exact InB.head|apply InB.tail|(with_reducible apply InB.app)|(with_reducible apply InB.appA)));done)));(focus (exact Y)))|((with_reducible apply Q_store tab);(focus (exact Y));(focus (exact Y));(focus (exact Y));(focus (exact Y));(focus (exact Y));(focus (exact Y));(focus (((repeat (first|exact InB.head|apply InB.tail|(with_reducible apply InB.app)|(with_reducible apply InB.appA)));done)));(focus (exact Y));(focus (((repeat (first|exact SetB.head|apply SetB.tail|(with_reducible apply SetB.app)|(with_reducible apply SetB.appA)));done))))|((with_reducible apply B3n tab);(focus (exact Y));(focus (exact Y));(focus (exact Y)))|(with_reducible apply Q_nil)|((with_reducible apply Q_skip);(focus (exact Y));(focus (exact Y)))|(with_reducible apply A3z)|(with_reducible apply C_seqR)|(with_reducible apply C_block)|(with_reducible apply A6a)|(with_reducible apply XC_ret)|(with_reducible apply A9t)|(with_reducible apply Seq_ret)|(with_reducible apply B1y)|(with_reducible apply B3m)|(with_reducible apply A9q)|(with_reducible apply A7q)|(with_reducible apply B3l)|(with_reducible apply XC_label)|(with_reducible apply XC_scope)|(with_reducible apply A8e)|((with_reducible apply A6o);(focus (exact Y)))|((with_reducible apply B1z);(focus (exact Y)))|((with_reducible apply A5x);(focus (exact Y)))|((with_reducible apply A4x);(focus (exact Y)))|((with_reducible apply C_lex' A1f);(focus (exact Y));(focus (kernel_rfl)))|((with_reducible apply L_add tab);(focus (exact Y));(focus (exact Y));(focus (exact Y));(focus (exact Y));(focus (omega));(focus (omega)))|((with_reducible apply L_sub tab);(focus (exact Y));(focus (exact Y));(focus (exact Y));(focus (exact Y));(focus (omega));(focus (omega)))|((with_reducible apply L_pure tab);(focus (exact Y));(focus (exact Y));(focus (exact Y)))|(with_reducible apply XL_nil)|((with_reducible apply L_loadN tab);(focus (exact Y));(focus (exact Y));(focus (exact Y));(focus (((repeat (first|exact InB.head|apply InB.tail|(with_reducible apply InB.app)|(with_reducible apply InB.appA)));done)));(focus (exact Y)))|((with_reducible apply L_skip);(focus (exact Y));(focus (exact Y)))));exact h.h)):p:=k ⟨h⟩
theorem ss{p q:Prop}(h:q)(k:Hold q→p:=by(intro h;(first|((with_reducible apply S_add tab);(focus (exact Y));(focus (exact Y));(focus (exact Y));(focus (kernel_rfl));(focus (exact Y));(focus (exact Y));(focus (omega));(focus (omega)))|((with_reducible apply S_sub tab);(focus (exact Y));(focus (exact Y));(focus (exact Y));(focus (kernel_rfl));(focus (exact Y));(focus (exact Y));(focus (omega));(focus (omega)))|((with_reducible apply S_pure tab);(focus (exact Y));(focus (exact Y));(focus (exact Y));(focus (kernel_rfl));(focus (exact Y)))|((with_reducible apply S_loadN tab);(focus (exact Y));(focus (exact Y));(focus (exact Y));(focus (kernel_rfl));(focus (exact Y));(focus (((repeat (first|exact InB.head|apply InB.tail|(with_reducible apply InB.app)|(with_reducible apply InB.appA)));done)));(focus (exact Y)))|((with_reducible apply S_skip);(focus (exact Y));(focus (exact Y));(focus (exact Y));(focus (kernel_rfl)))|((with_reducible apply S_end);(focus (kernel_rfl))));(repeat (first|((with_reducible apply S_add tab);(focus (exact Y));(focus (exact Y));(focus (exact Y));(focus (kernel_rfl));(focus (exact Y));(focus (exact Y));(focus (omega));(focus (omega)))|((with_reducible apply S_sub tab);(focus (exact Y));(focus (exact Y));(focus (exact Y));(focus (kernel_rfl));(focus (exact Y));(focus (exact Y));(focus (omega));(focus (omega)))|((with_reducible apply S_pure tab);(focus (exact Y));(focus (exact Y));(focus (exact Y));(focus (kernel_rfl));(focus (exact Y)))|((with_reducible apply S_loadN tab);(focus (exact Y));(focus (exact Y));(focus (exact Y));(focus (kernel_rfl));(focus (exact Y));(focus (((repeat (first|exact InB.head|apply InB.tail|(with_reducible apply InB.app)|(with_reducible apply InB.appA)));done)));(focus (exact Y)))|((with_reducible apply S_skip);(focus (exact Y));(focus (exact Y));(focus (exact Y));(focus (kernel_rfl)))|((with_reducible apply S_end);(focus (kernel_rfl)))));exact h.h)):p:=k ⟨h⟩
theorem pn{p q:Prop}(h:q)(k:Hold q→p:=by(intro h;(repeat (first|(with_reducible apply Seq_panic)|(with_reducible apply Block_panic)|(with_reducible apply Loop_panic)));exact h.h)):p:=k ⟨h⟩
theorem cntA{a b:A0f}(h:∀p,cnt p a=cnt p b:=by(first|exact fun _=>rfl|(intro p;simp only [List.append_eq,A0o,A4g,B3a];try omega))):∀p,cnt p a=cnt p b:=h
theorem cntL{a b:A0f}(h:∀p,cnt p a≤cnt p b:=by(first|exact fun _=>Nat.le_refl _|(intro p;simp only [List.append_eq,A0o,A4g,B3a];try omega))):∀p,cnt p a≤cnt p b:=h
theorem st{p q:Prop}(h:q)(k:Hold q→p:=by(intro h;(first|refine cs ?_|refine ss ?_|refine S_do kR (A2v tab Y Y Y Y Y Y Y (by((repeat (first|exact InB.head|apply InB.tail|(with_reducible apply InB.app)|(with_reducible apply InB.appA)));done)) (by exact Y) (by((repeat (first|exact SetB.head|apply SetB.tail|(with_reducible apply SetB.app)|(with_reducible apply SetB.appA)));done)) ⟨Le.refl _,(by(repeat (first|exact trivial|(apply And.intro;(focus (first|(apply Or.inr;(try dsimp only);((repeat (first|exact InB.head|apply InB.tail|(with_reducible apply InB.app)|(with_reducible apply InB.appA)));done))|(apply Or.inl;kernel_rfl))))))),?_⟩));(repeat (first|refine cs ?_|refine ss ?_|refine S_do kR (A2v tab Y Y Y Y Y Y Y (by((repeat (first|exact InB.head|apply InB.tail|(with_reducible apply InB.app)|(with_reducible apply InB.appA)));done)) (by exact Y) (by((repeat (first|exact SetB.head|apply SetB.tail|(with_reducible apply SetB.app)|(with_reducible apply SetB.appA)));done)) ⟨Le.refl _,(by(repeat (first|exact trivial|(apply And.intro;(focus (first|(apply Or.inr;(try dsimp only);((repeat (first|exact InB.head|apply InB.tail|(with_reducible apply InB.app)|(with_reducible apply InB.appA)));done))|(apply Or.inl;kernel_rfl))))))),?_⟩)));exact h.h)):p:=k ⟨h⟩
theorem sr{p q:Prop}(h:q)(k:Hold q→p:=by(intro h;(first|refine cr ?_|refine ss ?_|refine S_do kR (A2v tab Y Y Y Y Y Y Y (by((repeat (first|exact InB.head|apply InB.tail|(with_reducible apply InB.app)|(with_reducible apply InB.appA)));done)) (by exact Y) (by((repeat (first|exact SetB.head|apply SetB.tail|(with_reducible apply SetB.app)|(with_reducible apply SetB.appA)));done)) ⟨Le.refl _,(by(repeat (first|exact trivial|(apply And.intro;(focus (first|(apply Or.inr;(try dsimp only);((repeat (first|exact InB.head|apply InB.tail|(with_reducible apply InB.app)|(with_reducible apply InB.appA)));done))|(apply Or.inl;kernel_rfl))))))),?_⟩));(repeat (first|refine cr ?_|refine ss ?_|refine S_do kR (A2v tab Y Y Y Y Y Y Y (by((repeat (first|exact InB.head|apply InB.tail|(with_reducible apply InB.app)|(with_reducible apply InB.appA)));done)) (by exact Y) (by((repeat (first|exact SetB.head|apply SetB.tail|(with_reducible apply SetB.app)|(with_reducible apply SetB.appA)));done)) ⟨Le.refl _,(by(repeat (first|exact trivial|(apply And.intro;(focus (first|(apply Or.inr;(try dsimp only);((repeat (first|exact InB.head|apply InB.tail|(with_reducible apply InB.app)|(with_reducible apply InB.appA)));done))|(apply Or.inl;kernel_rfl))))))),?_⟩)));exact h.h)):p:=k ⟨h⟩
theorem qb{p:Prop}{q:Nat→Prop}(h:∀b,q b)(k:Hold (∀b,q b)→p:=by(intro h;first|((((with_reducible apply Q_box);(focus (exact Y));(focus (exact Y));(focus (exact Y))));exact h.h)|((((with_reducible apply Q_alloc tab);(focus (exact Y));(focus (exact Y));(focus (exact Y))));exact h.h))):p:=k ⟨h⟩
theorem ib{p:Prop}(k:p:=by((repeat (first|exact InB.head|apply InB.tail|(with_reducible apply InB.app)|(with_reducible apply InB.appA)));done)):p:=k
theorem sb{p:Prop}(k:p:=by((repeat (first|exact SetB.head|apply SetB.tail|(with_reducible apply SetB.app)|(with_reducible apply SetB.appA)));done)):p:=k
theorem kp{p:Prop}(k:p:=by(repeat (first|exact trivial|(apply And.intro;(focus (first|(apply Or.inr;(try dsimp only);((repeat (first|exact InB.head|apply InB.tail|(with_reducible apply InB.app)|(with_reducible apply InB.appA)));done))|(apply Or.inl;kernel_rfl))))))):p:=k
theorem rg{p:Prop}(k:p:=by(repeat (first|exact trivial|refine⟨Y,?_⟩))):p:=k
theorem bo{p:Prop}(k:p:=by(first|assumption|(simp only []at *;omega))):p:=k
theorem fa{p q:Prop}(h:p)(k:p→q:=by(intro h;(simp only [decide_eq_true_eq,decide_eq_false_iff_not,beq_iff_eq,bne_iff_ne,Bool.not_eq_true',beq_eq_false_iff_ne,bne_eq_false_iff_eq,ne_eq]at h);exact h)):q:=k h
end Go.Proofs.YtclejblcnfaeaaaGreat
end
section
namespace Go.Pal.To
structure MA where
 (k a b h:Int)
deriving DecidableEq
def sold(os:List Int)(x:MA):Bool:=x.k==0&&os[x.h.toNat]? == some x.a
def refd(os:List Int)(x:MA):Bool:=x.k==0 && !(os[x.h.toNat]? == some x.a)
def doN(os:List Int)(x:MA):List Int:=if sold os x then os.set x.h.toNat x.b else os
def A3r(os:List Int)(l:List MA):List Int:=l.foldl doN os
structure Wy where
 marks:List Int
 book:List MA
 dusk:List Int
deriving DecidableEq
def Wy.add(w:Wy)(m:Int)(x:MA):Wy:=⟨w.marks++[m],w.book++[x],doN w.dusk x⟩
def A3c(a b:List MA):Nat→Option (MA×List MA×List MA)
 | 0=>match a,b with
  | x::a',y::b'=>if x=y then some (x,a',b')else none
  | _,_=>none
 | 1=>match a with
  | x::a'=>some (x,a',b)
  | []=>none
 | _=>match b with
  | y::b'=>some (y,a,b')
  | []=>none
def A2n(F:List MA→List MA→Wy→List Wy)(a b:List MA)(w:Wy)(m:Nat):List Wy:=
 match A3c a b m with
 | none=>[]
 | some (x,a',b')=>if refd w.dusk x then []else F a' b' (w.add m x)
def B2d:Nat→List MA→List MA→Wy→List Wy
 | 0,_,_,w=>[w]
 | n+1,a,b,w=>if a=[]∧b=[]then [w]else A2n (B2d n) a b w 0++A2n (B2d n) a b w 1++A2n (B2d n) a b w 2
def ways(a b:List MA)(w:Wy):List Wy:=B2d (a.length+b.length) a b w
theorem A4c{a b:List MA}{m:Nat}{x:MA}{a' b':List MA}(h:A3c a b m=some (x,a',b')):a'.length+b'.length<a.length+b.length:=by
 unfold A3c at h
 split at h
 ·split at h
  ·split at h
   ·simp only [Option.some.injEq,Prod.mk.injEq]at h
    obtain⟨_,rfl,rfl⟩:=h
    simp only [List.length_cons];omega
   ·cases h
  ·cases h
 ·split at h
  ·simp only [Option.some.injEq,Prod.mk.injEq]at h
   obtain⟨_,rfl,rfl⟩:=h
   simp only [List.length_cons];omega
  ·cases h
 ·split at h
  ·simp only [Option.some.injEq,Prod.mk.injEq]at h
   obtain⟨_,rfl,rfl⟩:=h
   simp only [List.length_cons];omega
  ·cases h
theorem A6p{F F':List MA→List MA→Wy→List Wy}{a b:List MA}{w:Wy}{m:Nat}(h:∀a' b' w',a'.length+b'.length<a.length+b.length→F a' b' w'=F' a' b' w'):A2n F a b w m=A2n F' a b w m:=by
 unfold A2n
 cases e:A3c a b m with
 | none=>rfl
 | some t=>
  obtain⟨x,a',b'⟩:=t
  simp only
  rw [h a' b' _ (A4c e)]
theorem B1q:∀{n:Nat} {a b:List MA} {w:Wy},a.length+b.length≤n→B2d n a b w=ways a b w
 | 0,a,b,w,h=>by
  unfold ways
  have e:a.length+b.length=0:=oM
  rw [e]
 | n+1,a,b,w,h=>by
  unfold ways
  by_cases e0:a=[]∧b=[]
  ·obtain⟨rfl,rfl⟩:=e0
   simp [B2d]
  ·obtain⟨m,hm⟩:∃m,a.length+b.length=m+1:=by
    refine⟨a.length+b.length-1,?_⟩
    have:a.length≠0∨b.length≠0:=by
     rcases a with _|⟨x,a⟩
     ·rcases b with _|⟨y,b⟩
      ·exact absurd ⟨Y,Y⟩ e0
      ·right;simp
     ·left;simp
    omega
   rw [hm]
   simp only [B2d,if_neg e0]
   have key:∀k,A2n (B2d n) a b w k=A2n (B2d m) a b w k:=fun k=>A6p fun a' b' w' h'=>by
    rw [B1q (n:=n) oM,B1q (n:=m) oM]
   rw [key,key,key]
theorem A7u(w:Wy):ways [] [] w=[w]:=rfl
theorem A8k{a b:List MA}{w:Wy}(h:¬(a=[]∧b=[])):ways a b w=A2n ways a b w 0++A2n ways a b w 1++A2n ways a b w 2:=by
 rw [←B1q (n:=a.length+b.length+1) (Nat.le_succ _)]
 simp only [B2d,if_neg h]
 have key:∀k,A2n (B2d (a.length+b.length)) a b w k=A2n ways a b w k:=fun k=>A6p fun a' b' w' h'=>B1q oM
 rw [key,key,key]
theorem ways_begin:∀{n:Nat} {a b:List MA} {w u:Wy},a.length+b.length≤n→u∈ways a b w→∃t,u.marks=w.marks++t∧t.length=u.book.length-w.book.length∧∃s,u.book=w.book++s∧s.length=t.length∧(a=[]∧b=[]↔t=[])
 | n,a,b,w,u,h,hu=>by
  by_cases e:a=[]∧b=[]
  ·obtain⟨rfl,rfl⟩:=e
   rw [A7u]at hu
   simp only [List.mem_singleton]at hu
   subst hu
   exact⟨[],by simp,by simp,[],by simp,Y,by simp⟩
  ·cases n with
   | zero=>
    exfalso
    apply e
    exact⟨List.length_eq_zero_iff.1 oM,List.length_eq_zero_iff.1 oM⟩
   | succ n=>
    rw [A8k e]at hu
    have:∃m,u∈A2n ways a b w m:=by
     rcases List.mem_append.1 hu with hu|hu
     ·rcases List.mem_append.1 hu with hu|hu
      ·exact⟨_,hu⟩
      ·exact⟨_,hu⟩
     ·exact⟨_,hu⟩
    obtain⟨m,hm⟩:=this
    unfold A2n at hm
    cases es:A3c a b m with
    | none=>rw [es]at hm;cases hm
    | some t=>
     obtain⟨x,a',b'⟩:=t
     rw [es]at hm
     simp only at hm
     split at hm
     ·cases hm
     ·have hl:=A4c es
      obtain⟨t,h1,h2,s,h3,h4,h5⟩:=ways_begin (n:=n) oM hm
      refine⟨(m:Int)::t,?_,?_,x::s,?_,by simp [h4],by simp [e]⟩
      ·rw [h1];simp [Wy.add]
      ·have h6:=congrArg List.length h3
       simp [Wy.add]at h6⊢
       omega
      ·rw [h3];simp [Wy.add]
theorem B2e{a b:List MA}{w u:Wy}{m:Nat}(h:u∈A2n ways a b w m):∃t s,u.marks=w.marks++((m:Int)::t)∧u.book=w.book++s∧s.length=t.length+1:=by
 unfold A2n at h
 cases es:A3c a b m with
 | none=>rw [es]at h;cases h
 | some t=>
  obtain⟨x,a',b'⟩:=t
  rw [es]at h
  simp only at h
  split at h
  ·cases h
  ·obtain⟨t,h1,h2,s,h3,h4,h5⟩:=ways_begin (Nat.le_refl _) h
   exact⟨t,x::s,by rw [h1];simp [Wy.add],by rw [h3];simp [Wy.add],by simp [h4]⟩
def ltL:List Int→List Int→Bool
 | _,[]=>false
 | [],_::_=>true
 | x::l,y::m=>if x=y then ltL l m else decide (x<y)
theorem ltL_pre(l:List Int){s t:List Int}:ltL (l++s) (l++t)=ltL s t:=by
 induction l with
 | nil=>rfl
 | cons x l ih=>simp [ltL,ih]
theorem A7z(l:List Int):ltL l l=false:=by
 induction l with
 | nil=>rfl
 | cons x l ih=>simp [ltL,ih]
theorem A7l:∀{l m n:List Int},ltL l m=true→ltL m n=true→ltL l n=true
 | l,m,[],_,h=>by cases m<;>simp [ltL]at h
 | [],m,z::n,_,_=>rfl
 | x::l,[],z::n,h,_=>by simp [ltL]at h
 | x::l,y::m,z::n,h,k=>by
  simp only [ltL]at h k⊢
  by_cases e1:x=y
  ·subst e1
   rw [if_pos rfl]at h
   by_cases e2:x=z
   ·subst e2
    rw [if_pos rfl]at k⊢
    exact A7l h k
   ·rw [if_neg e2]at k⊢
    exact k
  ·rw [if_neg e1]at h
   have h:x<y:=by simpa using h
   by_cases e2:y=z
   ·subst e2
    rw [if_neg oM]
    simpa using h
   ·rw [if_neg e2]at k
    have k:y<z:=by simpa using k
    rw [if_neg oM]
    simp;omega
theorem A9g:∀{l m:List Int},l≠m→ltL l m=true∨ltL m l=true
 | [],[],h=>absurd rfl h
 | [],_::_,_=>.inl rfl
 | _::_,[],_=>.inr rfl
 | x::l,y::m,h=>by
  simp only [ltL]
  by_cases e:x=y
  ·subst e
   rw [if_pos Y,if_pos rfl]
   exact A9g (fun e=>h (by rw [e]))
  ·rw [if_neg e,if_neg (Ne.symm e)]
   simp only [decide_eq_true_eq]
   omega
theorem B2c:∀{n:Nat} {a b:List MA} {w:Wy},a.length+b.length≤n→(ways a b w).Pairwise fun u v=>ltL u.marks v.marks=true
 | n,a,b,w,h=>by
  by_cases e:a=[]∧b=[]
  ·obtain⟨rfl,rfl⟩:=e
   rw [A7u];simp
  ·cases n with
   | zero=>
    exfalso
    apply e
    exact⟨List.length_eq_zero_iff.1 oM,List.length_eq_zero_iff.1 oM⟩
   | succ n=>
    rw [A8k e]
    have one:∀m,(A2n ways a b w m).Pairwise fun u v=>ltL u.marks v.marks=true:=fun m=>by
     unfold A2n
     cases es:A3c a b m with
     | none=>simp
     | some t=>
      obtain⟨x,a',b'⟩:=t
      simp only
      split
      ·simp
      ·have hl:=A4c es
       exact B2c (n:=n) oM
    have two:∀{m m':Nat},m<m'→∀u∈A2n ways a b w m,∀v∈A2n ways a b w m',ltL u.marks v.marks=true:=fun {m m'} hlt u hu v hv=>by
     obtain⟨t,s,h1,_⟩:=B2e hu
     obtain⟨t',s',h2,_⟩:=B2e hv
     rw [h1,h2,ltL_pre]
     simp only [ltL]
     rw [if_neg oM]
     simp;omega
    refine List.pairwise_append.2 ⟨List.pairwise_append.2 ⟨one 0,one 1,two oM⟩,one 2,fun u hu v hv=>?_⟩
    rcases List.mem_append.1 hu with hu|hu
    ·exact two oM u hu v hv
    ·exact two oM u hu v hv
def lenW(w:Wy):Nat:=w.marks.length
def addF(s:Nat×List Wy)(w:Wy):Nat×List Wy:=if s.2=[]∨lenW w<s.1 then(lenW w,[w])else if lenW w=s.1 then(s.1,s.2++[w])else s
def A1s(l:List Wy):Nat×List Wy:=l.foldl addF (0,[])
theorem B2x(l:List Wy)(w:Wy):A1s (l++[w])=addF (A1s l) w:=by simp [A1s]
theorem A4f:∀{l:List Wy},l≠[]→(A1s l).2≠[]∧(∀w∈l,(A1s l).1≤lenW w)∧(A1s l).2=l.filter (fun w=>lenW w==(A1s l).1):=by
 intro l
 suffices h:∀n,∀l:List Wy,l.length=n→l≠[]→(A1s l).2≠[]∧(∀w∈l,(A1s l).1≤lenW w)∧(A1s l).2=l.filter (fun w=>lenW w==(A1s l).1)from h _ l rfl
 intro n
 induction n with
 | zero=>intro l hl hn;exact absurd (List.length_eq_zero_iff.1 hl) hn
 | succ n ih=>
  intro l hl _
  obtain⟨l',w,rfl⟩:∃l' w,l=l'++[w]:=by
   rcases List.eq_nil_or_concat l with rfl|⟨l',w,h⟩
   ·cases hl
   ·exact⟨l',w,by simpa using h⟩
  have hl':l'.length=n:=by simpa using hl
  rw [B2x]
  by_cases e:l'=[]
  ·subst e
   have:addF (A1s []) w=(lenW w,[w]):=by simp [addF,A1s]
   rw [this]
   simp
  ·obtain⟨h1,h2,h3⟩:=ih l' hl' e
   unfold addF
   by_cases e1:lenW w<(A1s l').1
   ·rw [if_pos (.inr e1)]
    refine⟨by simp,fun u hu=>?_,?_⟩
    ·rcases List.mem_append.1 hu with hu|hu
     ·have:=h2 u hu;dsimp only;omega
     ·simp only [List.mem_singleton]at hu;subst hu;exact Nat.le_refl _
    ·dsimp only
     rw [List.filter_append,List.filter_eq_nil_iff.2 fun u hu=>by have:=h2 u hu;simp;omega]
     simp
   ·rw [if_neg (by rintro(h|h);exact h1 h;exact e1 h)]
    by_cases e2:lenW w=(A1s l').1
    ·rw [if_pos e2]
     refine⟨by simp,fun u hu=>?_,?_⟩
     ·rcases List.mem_append.1 hu with hu|hu
      ·exact h2 u hu
      ·simp only [List.mem_singleton]at hu;subst hu;exact Nat.le_of_eq e2.symm
     ·dsimp only
      rw [List.filter_append,←h3]
      simp [e2]
    ·rw [if_neg e2]
     refine⟨h1,fun u hu=>?_,?_⟩
     ·rcases List.mem_append.1 hu with hu|hu
      ·exact h2 u hu
      ·simp only [List.mem_singleton]at hu;subst hu;omega
     ·rw [List.filter_append,←h3]
      simp [e2]
theorem fewest_nil_iff{l:List Wy}:(A1s l).2=[]↔l=[]:=
 ⟨fun h=>Classical.byContradiction fun hn=>(A4f hn).1 h,fun h=>by rw [h];rfl⟩
theorem A6l{l:List Wy}{w:Wy}(h:w∈(A1s l).2):w∈l∧lenW w=(A1s l).1:=by
 by_cases e:l=[]
 ·subst e;cases h
 ·rw [(A4f e).2.2]at h
  simpa using h
theorem B2y{l m:List Wy}(h:l.Perm m):(A1s l).1=(A1s m).1∧(A1s l).2.Perm (A1s m).2:=by
 by_cases e:l=[]
 ·subst e
  obtain rfl:=h.nil_eq
  exact⟨Y,.refl _⟩
 ·have e':m≠[]:=fun e'=>e (by subst e';exact h.eq_nil)
  obtain⟨h1,h2,h3⟩:=A4f e
  obtain⟨k1,k2,k3⟩:=A4f e'
  have hle:∀{l m:List Wy},l.Perm m→(A1s l).2≠[]→(∀w∈m,(A1s m).1≤lenW w)→(A1s m).1≤(A1s l).1:=fun {l m} h h1 k2=>by
   obtain⟨w,hw⟩:=List.exists_mem_of_ne_nil _ h1
   obtain⟨a,b⟩:=A6l hw
   have:=k2 w (h.mem_iff.1 a)
   omega
  have he:(A1s l).1=(A1s m).1:=Nat.le_antisymm (hle h.symm k1 h2) (hle h h1 k2)
  refine⟨he,?_⟩
  rw [h3,k3,he]
  exact h.filter _
theorem sorted_one{l m:List Wy}(h:l.Perm m)(h1:l.Pairwise fun u v=>ltL v.marks u.marks=false)(h2:m.Pairwise fun u v=>ltL u.marks v.marks=true):l=m:=by
 induction m generalizing l with
 | nil=>exact h.eq_nil
 | cons x m ih=>
  cases l with
  | nil=>exact absurd h.nil_eq sM
  | cons y l=>
   obtain⟨a1,a2⟩:=List.pairwise_cons.1 h1
   obtain⟨b1,b2⟩:=List.pairwise_cons.1 h2
   have hxy:y=x:=by
    apply Classical.byContradiction
    intro hne
    have hy:y∈m:=by
     have:y∈x::m:=h.mem_iff.1 sM
     rcases List.mem_cons.1 this with h|h
     ·exact absurd h hne
     ·exact h
    have hx:x∈l:=by
     have:x∈y::l:=h.mem_iff.2 sM
     rcases List.mem_cons.1 this with h|h
     ·exact absurd h.symm hne
     ·exact h
    have:=b1 y hy
    rw [a1 x hx]at this
    cases this
   subst hxy
   rw [ih (List.Perm.cons_inv h) a2 b2]
def A1q(a b:List MA)(os:List Int):List Wy:=(A1s (ways a b ⟨[],[],os⟩)).2
theorem bests_sorted(a b:List MA)(os:List Int):(A1q a b os).Pairwise fun u v=>ltL u.marks v.marks=true:=by
 unfold A1q
 by_cases e:ways a b ⟨[],[],os⟩=[]
 ·rw [e];exact .nil
 ·rw [(A4f e).2.2]
  exact(B2c (Nat.le_refl _)).filter _
theorem bests_of{a b:List MA}{os:List Int}{l m:List Wy}(h:l.Perm (ways a b ⟨[],[],os⟩))(hm:m.Perm (A1s l).2)(hs:m.Pairwise fun u v=>ltL v.marks u.marks=false):m=A1q a b os:=
 sorted_one (hm.trans (B2y h).2) hs (bests_sorted a b os)
end Go.Pal.To
namespace Go.Pal.To
def lexZ:List Int→List Int→Int
 | [],[]=>0
 | [],_::_=>-1
 | _::_,[]=>1
 | x::l,y::m=>if x<y then -1 else if y<x then 1 else lexZ l m
theorem lexZ_lt:∀(l m:List Int),decide (lexZ l m<0)=ltL l m
  | [],[]=>rfl
  | [],_::_=>rfl
  | _::_,[]=>rfl
  | x::l,y::m=>by
    have ih:=lexZ_lt l m
    by_cases h1:x<y
    · have e1:lexZ (x::l) (y::m) = -1:=by simp only [lexZ];rw [if_pos h1]
      have e2:ltL (x::l) (y::m)=true:=by simp only [ltL];rw [if_neg oM];simp [h1]
      rw [e1,e2];rfl
    · by_cases h2:y<x
      · have e1:lexZ (x::l) (y::m)=1:=by simp only [lexZ];rw [if_neg h1,if_pos h2]
        have e2:ltL (x::l) (y::m)=false:=by simp only [ltL];rw [if_neg oM];simp [h1]
        rw [e1,e2];rfl
      · have e1:lexZ (x::l) (y::m)=lexZ l m:=by
          show(if x<y then -1 else if y<x then 1 else lexZ l m)=_
          rw [if_neg h1,if_neg h2]
        have e2:ltL (x::l) (y::m)=ltL l m:=by
          show(if x=y then ltL l m else decide (x<y))=_
          rw [if_pos oM]
        rw [e1,e2];exact ih
theorem ltL_ntrans{l m n:List Int}(h1:ltL l m=false)(h2:ltL m n=false):ltL l n=false:=by
 cases h:ltL l n with
 | false=>rfl
 | true=>
  exfalso
  by_cases e1:l=m
  ·subst e1;rw [h2]at h;cases h
  ·rcases A9g e1 with h3|h3
   ·rw [h1]at h3;cases h3
   ·have:=A7l h3 h;rw [h2]at this;cases this
theorem A9w:∀{n:Nat} {a b:List MA} {w:Wy},a.length+b.length≤n→(ways a b w).length≤3 ^ n
 | n,a,b,w,h=>by
  by_cases e:a=[]∧b=[]
  ·obtain⟨rfl,rfl⟩:=e
   rw [A7u]
   exact Nat.one_le_pow _ _ dM
  ·cases n with
   | zero=>
    exfalso
    apply e
    exact⟨List.length_eq_zero_iff.1 oM,List.length_eq_zero_iff.1 oM⟩
   | succ n=>
    have one:∀m,(A2n ways a b w m).length≤3 ^ n:=fun m=>by
     unfold A2n
     cases es:A3c a b m with
     | none=>simp
     | some t=>
      obtain⟨x,a',b'⟩:=t
      simp only
      split
      ·simp
      ·have hl:=A4c es
       exact A9w (n:=n) oM
    rw [A8k e,List.length_append,List.length_append,Nat.pow_succ]
    have:=one 0;have:=one 1;have:=one 2
    omega
end Go.Pal.To
end
section
namespace Go.Proofs.YtclejblcnfaeaaaGreat
open Go Go.Pal Go.Pal.To Go.Conc View
open Go.Proofs.Tryz
set_option maxHeartbeats 4000000
set_option maxRecDepth 20000
section
variable{mn:Who}{v:View}
abbrev natV(n:Nat):Value:=.int .i64 n
abbrev intV(n:Int):Value:=.int .i64 n
theorem A6z{β:A0f}:∀p,Pal.cnt p β=Pal.cnt p ([]++β):=fun _=>rfl
theorem nan_x{x:Int}:Ret1 prog mn 163 [.int .i64 x] (.bool false) v:=by
 refine A0d tab func163 Y nB (args:=[_]) ?_
 repeat (first|refine st ?_|refine qb fun bx=>?_)
 refine A0g tab [] (by exact .tmp rfl .nil) (Back.here cntL) ?_
 exact⟨by show Value.bool (x != x)=_;simp,Y⟩
def cmpI(x y:Int):Int:=if x<y then -1 else if y<x then 1 else 0
theorem cmp_x{x y:Int}:Ret1 prog mn 130 [.int .i64 x,.int .i64 y] (.int .i64 (cmpI x y)) v:=by
 refine A0d tab func130 Y nB (args:=[_,_]) ?_
 repeat (first|refine st ?_|refine qb fun bx=>?_)
 refine Q_op fun ho=>A0t ho bod163 Y Y Y Y Y nan_x ?_
 clear ho
 repeat (first|refine st ?_|refine qb fun bx=>?_)
 refine Q_op fun ho=>A0t ho bod163 Y Y Y Y Y nan_x ?_
 clear ho
 repeat (first|refine st ?_|refine qb fun bx=>?_)
 refine A0y Y (fun h=>?_) (fun h=>?_)
 ·replace h:=fa h
  repeat (first|refine st ?_|refine qb fun bx=>?_)
  refine A0g tab [] (by exact .tmp rfl .nil) (Back.here cntL) ?_
  exact⟨by unfold cmpI;rw [if_pos h];rfl,Y⟩
 ·replace h:=fa h
  have h1:=h
  clear h
  repeat (first|refine st ?_|refine qb fun bx=>?_)
  refine A0y Y (fun h=>?_) (fun h=>?_)
  ·replace h:=fa h
   repeat (first|refine st ?_|refine qb fun bx=>?_)
   refine A0g tab [] (by exact .tmp rfl .nil) (Back.here cntL) ?_
   exact⟨by unfold cmpI;rw [if_neg h1,if_pos h];rfl,Y⟩
  ·replace h:=fa h
   repeat (first|refine st ?_|refine qb fun bx=>?_)
   refine A0g tab [] (by exact .tmp rfl .nil) (Back.here cntL) ?_
   exact⟨by unfold cmpI;rw [if_neg h1,if_neg h];rfl,Y⟩
theorem A9h:∀(i:Nat) (l m:List Int),l.take i=m.take i→i≤l.length→i≤m.length→lexZ l m=lexZ (l.drop i) (m.drop i)
 | 0,l,m,_,_,_=>rfl
 | i+1,[],m,_,h,_=>by simp at h
 | i+1,_::_,[],_,_,h=>by simp at h
 | i+1,x::l,y::m,h,h1,h2=>by
  simp only [List.take_succ_cons,List.cons.injEq]at h
  obtain⟨rfl,h⟩:=h
  simp only [lexZ,Int.lt_irrefl,if_false,List.drop_succ_cons]
  exact A9h i l m h (by simpa using h1) (by simpa using h2)
theorem B0q{a a':Option Addr}{cap cap':Nat}{l m:List Int}(hl:RowAt v a (l.map intV))(hm:RowAt v a' (m.map intV))(h1:l.length<2^62)(h2:m.length<2^62) :
    Ret1 prog mn 97 [.slice a l.length cap,.slice a' m.length cap'] (.int .i64 (lexZ l m)) v:=by
  refine A0d tab func97 Y nB (args:=[_,_]) ?_
  repeat (first|refine st ?_|refine qb fun bx=>?_)
  refine A1k (α:=Nat) (fun i=>⟨[],[(11,.int .i64 i),(10,.int .i64 l.length),(9,.slice a l.length cap),(0,.slice a l.length cap),(1,.slice a' m.length cap')],[]⟩)
    (fun i u=>u=v∧i≤l.length∧i≤m.length∧l.take i=m.take i) (fun i=>l.length-i) 0 ⟨Y,rg,cntL⟩ (Le.refl _) ⟨Y,Nat.zero_le _,Nat.zero_le _,Y⟩ ?_
  rintro i u ⟨rfl,hi,hi',hp⟩
  repeat (first|refine st ?_|refine qb fun bx=>?_)
  refine A0y Y (fun h=>?_) (fun h=>?_)
  · replace h:=fa h
    have hlt:i<l.length:=oM
    obtain⟨bb,off,p,c,e,f,rfl,hv,hc⟩:=hl.get hlt
    repeat (first|refine st ?_|refine qb fun bx=>?_)
    refine A4j tab i Y Y Y Y Y Y Y hlt ?_
    refine A1w tab Y Y Y hv (A0j tab Y Y Y (by rw [Nat.mul_one];exact hc _ hlt)) ?_
    have h:=h
    clear h
    repeat (first|refine st ?_|refine qb fun bx=>?_)
    refine A0y Y (fun h=>?_) (fun h=>?_)
    · replace h:=fa h
      have him:i=m.length:=oM
      repeat (first|refine st ?_|refine qb fun bx=>?_)
      refine A0g tab [] (by exact .tmp rfl .nil) (Back.here cntL) ?_
      refine⟨?_,Y⟩
      rw [A9h i l m hp hi hi',him,List.drop_length,←him,List.drop_eq_getElem_cons hlt]
      rfl
    · replace h:=fa h
      have hlt':i<m.length:=oM
      obtain⟨bb',off',p',c',e',f',rfl,hv',hc'⟩:=hm.get hlt'
      repeat (first|refine st ?_|refine qb fun bx=>?_)
      refine A4j tab i Y Y Y Y Y Y Y hlt' ?_
      refine A1w tab Y Y Y hv' (A0j tab Y Y Y (by rw [Nat.mul_one];exact hc' _ hlt')) ?_
      repeat (first|refine st ?_|refine qb fun bx=>?_)
      refine Q_op fun ho=>A0t ho bod130 Y Y Y Y Y cmp_x ?_
      clear ho
      have hd:lexZ l m=lexZ (l[i]::l.drop (i+1)) (m[i]::m.drop (i+1)):=by
        rw [A9h i l m hp hi hi',List.drop_eq_getElem_cons hlt,List.drop_eq_getElem_cons hlt']
      by_cases hlt1:l[i]<m[i]
      · rw [show cmpI l[i] m[i] = -1 from by unfold cmpI;rw [if_pos oM]]
        repeat (first|refine st ?_|refine qb fun bx=>?_)
        refine A0g tab [] (by exact .tmp rfl .nil) (Back.here cntL) ?_
        refine⟨?_,Y⟩
        rw [hd];unfold lexZ;rw [if_pos hlt1];rfl
      · by_cases hlt2:m[i]<l[i]
        · rw [show cmpI l[i] m[i]=1 from by unfold cmpI;rw [if_neg oM,if_pos oM]]
          repeat (first|refine st ?_|refine qb fun bx=>?_)
          refine A0g tab [] (by exact .tmp rfl .nil) (Back.here cntL) ?_
          refine⟨?_,Y⟩
          rw [hd];unfold lexZ;rw [if_neg hlt1,if_pos hlt2];rfl
        · rw [show cmpI l[i] m[i]=0 from by unfold cmpI;rw [if_neg oM,if_neg oM]]
          repeat (first|refine st ?_|refine qb fun bx=>?_)
          refine A0a ⟨i+1,u,oM,⟨Y,rg,cntL⟩,Le.refl _,Y,hlt,hlt',?_⟩
          rw [List.take_succ_eq_append_getElem hlt,List.take_succ_eq_append_getElem hlt',hp,show l[i]=m[i] by omega]
  · replace h:=fa h
    have hin:i=l.length:=oM
    have hd:lexZ l m=lexZ [] (m.drop i):=by
      rw [A9h i l m hp hi hi']
      rw [hin,List.drop_length]
    repeat (first|refine st ?_|refine qb fun bx=>?_)
    refine A0y Y (fun h=>?_) (fun h=>?_)
    · replace h:=fa h
      repeat (first|refine st ?_|refine qb fun bx=>?_)
      refine A0g tab [] (by exact .tmp rfl .nil) (Back.here cntL) ?_
      refine⟨?_,Y⟩
      rw [hd,List.drop_eq_getElem_cons (show i<m.length by omega)]
      rfl
    · replace h:=fa h
      repeat (first|refine st ?_|refine qb fun bx=>?_)
      refine A0g tab [] (by exact .tmp rfl .nil) (Back.here cntL) ?_
      refine⟨?_,Y⟩
      rw [hd,List.drop_eq_nil_of_le (show m.length≤i by omega)]
      rfl
end
end Go.Proofs.YtclejblcnfaeaaaGreat
end
section
namespace Go.Pal.To
def outZ(n lo hi:Int):Prop:=n<lo∨n > hi
instance (n lo hi:Int):Decidable (outZ n lo hi):=inferInstanceAs (Decidable (_∨_))
def A4v(k:Int):Int:=if k=1 then 0 else if k=0∨k=2 then 2 else -1
def A7o(P N:Int)(x:MA):Int:=
 if A4v x.k<0 then 8
 else if A4v x.k=0∧(x.a≠0∨x.b≠0)then 1
 else if A4v x.k > 0∧(outZ x.a 0 (P-1)∨outZ x.b 0 (P-1))then 3
 else if outZ x.h 0 (N-1)then 3
 else if x.k=0∧x.a=x.b then 4 else 0
def A6c(P:Int):List Int→Int
 | []=>0
 | x::l=>if outZ x 0 (P-1)then 3 else A6c P l
def A4l(P:Int)(d:List Int):Int:=if outZ P 1 4 then 1 else if d.length=0 then 7 else if d.length > 3 then 6 else A6c P d
def A5i(P N:Int):List MA→Int
 | []=>0
 | x::l=>if A7o P N x≠0 then A7o P N x else A5i P N l
def A5h(P N:Int)(most:Nat)(l:List MA):Int:=if l.length > most then 6 else A5i P N l
def chkBooks(P:Int)(d:List Int)(most:Nat)(ls:List (List MA)):Int:=
 if A4l P d≠0 then A4l P d else go ls
where go:List (List MA)→Int
 | []=>0
 | l::r=>if A5h P d.length most l≠0 then A5h P d.length most l else go r
theorem persN_of{k:Int}(h:¬A4v k<0):(k=0∨k=1∨k=2):=by
 unfold A4v at h
 by_cases h1:k=1
 ·exact .inr (.inl h1)
 ·rw [if_neg h1]at h
  by_cases h2:k=0∨k=2
  ·rcases h2 with h2|h2
   ·exact .inl h2
   ·exact .inr (.inr h2)
  ·rw [if_neg h2]at h;omega
structure Ok(P N:Int)(x:MA):Prop where
 k:x.k=0∨x.k=1∨x.k=2
 h:0≤x.h∧x.h<N
 asks:x.k=1→x.a=0∧x.b=0
 ab:x.k≠1→(0≤x.a∧x.a<P)∧(0≤x.b∧x.b<P)
 ne:x.k=0→x.a≠x.b
theorem chkAct_ok{P N:Int}{x:MA}:A7o P N x=0↔Ok P N x:=by
 unfold A7o
 constructor
 ·intro h
  by_cases h1:A4v x.k<0
  ·rw [if_pos h1]at h;cases h
  rw [if_neg h1]at h
  have hk:=persN_of h1
  by_cases h2:A4v x.k=0∧(x.a≠0∨x.b≠0)
  ·rw [if_pos h2]at h;cases h
  rw [if_neg h2]at h
  by_cases h3:A4v x.k > 0∧(outZ x.a 0 (P-1)∨outZ x.b 0 (P-1))
  ·rw [if_pos h3]at h;cases h
  rw [if_neg h3]at h
  by_cases h4:outZ x.h 0 (N-1)
  ·rw [if_pos h4]at h;cases h
  rw [if_neg h4]at h
  by_cases h5:x.k=0∧x.a=x.b
  ·rw [if_pos h5]at h;cases h
  unfold outZ at h3 h4
  refine⟨hk,oM,fun e=>?_,fun e=>?_,fun e e'=>h5 ⟨e,e'⟩⟩
  ·have:A4v x.k=0:=by unfold A4v;rw [if_pos e]
   rw [this]at h2
   simp only [true_and,not_or,Classical.not_not]at h2
   exact h2
  ·have:A4v x.k=2:=by unfold A4v;rw [if_neg e,if_pos oM]
   rw [this]at h3
   omega
 ·intro ⟨h1,h2,h3,h4,h5⟩
  have k0:¬A4v x.k<0:=by unfold A4v;split;omega;rw [if_pos oM];omega
  rw [if_neg k0,if_neg (by
   rintro⟨a,b⟩
   have:x.k=1:=by
    unfold A4v at a
    by_cases e:x.k=1
    ·exact e
    ·rw [if_neg e,if_pos oM]at a;omega
   have:=h3 this;omega),if_neg (by
   rintro⟨a,b⟩
   have e:x.k≠1:=fun e=>by unfold A4v at a;rw [if_pos e]at a;omega
   have:=h4 e
   unfold outZ at b;omega),if_neg (by unfold outZ;omega),if_neg (fun⟨a,b⟩=>h5 a b)]
theorem chkActs_ok{P N:Int}:∀{l:List MA},A5i P N l=0↔∀x∈l,Ok P N x
 | []=>by simp [A5i]
 | x::l=>by
  unfold A5i
  by_cases h:A7o P N x=0
  ·rw [if_neg (by simpa using h),chkActs_ok (l:=l)]
   simp [chkAct_ok.1 h]
  ·rw [if_pos h]
   constructor
   ·intro e;exact absurd e h
   ·intro e;exact absurd (chkAct_ok.2 (e x sM)) h
theorem chkDawn_ok{P:Int}:∀{l:List Int},A6c P l=0↔∀x∈l,0≤x∧x<P
 | []=>by simp [A6c]
 | x::l=>by
  unfold A6c
  by_cases h:outZ x 0 (P-1)
  ·rw [if_pos h]
   constructor
   ·intro e;cases e
   ·intro e
    have:=e x sM
    unfold outZ at h;omega
  ·rw [if_neg h,chkDawn_ok (l:=l)]
   have:0≤x∧x<P:=by unfold outZ at h;omega
   simp [this]
structure MOk(P:Int)(d:List Int):Prop where
 p:1≤P∧P≤4
 len:1≤d.length∧d.length≤3
 all:∀x∈d,0≤x∧x<P
theorem chkMorn_ok{P:Int}{d:List Int}:A4l P d=0↔MOk P d:=by
 unfold A4l
 by_cases h1:outZ P 1 4
 ·rw [if_pos h1]
  constructor
  ·intro e;cases e
  ·intro e;have:=e.p;unfold outZ at h1;omega
 rw [if_neg h1]
 by_cases h2:d.length=0
 ·rw [if_pos h2]
  constructor
  ·intro e;cases e
  ·intro e;have:=e.len;omega
 rw [if_neg h2]
 by_cases h3:d.length > 3
 ·rw [if_pos h3]
  constructor
  ·intro e;cases e
  ·intro e;have:=e.len;omega
 rw [if_neg h3,chkDawn_ok]
 unfold outZ at h1
 exact⟨fun h=>⟨oM,oM,h⟩,fun h=>h.all⟩
end Go.Pal.To
end
section
namespace Go.Proofs.YtclejblcnfaeaaaGreat
open Go Go.Pal Go.Pal.To Go.Conc View
open Go.Proofs.Tryz
set_option maxHeartbeats 4000000
set_option maxRecDepth 20000
section
variable{mn:Who}{v:View}
def _root_.Go.Pal.To.MA.cells(x:MA):List Value:=[intV x.k,intV x.a,intV x.b,intV x.h]
abbrev _root_.Go.Pal.To.MA.val(x:MA):Value:=.agg (List.toArray [intV x.k,intV x.a,intV x.b,intV x.h])
def ActsAt(v:View)(a:Option Addr)(l:List MA):Prop:=RowAt v a (l.map MA.cells).flatten
theorem ActsAt.le{u v:View}{a:Option Addr}{l:List MA}(h:ActsAt u a l)(hl:u.Le v):ActsAt v a l:=RowAt.le h hl
theorem ActsAt.get{a:Option Addr}{l:List MA}(h:ActsAt v a l){i:Nat}(hi:i<l.length):∃b off p c e f,a=some ⟨b,off,none⟩∧v b=some (p,.cells c e f)∧∀j (hj:j<l.length),off+j*4+4≤c.size∧c.extract (off+j*4) (off+j*4+4)=l[j].cells.toArray:=by
 obtain⟨b,off,p,c,e,f,h1,h2,h3⟩:=RowAt.recs (k:=4) h (by simp [MA.cells]) dM (by simpa using hi)
 refine⟨b,off,p,c,e,f,h1,h2,fun j hj=>?_⟩
 have:=h3 j (by simpa using hj)
 simpa using this
abbrev moV(P:Int)(a:Option Addr)(n cap:Nat):Value:=.agg (List.toArray [intV P,.slice a n cap])
theorem A3g{n lo hi:Int}:Ret1 prog mn 81 [intV n,intV lo,intV hi] (.bool (decide (outZ n lo hi))) v:=by
 refine A0d tab func81 Y nB (args:=[_,_,_]) ?_
 repeat (first|refine st ?_|refine qb fun bx=>?_)
 refine Q_guard Y Y (fun h=>?_) (fun h=>?_)
 ·replace h:=fa h
  repeat (first|refine st ?_|refine qb fun bx=>?_)
  refine A0g tab [] (by exact .tmp rfl .nil) (Back.here cntL) ?_
  refine⟨?_,Y⟩
  simp [A4e,outZ,h]
 ·replace h:=fa h
  repeat (first|refine st ?_|refine qb fun bx=>?_)
  refine A0g tab [] (by exact .tmp rfl .nil) (Back.here cntL) ?_
  refine⟨?_,Y⟩
  simp [A4e,outZ,h]
theorem persons_x{k:Int}:Ret1 prog mn 86 [intV k] (intV (A4v k)) v:=by
 refine A0d tab func86 Y nB (args:=[_]) ?_
 repeat (first|refine st ?_|refine qb fun bx=>?_)
 by_cases h0:k=0
 ·subst h0
  repeat (first|refine st ?_|refine qb fun bx=>?_)
  refine A0g tab [] (by exact .tmp rfl .nil) (Back.here cntL) ?_
  exact⟨Y,Y⟩
 rw [show(k==0)=false from by simpa using h0]
 repeat (first|refine st ?_|refine qb fun bx=>?_)
 by_cases h2:k=2
 ·subst h2
  repeat (first|refine st ?_|refine qb fun bx=>?_)
  refine A0g tab [] (by exact .tmp rfl .nil) (Back.here cntL) ?_
  exact⟨Y,Y⟩
 rw [show(k==2)=false from by simpa using h2]
 repeat (first|refine st ?_|refine qb fun bx=>?_)
 by_cases h1:k=1
 ·subst h1
  repeat (first|refine st ?_|refine qb fun bx=>?_)
  refine A0g tab [] (by exact .tmp rfl .nil) (Back.here cntL) ?_
  exact⟨Y,Y⟩
 rw [show(k==1)=false from by simpa using h1]
 repeat (first|refine st ?_|refine qb fun bx=>?_)
 refine A0g tab [] (by exact .tmp rfl .nil) (Back.here cntL) ?_
 refine⟨?_,Y⟩
 unfold A4v
 rw [if_neg h1,if_neg (by rintro(h|h);exact h0 h;exact h2 h)]
 rfl
theorem morn_x{P:Int}{a:Option Addr}{cap:Nat}{d:List Int}(hd:RowAt v a (d.map intV))(hlen:d.length<2^30):Ret1 prog mn 22 [moV P a d.length cap] (intV (A4l P d)) v:=by
 refine A0d tab func22 Y nB (args:=[_]) ?_
 repeat (first|refine st ?_|refine qb fun bx=>?_)
 refine Q_op fun ho=>A0t ho B3e Y Y Y Y Y A3g ?_
 clear ho
 by_cases h1:outZ P 1 4
 ·rw [show decide (outZ P 1 4)=true from decide_eq_true h1]
  repeat (first|refine st ?_|refine qb fun bx=>?_)
  refine A0g tab [] (by exact .tmp rfl .nil) (Back.here cntL) ?_
  exact⟨by unfold A4l;rw [if_pos h1];rfl,Y⟩
 rw [show decide (outZ P 1 4)=false from decide_eq_false h1]
 have hP:1≤P∧P≤4:=by unfold outZ at h1;omega
 repeat (first|refine st ?_|refine qb fun bx=>?_)
 by_cases h2:d.length=0
 ·rw [show((d.length:Int)==0)=true from by rw [h2];rfl]
  repeat (first|refine st ?_|refine qb fun bx=>?_)
  refine A0g tab [] (by exact .tmp rfl .nil) (Back.here cntL) ?_
  exact⟨by unfold A4l;rw [if_neg h1,if_pos h2];rfl,Y⟩
 rw [show((d.length:Int)==0)=false from by rw [beq_eq_false_iff_ne];omega]
 repeat (first|refine st ?_|refine qb fun bx=>?_)
 by_cases h3:d.length > 3
 ·rw [show decide ((d.length:Int) > 3)=true from decide_eq_true oM]
  repeat (first|refine st ?_|refine qb fun bx=>?_)
  refine A0g tab [] (by exact .tmp rfl .nil) (Back.here cntL) ?_
  exact⟨by unfold A4l;rw [if_neg h1,if_neg h2,if_pos h3];rfl,Y⟩
 rw [show decide ((d.length:Int) > 3)=false from decide_eq_false oM]
 repeat (first|refine st ?_|refine qb fun bx=>?_)
 have hcm:A4l P d=A6c P d:=by unfold A4l;rw [if_neg h1,if_neg h2,if_neg h3]
 rw [hcm]
 refine A1k (α:=Nat) (fun i=>⟨[],[(22,.int .i64 i),(21,.int .i64 d.length),(20,.slice a d.length cap),(1,.pointer (some ⟨bx,0,none⟩))],[(bx,List.toArray [intV P,.slice a d.length cap],24)]⟩)
  (fun i u=>u=v∧i≤d.length∧A6c P (d.drop i)=A6c P d) (fun i=>d.length-i) 0 ⟨Y,rg,cntL⟩ (Le.refl _) ⟨Y,Nat.zero_le _,Y⟩ ?_
 rintro i u ⟨rfl,hi,hr⟩
 repeat (first|refine st ?_|refine qb fun bx=>?_)
 refine A0y Y (fun h=>?_) (fun h=>?_)
 ·replace h:=fa h
  have hlt:i<d.length:=oM
  obtain⟨bb,off,p,c,e,f,rfl,hv,hc⟩:=hd.get hlt
  rw [List.drop_eq_getElem_cons hlt,show A6c P (d[i]::d.drop (i+1))=(if outZ d[i] 0 (P-1)then 3 else A6c P (d.drop (i+1)))from rfl]at hr
  repeat (first|refine st ?_|refine qb fun bx=>?_)
  refine A4j tab i Y Y Y Y Y Y Y hlt ?_
  refine A1w tab Y Y Y hv (A0j tab Y Y Y (by rw [Nat.mul_one];exact hc _ hlt)) ?_
  repeat (first|refine st ?_|refine qb fun bx=>?_)
  refine Q_op fun ho=>A0t ho B3e Y Y Y Y Y A3g ?_
  clear ho
  by_cases h4:outZ d[i] 0 (P-1)
  ·rw [show decide (outZ d[i] 0 (P-1))=true from decide_eq_true h4]
   rw [if_pos h4]at hr
   repeat (first|refine st ?_|refine qb fun bx=>?_)
   refine A0g tab [] (by exact .tmp rfl .nil) (Back.here cntL) ?_
   exact⟨by rw [←hr];rfl,Y⟩
  ·rw [show decide (outZ d[i] 0 (P-1))=false from decide_eq_false h4]
   rw [if_neg h4]at hr
   repeat (first|refine st ?_|refine qb fun bx=>?_)
   exact A0a ⟨i+1,u,oM,⟨Y,rg,cntL⟩,Le.refl _,Y,hlt,hr⟩
 ·replace h:=fa h
  have hin:i=d.length:=oM
  rw [hin,List.drop_length]at hr
  repeat (first|refine st ?_|refine qb fun bx=>?_)
  refine A0g tab [] (by exact .tmp rfl .nil) (Back.here cntL) ?_
  exact⟨by rw [←hr];rfl,Y⟩
theorem checkAct_x{P:Int}{a:Option Addr}{n cap:Nat}{x:MA}(hP:1≤P∧P≤4)(hn:n<2^30):Ret1 prog mn 137 [moV P a n cap,x.val] (intV (A7o P n x)) v:=by
 obtain⟨k,xa,xb,xh⟩:=x
 refine A0d tab func137 Y nB (args:=[_,_]) ?_
 repeat (first|refine st ?_|refine qb fun bx=>?_)
 refine Q_op fun ho=>A0t ho bod86 Y Y Y Y Y persons_x ?_
 clear ho
 unfold A7o
 dsimp only
 generalize A4v k=q
 repeat (first|refine st ?_|refine qb fun bx=>?_)
 by_cases h1:q<0
 ·rw [show decide (q<0)=true from decide_eq_true h1,if_pos h1]
  repeat (first|refine st ?_|refine qb fun bx=>?_)
  refine A0g tab [] (by exact .tmp rfl .nil) (Back.here cntL) ?_
  exact⟨Y,Y⟩
 rw [show decide (q<0)=false from decide_eq_false h1,if_neg h1]
 repeat (first|refine st ?_|refine qb fun bx=>?_)
 by_cases h2:q=0
 ·subst h2
  rw [if_neg (show ¬((0:Int) > 0∧(outZ xa 0 (P-1)∨outZ xb 0 (P-1)))from fun h=>absurd h.1 dM)]
  repeat (first|refine st ?_|refine qb fun bx=>?_)
  by_cases h4:xa=0
  ·subst h4
   repeat (first|refine st ?_|refine qb fun bx=>?_)
   by_cases h5:xb=0
   ·subst h5
    repeat (first|refine st ?_|refine qb fun bx=>?_)
    rw [if_neg (by rintro⟨-,h|h⟩<;>exact h Y)]
    refine Q_op fun ho=>A0t ho B3e Y Y Y Y Y A3g ?_
    clear ho
    by_cases h6:outZ xh 0 ((n:Int)-1)
    ·rw [show decide (outZ xh 0 ((n:Int)-1))=true from decide_eq_true h6,if_pos h6]
     repeat (first|refine st ?_|refine qb fun bx=>?_)
     refine A0g tab [] (by exact .tmp rfl .nil) (Back.here cntL) ?_
     exact⟨Y,Y⟩
    rw [show decide (outZ xh 0 ((n:Int)-1))=false from decide_eq_false h6,if_neg h6]
    repeat (first|refine st ?_|refine qb fun bx=>?_)
    by_cases h7:k=0
    ·subst h7
     repeat (first|refine st ?_|refine qb fun bx=>?_)
     rw [if_pos ⟨Y,Y⟩]
     refine A0g tab [] (by exact .tmp rfl .nil) (Back.here cntL) ?_
     exact⟨Y,Y⟩
    ·rw [show(k==0)=false from by simpa using h7,if_neg (fun h=>h7 h.1)]
     repeat (first|refine st ?_|refine qb fun bx=>?_)
     refine A0g tab [] (by exact .tmp rfl .nil) (Back.here cntL) ?_
     exact⟨Y,Y⟩
   ·rw [show(xb != 0)=true from by simpa using h5,if_pos ⟨Y,.inr h5⟩]
    repeat (first|refine st ?_|refine qb fun bx=>?_)
    refine A0g tab [] (by exact .tmp rfl .nil) (Back.here cntL) ?_
    exact⟨Y,Y⟩
  ·rw [show(xa != 0)=true from by simpa using h4,if_pos ⟨Y,.inl h4⟩]
   repeat (first|refine st ?_|refine qb fun bx=>?_)
   refine A0g tab [] (by exact .tmp rfl .nil) (Back.here cntL) ?_
   exact⟨Y,Y⟩
 ·rw [show(q==0)=false from by simpa using h2,if_neg (fun h=>h2 h.1)]
  have h3:q > 0:=oM
  repeat (first|refine st ?_|refine qb fun bx=>?_)
  rw [show decide (q > 0)=true from decide_eq_true h3]
  repeat (first|refine st ?_|refine qb fun bx=>?_)
  refine Q_op fun ho=>A0t ho B3e Y Y Y Y Y A3g ?_
  clear ho
  by_cases h4:outZ xa 0 (P-1)
  ·rw [show decide (outZ xa 0 (P-1))=true from decide_eq_true h4,if_pos ⟨h3,.inl h4⟩]
   repeat (first|refine st ?_|refine qb fun bx=>?_)
   refine A0g tab [] (by exact .tmp rfl .nil) (Back.here cntL) ?_
   exact⟨Y,Y⟩
  rw [show decide (outZ xa 0 (P-1))=false from decide_eq_false h4]
  repeat (first|refine st ?_|refine qb fun bx=>?_)
  refine Q_op fun ho=>A0t ho B3e Y Y Y Y Y A3g ?_
  clear ho
  by_cases h5:outZ xb 0 (P-1)
  ·rw [show decide (outZ xb 0 (P-1))=true from decide_eq_true h5,if_pos ⟨h3,.inr h5⟩]
   repeat (first|refine st ?_|refine qb fun bx=>?_)
   refine A0g tab [] (by exact .tmp rfl .nil) (Back.here cntL) ?_
   exact⟨Y,Y⟩
  rw [show decide (outZ xb 0 (P-1))=false from decide_eq_false h5,if_neg (fun h=>h.2.elim h4 h5)]
  repeat (first|refine st ?_|refine qb fun bx=>?_)
  refine Q_op fun ho=>A0t ho B3e Y Y Y Y Y A3g ?_
  clear ho
  by_cases h6:outZ xh 0 ((n:Int)-1)
  ·rw [show decide (outZ xh 0 ((n:Int)-1))=true from decide_eq_true h6,if_pos h6]
   repeat (first|refine st ?_|refine qb fun bx=>?_)
   refine A0g tab [] (by exact .tmp rfl .nil) (Back.here cntL) ?_
   exact⟨Y,Y⟩
  rw [show decide (outZ xh 0 ((n:Int)-1))=false from decide_eq_false h6,if_neg h6]
  repeat (first|refine st ?_|refine qb fun bx=>?_)
  by_cases h7:k=0
  ·subst h7
   repeat (first|refine st ?_|refine qb fun bx=>?_)
   by_cases h8:xa=xb
   ·rw [show(xa==xb)=true from by simpa using h8,if_pos ⟨Y,h8⟩]
    repeat (first|refine st ?_|refine qb fun bx=>?_)
    refine A0g tab [] (by exact .tmp rfl .nil) (Back.here cntL) ?_
    exact⟨Y,Y⟩
   ·rw [show(xa==xb)=false from by simpa using h8,if_neg (fun h=>h8 h.2)]
    repeat (first|refine st ?_|refine qb fun bx=>?_)
    refine A0g tab [] (by exact .tmp rfl .nil) (Back.here cntL) ?_
    exact⟨Y,Y⟩
  ·rw [show(k==0)=false from by simpa using h7,if_neg (fun h=>h7 h.1)]
   repeat (first|refine st ?_|refine qb fun bx=>?_)
   refine A0g tab [] (by exact .tmp rfl .nil) (Back.here cntL) ?_
   exact⟨Y,Y⟩
end
end Go.Proofs.YtclejblcnfaeaaaGreat
end
section
namespace Go.Pal.To
open Go
def ow(os:List Int)(i:Nat):Int:=os[i]?.getD (-1)
def ownH(os:List Int)(h:Int):Int:=ow os h.toNat
def B2p(os:List Int)(x:MA):ByteArray:=
 if x.k=0 then(if sold os x then⟨#[111,107]⟩else⟨#[110,111]⟩)
 else if x.k=2 then(if ownH os x.h=x.b then⟨#[115,111]⟩else⟨#[110,111,116]⟩)
 else Utf8.encode (IntKind.i32.wrap (IntKind.i64.wrap (48+ownH os x.h)))
theorem ow_get{os:List Int}{i:Nat}(h:i<os.length):ow os i=os[i]:=by simp [ow,h]
theorem sold_iff{os:List Int}{x:MA}(hh:0≤x.h∧x.h<os.length):sold os x=true↔x.k=0∧ownH os x.h=x.a:=by
 unfold sold ownH ow
 have:x.h.toNat<os.length:=oM
 simp [this]
theorem refd_iff{os:List Int}{x:MA}(hh:0≤x.h∧x.h<os.length):refd os x=true↔x.k=0∧ownH os x.h≠x.a:=by
 unfold refd ownH ow
 have:x.h.toNat<os.length:=oM
 simp [this]
theorem doN_len(os:List Int)(x:MA):(doN os x).length=os.length:=by unfold doN;split<;>simp
theorem A6m:∀(l:List MA) (os:List Int),(A3r os l).length=os.length
 | [],os=>rfl
 | x::l,os=>by
  show(A3r (doN os x) l).length=_
  rw [A6m l,doN_len]
theorem ow_set{os:List Int}{h:Nat}{b:Int}(hh:h<os.length)(i:Nat):ow (os.set h b) i=if i=h then b else ow os i:=by
 unfold ow
 rw [List.getElem?_set]
 by_cases e:i=h
 ·subst e;simp [hh]
 ·rw [if_neg (Ne.symm e),if_neg e]
end Go.Pal.To
end
