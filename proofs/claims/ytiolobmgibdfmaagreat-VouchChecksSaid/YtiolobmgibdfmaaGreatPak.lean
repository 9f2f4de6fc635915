/- Part 11. -/
import Derived.Test.YtiolobmgibdfmaaGreatPaj
set_option linter.all false
section
namespace Go.Proofs.YtiolobmgibdfmaaGreat
open Go Go.Pal Go.Conc View
set_option maxHeartbeats 4000000
structure Hold(q:Prop):Prop where h:q
theorem cs{p q:Prop}(h:q)(k:Hold q→p:=by(intro h;(first|((with_reducible apply Q_add tab);(focus (exact Z));(focus (exact Z));(focus (exact Z));(focus (exact Z));(focus (omega));(focus (omega)))|((with_reducible apply Q_sub tab);(focus (exact Z));(focus (exact Z));(focus (exact Z));(focus (exact Z));(focus (omega));(focus (omega)))|((with_reducible apply Q_loadN tab);(focus (exact Z));(focus (exact Z));(focus (exact Z));(focus (((repeat (first|exact InB.head|apply InB.tail|(with_reducible apply InB.app)));done)));(focus (exact Z)))|((with_reducible apply Q_store tab);(focus (exact Z));(focus (exact Z));(focus (exact Z));(focus (exact Z));(focus (exact Z));(focus (exact Z));(focus (((repeat (first|exact InB.head|apply InB.tail|(with_reducible apply InB.app)));done)));(focus (exact Z));(focus (((repeat (first|exact SetB.head|apply SetB.tail|(with_reducible apply SetB.app)));done))))|((with_reducible apply Q_pure tab);(focus (exact Z));(focus (exact Z));(focus (exact Z)))|(with_reducible apply Q_nil)|((with_reducible apply Q_skip);(focus (exact Z));(focus (exact Z)))|(with_reducible apply A7g)|(with_reducible apply A5o)|(with_reducible apply B4g)|(with_reducible apply A5c)|(with_reducible apply XC_ret)|(with_reducible apply B0y)|(with_reducible apply Seq_ret)|(with_reducible apply B2j)|(with_reducible apply XC_exit)|(with_reducible apply B2i)|(with_reducible apply B0x)|(with_reducible apply XC_skip)|(with_reducible apply B2h)|(with_reducible apply B2g)|(with_reducible apply A8v)|((with_reducible apply A8w);(focus (exact Z)))|((with_reducible apply B2l);(focus (exact Z)))|((with_reducible apply A6n);(focus (exact Z)))|((with_reducible apply A5n);(focus (exact Z)))|((with_reducible apply C_lex' A1w);(focus (exact Z));(focus (kernel_rfl)))|((with_reducible apply L_add tab);(focus (exact Z));(focus (exact Z));(focus (exact Z));(focus (exact Z));(focus (omega));(focus (omega)))|((with_reducible apply L_sub tab);(focus (exact Z));(focus (exact Z));(focus (exact Z));(focus (exact Z));(focus (omega));(focus (omega)))|((with_reducible apply L_pure tab);(focus (exact Z));(focus (exact Z));(focus (exact Z)))|(with_reducible apply XL_nil)|((with_reducible apply L_loadN tab);(focus (exact Z));(focus (exact Z));(focus (exact Z));(focus (((repeat (first|exact InB.head|apply InB.tail|(with_reducible apply InB.app)));done)));(focus (exact Z)))|((with_reducible apply L_skip);(focus (exact Z));(focus (exact Z))));(repeat (first|((with_reducible apply Q_add tab);(focus (exact Z));(focus (exact Z));(focus (exact Z));(focus (exact Z));(focus (omega));(focus (omega)))|((with_reducible apply Q_sub tab);(focus (exact Z));(focus (exact Z));(focus (exact Z));(focus (exact Z));(focus (omega));(focus (omega)))|((with_reducible apply Q_loadN tab);(focus (exact Z));(focus (exact Z));(focus (exact Z));(focus (((repeat (first|exact InB.head|apply InB.tail|(with_reducible apply InB.app)));done)));(focus (exact Z)))|((with_reducible apply Q_store tab);(focus (exact Z));(focus (exact Z));(focus (exact Z));(focus (exact Z));(focus (exact Z));(focus (exact Z));(focus (((repeat (first|exact InB.head|apply InB.tail|(with_reducible apply InB.app)));done)));(focus (exact Z));(focus (((repeat (first|exact SetB.head|apply SetB.tail|(with_reducible apply SetB.app)));done))))|((with_reducible apply Q_pure tab);(focus (exact Z));(focus (exact Z));(focus (exact Z)))|(with_reducible apply Q_nil)|((with_reducible apply Q_skip);(focus (exact Z));(focus (exact Z)))|(with_reducible apply A7g)|(with_reducible apply A5o)|(with_reducible apply B4g)|(with_reducible apply A5c)|(with_reducible apply XC_ret)|(with_reducible apply B0y)|(with_reducible apply Seq_ret)|(with_reducible apply B2j)|(with_reducible apply XC_exit)|(with_reducible apply B2i)|(with_reducible apply B0x)|(with_reducible apply XC_skip)|(with_reducible apply B2h)|(with_reducible apply B2g)|(with_reducible apply A8v)|((with_reducible apply A8w);(focus (exact Z)))|((with_reducible apply B2l);(focus (exact Z)))|((with_reducible apply A6n);(focus (exact Z)))|((with_reducible apply A5n);(focus (exact Z)))|((with_reducible apply C_lex' A1w);(focus (exact Z));(focus (kernel_rfl)))|((with_reducible apply L_add tab);(focus (exact Z));(focus (exact Z));(focus (exact Z));(focus (exact Z));(focus (omega));(focus (omega)))|((with_reducible apply L_sub tab);(focus (exact Z));(focus (exact Z));(focus (exact Z));(focus (exact Z));(focus (omega));(focus (omega)))|((with_reducible apply L_pure tab);(focus (exact Z));(focus (exact Z));(focus (exact Z)))|(with_reducible apply XL_nil)|((with_reducible apply L_loadN tab);(focus (exact Z));(focus (exact Z));(focus (exact Z));(focus (((repeat (first|exact InB.head|apply InB.tail|(with_reducible apply InB.app)));done)));(focus (exact Z)))|((with_reducible apply L_skip);(focus (exact Z));(focus (exact Z)))));exact h.h)):p:=k ⟨h⟩
theorem cr{p q:Prop}(h:q)(k:Hold q→p:=by(intro h;(first|((with_reducible apply Q_add tab);(focus (exact Z));(focus (exact Z));(focus (exact Z));(focus (exact Z));(focus (omega));(focus (omega)))|((with_reducible apply Q_sub tab);(focus (exact Z));(focus (exact Z));(focus (exact Z));(focus (exact Z));(focus (omega));(focus (omega)))|((with_reducible apply Q_loadN tab);(focus (exact Z));(focus (exact Z));(focus (exact Z));(focus (((repeat (first|exact InB.head|apply InB.tail|(with_reducible apply InB.app)));done)));(focus (exact Z)))|((with_reducible apply Q_store tab);(focus (exact Z));(focus (exact Z));(focus (exact Z));(focus (exact Z));(focus (exact Z));(focus (exact Z));(focus (((repeat (first|exact InB.head|apply InB.tail|(with_reducible apply InB.app)));done)));(focus (exact Z));(focus (((repeat (first|exact SetB.head|apply SetB.tail|(with_reducible apply SetB.app)));done))))|((with_reducible apply Q_pure tab);(focus (exact Z));(focus (exact Z));(focus (exact Z)))|(with_reducible apply Q_nil)|((with_reducible apply Q_skip);(focus (exact Z));(focus (exact Z)))|(with_reducible apply A7g)|(with_reducible apply C_seqR)|(with_reducible apply B4g)|(with_reducible apply A5c)|(with_reducible apply XC_ret)|(with_reducible apply B0y)|(with_reducible apply Seq_ret)|(with_reducible apply B2j)|(with_reducible apply XC_exit)|(with_reducible apply B2i)|(with_reducible apply B0x)|(with_reducible apply XC_skip)|(with_reducible apply B2h)|(with_reducible apply B2g)|(with_reducible apply A8v)|((with_reducible apply A8w);(focus (exact Z)))|((with_reducible apply B2l);(focus (exact Z)))|((with_reducible apply A6n);(focus (exact Z)))|((with_reducible apply A5n);(focus (exact Z)))|((with_reducible apply C_lex' A1w);(focus (exact Z));(focus (kernel_rfl)))|((with_reducible apply L_add tab);(focus (exact Z));(focus (exact Z));(focus (exact Z));(focus (exact Z));(focus (omega));(focus (omega)))|((with_reducible apply L_sub tab);(focus (exact Z));(focus (exact Z));(focus (exact Z));(focus (exact Z));(focus (omega));(focus (omega)))|((with_reducible apply L_pure tab);(focus (exact Z));(focus (exact Z));(focus (exact Z)))|(with_reducible apply XL_nil)|((with_reducible apply L_loadN tab);(focus (exact Z));(focus (exact Z));(focus (exact Z));(focus (((repeat (first|exact InB.head|apply InB.tail|(with_reducible apply InB.app)));done)));(focus (exact Z)))|((with_reducible apply L_skip);(focus (exact Z));(focus (exact Z))));(repeat (first|((with_reducible apply Q_add tab);(focus (exact Z));(focus (exact Z));(focus (exact Z));(focus (exact Z));(focus (omega));(focus (omega)))|((with_reducible apply Q_sub tab);(focus (exact Z));(focus (exact Z));(focus (exact Z));(focus (exact Z));(focus (omega));(focus (omega)))|((with_reducible apply Q_loadN tab);(focus (exact Z));(focus (exact Z));(focus (exact Z));(focus (((repeat (first|exact InB.head|apply InB.tail|(with_reducible apply InB.app)));done)));(focus (exact Z)))|((with_reducible apply Q_store tab);(focus (exact Z));(focus (exact Z));(focus (exact Z));(focus (exact Z));(focus (exact Z));(focus (exact Z));(focus (((repeat (first|exact InB.head|apply InB.tail|(with_reducible apply InB.app)));done)));(focus (exact Z));(focus (((repeat (first|exact SetB.head|apply SetB.tail|(with_reducible apply SetB.app)));done))))|((with_reducible apply Q_pure tab);(focus (exact Z));(focus (exact Z));(focus (exact Z)))|(with_reducible apply Q_nil)|((with_reducible apply Q_skip);(focus (exact Z));(focus (exact Z)))|(with_reducible apply A7g)|(with_reducible apply C_seqR)|(with_reducible apply B4g)|(with_reducible apply A5c)|(with_reducible apply XC_ret)|(with_reducible apply B0y)|(with_reducible apply Seq_ret)|(with_reducible apply B2j)|(with_reducible apply XC_exit)|(with_reducible apply B2i)|(with_reducible apply B0x)|(with_reducible apply XC_skip)|(with_reducible apply B2h)|(with_reducible apply B2g)|(with_reducible apply A8v)|((with_reducible apply A8w);(focus (exact Z)))|((with_reducible apply B2l);(focus (exact Z)))|((with_reducible apply A6n);(focus (exact Z)))|((with_reducible apply A5n);(focus (exact Z)))|((with_reducible apply C_lex' A1w);(focus (exact Z));(focus (kernel_rfl)))|((with_reducible apply L_add tab);(focus (exact Z));(focus (exact Z));(focus (exact Z));(focus (exact Z));(focus (omega));(focus (omega)))|((with_reducible apply L_sub tab);(focus (exact Z));(focus (exact Z));(focus (exact Z));(focus (exact Z));(focus (omega));(focus (omega)))|((with_reducible apply L_pure tab);(focus (exact Z));(focus (exact Z));(focus (exact Z)))|(with_reducible apply XL_nil)|((with_reducible apply L_loadN tab);(focus (exact Z));(focus (exact Z));(focus (exact Z));(focus (((repeat (first|exact InB.head|apply InB.tail|(with_reducible apply InB.app)));done)));(focus (exact Z)))|((with_reducible apply L_skip);(focus (exact Z));(focus (exact Z)))));exact h.h)):p:=k ⟨h⟩
theorem ss{p q:Prop}(h:q)(k:Hold q→p:=by(intro h;(first|((with_reducible apply S_add tab);(focus (exact Z));(focus (exact Z));(focus (exact Z));(focus (kernel_rfl));(focus (exact Z));(focus (exact Z));(focus (omega));(focus (omega)))|((with_reducible apply S_sub tab);(focus (exact Z));(focus (exact Z));(focus (exact Z));(focus (kernel_rfl));(focus (exact Z));(focus (exact Z));(focus (omega));(focus (omega)))|((with_reducible apply S_pure tab);(focus (exact Z));(focus (exact Z));(focus (exact Z));(focus (kernel_rfl));(focus (exact Z)))|((with_reducible apply S_loadN tab);(focus (exact Z));(focus (exact Z));(focus (exact Z));(focus (kernel_rfl));(focus (exact Z));(focus (((repeat (first|exact InB.head|apply InB.tail|(with_reducible apply InB.app)));done)));(focus (exact Z)))|((with_reducible apply S_skip);(focus (exact Z));(focus (exact Z));(focus (exact Z));(focus (kernel_rfl)))|((with_reducible apply S_end);(focus (kernel_rfl))));(repeat (first|((with_reducible apply S_add tab);(focus (exact Z));(focus (exact Z));(focus (exact Z));(focus (kernel_rfl));(focus (exact Z));(focus (exact Z));(focus (omega));(focus (omega)))|((with_reducible apply S_sub tab);(focus (exact Z));(focus (exact Z));(focus (exact Z));(focus (kernel_rfl));(focus (exact Z));(focus (exact Z));(focus (omega));(focus (omega)))|((with_reducible apply S_pure tab);(focus (exact Z));(focus (exact Z));(focus (exact Z));(focus (kernel_rfl));(focus (exact Z)))|((with_reducible apply S_loadN tab);(focus (exact Z));(focus (exact Z));(focus (exact Z));(focus (kernel_rfl));(focus (exact Z));(focus (((repeat (first|exact InB.head|apply InB.tail|(with_reducible apply InB.app)));done)));(focus (exact Z)))|((with_reducible apply S_skip);(focus (exact Z));(focus (exact Z));(focus (exact Z));(focus (kernel_rfl)))|((with_reducible apply S_end);(focus (kernel_rfl)))));exact h.h)):p:=k ⟨h⟩
theorem pn{p q:Prop}(h:q)(k:Hold q→p:=by(intro h;(repeat (first|(with_reducible apply Seq_panic)|(with_reducible apply Block_panic)|(with_reducible apply Loop_panic)));exact h.h)):p:=k ⟨h⟩
theorem cntA{a b:A0j}(h:∀p,cnt p a=cnt p b:=by(first|exact fun _=>rfl|(intro p;simp only [A2g,B2f,cnt_nil];try omega))):∀p,cnt p a=cnt p b:=h
theorem cntL{a b:A0j}(h:∀p,cnt p a≤cnt p b:=by(first|exact fun _=>Nat.le_refl _|(intro p;simp only [A2g,B2f,cnt_nil];try omega))):∀p,cnt p a≤cnt p b:=h
theorem st{p q:Prop}(h:q)(k:Hold q→p:=by(intro h;(first|refine cs ?_|refine ss ?_|refine S_do kR (B0z tab Z Z Z Z Z Z Z (by((repeat (first|exact InB.head|apply InB.tail|(with_reducible apply InB.app)));done)) (by exact Z) (by((repeat (first|exact SetB.head|apply SetB.tail|(with_reducible apply SetB.app)));done)) ⟨Le.refl _,(by(repeat (first|exact trivial|(apply And.intro;(focus (first|(apply Or.inr;(try dsimp only);((repeat (first|exact InB.head|apply InB.tail|(with_reducible apply InB.app)));done))|(apply Or.inl;kernel_rfl))))))),?_⟩));(repeat (first|refine cs ?_|refine ss ?_|refine S_do kR (B0z tab Z Z Z Z Z Z Z (by((repeat (first|exact InB.head|apply InB.tail|(with_reducible apply InB.app)));done)) (by exact Z) (by((repeat (first|exact SetB.head|apply SetB.tail|(with_reducible apply SetB.app)));done)) ⟨Le.refl _,(by(repeat (first|exact trivial|(apply And.intro;(focus (first|(apply Or.inr;(try dsimp only);((repeat (first|exact InB.head|apply InB.tail|(with_reducible apply InB.app)));done))|(apply Or.inl;kernel_rfl))))))),?_⟩)));exact h.h)):p:=k ⟨h⟩
theorem sr{p q:Prop}(h:q)(k:Hold q→p:=by(intro h;(first|refine cr ?_|refine ss ?_|refine S_do kR (B0z tab Z Z Z Z Z Z Z (by((repeat (first|exact InB.head|apply InB.tail|(with_reducible apply InB.app)));done)) (by exact Z) (by((repeat (first|exact SetB.head|apply SetB.tail|(with_reducible apply SetB.app)));done)) ⟨Le.refl _,(by(repeat (first|exact trivial|(apply And.intro;(focus (first|(apply Or.inr;(try dsimp only);((repeat (first|exact InB.head|apply InB.tail|(with_reducible apply InB.app)));done))|(apply Or.inl;kernel_rfl))))))),?_⟩));(repeat (first|refine cr ?_|refine ss ?_|refine S_do kR (B0z tab Z Z Z Z Z Z Z (by((repeat (first|exact InB.head|apply InB.tail|(with_reducible apply InB.app)));done)) (by exact Z) (by((repeat (first|exact SetB.head|apply SetB.tail|(with_reducible apply SetB.app)));done)) ⟨Le.refl _,(by(repeat (first|exact trivial|(apply And.intro;(focus (first|(apply Or.inr;(try dsimp only);((repeat (first|exact InB.head|apply InB.tail|(with_reducible apply InB.app)));done))|(apply Or.inl;kernel_rfl))))))),?_⟩)));exact h.h)):p:=k ⟨h⟩
theorem qb{p:Prop}{q:Nat→Prop}(h:∀b,q b)(k:Hold (∀b,q b)→p:=by(intro h;first|((((with_reducible apply Q_box);(focus (exact Z));(focus (exact Z));(focus (exact Z))));exact h.h)|((((with_reducible apply Q_alloc tab);(focus (exact Z));(focus (exact Z));(focus (exact Z))));exact h.h))):p:=k ⟨h⟩
theorem ib{p:Prop}(k:p:=by((repeat (first|exact InB.head|apply InB.tail|(with_reducible apply InB.app)));done)):p:=k
theorem sb{p:Prop}(k:p:=by((repeat (first|exact SetB.head|apply SetB.tail|(with_reducible apply SetB.app)));done)):p:=k
theorem kp{p:Prop}(k:p:=by(repeat (first|exact trivial|(apply And.intro;(focus (first|(apply Or.inr;(try dsimp only);((repeat (first|exact InB.head|apply InB.tail|(with_reducible apply InB.app)));done))|(apply Or.inl;kernel_rfl))))))):p:=k
theorem rg{p:Prop}(k:p:=by(repeat (first|exact trivial|refine⟨Z,?_⟩))):p:=k
theorem bo{p:Prop}(k:p:=by(first|assumption|(simp only []at *;omega))):p:=k
theorem fa{p q:Prop}(h:p)(k:p→q:=by(intro h;(simp only [decide_eq_true_eq,decide_eq_false_iff_not,beq_iff_eq,bne_iff_ne,Bool.not_eq_true',beq_eq_false_iff_ne,bne_eq_false_iff_eq,ne_eq]at h);exact h)):q:=k h
end Go.Proofs.YtiolobmgibdfmaaGreat
end
section
namespace Go.Pal.Mu
open Go Go.Conc Go.Pal View
open Go.ConcN (sumTo upd sumTo_upd upd_ne upd_same sumTo_congr le_sumTo)
structure Dist(A:Par):Prop where
 mw:A.Mu≠A.Wg
 mc:A.Mu≠A.Cn
 mm:A.Mu≠A.Cm
 wc:A.Wg≠A.Cn
 wm:A.Wg≠A.Cm
 cm:A.Cn≠A.Cm
 nN:A.N≤2^62
structure OnB(B:Nat)(o:Obj)(w w':World):Prop where
 tape:w'.tape=w.tape
 output:w'.output=w.output
 os:Go.ConcM.OsLater w.os w'.os
 size:w'.heap.size=w.heap.size
 here:w'.heap[B]?=some o
 else_:∀b,b≠B→w'.heap[b]?=w.heap[b]?
theorem OnB.same{B:Nat}{o:Obj}{w:World}(h:w.heap[B]?=some o):OnB B o w w:=⟨Z,Z,.refl _,Z,h,fun _ _=>rfl⟩
theorem OnB.later{B:Nat}{o:Obj}{w:World}(h:w.heap[B]?=some o):OnB B o w w.later:=⟨Z,Z,⟨w.tick,Z⟩,Z,h,fun _ _=>rfl⟩
theorem OnB.asked{B:Nat}{o:Obj}{w:World}(h:w.heap[B]?=some o):OnB B o w w.asked:=⟨Z,Z,.refl _,Z,h,fun _ _=>rfl⟩
theorem OnB.set{B off:Nat}{c:Array Value}{t:TypeId}{fr:Nat×Nat}{w:World}(v:Value)(h:w.heap[B]?=some (.cells c t fr)):OnB B (.cells (c.setIfInBounds off v) t fr) w (w.setCell ⟨B,off,none⟩ v):=by
 refine⟨Z,Z,.refl _,?_,?_,fun b hb=>?_⟩
 ·simp [World.setCell]
 ·simp only [World.setCell,Array.getElem?_modify,if_true,h]
  rfl
 ·simp only [World.setCell,Array.getElem?_modify]
  rw [if_neg (Ne.symm hb)]
theorem A3n{w:World}{B off:Nat}{c:Array Value}{t:TypeId}{fr:Nat×Nat}(h:w.heap[B]?=some (.cells c t fr)):w.cell? ⟨B,off,none⟩=c[off]?:=by simp [World.cell?,h]
theorem A5d{w:World}{B off:Nat}{c:Array Value}{t:TypeId}(h:w.heap[B]?=some (.cells c t (0,0))):w.frozen? ⟨B,off,none⟩=false:=by simp [World.frozen?,h]
def BkE(B:Nat)(e:Event):Prop:=e=mkE .disable∨e=mkE .enable∨∃off wr,e=⟨.cell ⟨B,off,none⟩,wr,true⟩
theorem bk_nil{B:Nat}:∀e∈(#[]:Array Event),BkE B e:=by simp
theorem bk_dis{B:Nat}:∀e∈(#[mkE .disable]:Array Event),BkE B e:=by intro e he;simp at he;exact .inl he
theorem bk_en{B:Nat}:∀e∈(#[mkE .enable]:Array Event),BkE B e:=by intro e he;simp at he;exact .inr (.inl he)
theorem bk_r{B off:Nat}:∀e∈(#[⟨.cell ⟨B,off,none⟩,false,true⟩]:Array Event),BkE B e:=by intro e he;simp at he;exact .inr (.inr ⟨_,_,he⟩)
theorem bk_w{B off:Nat}:∀e∈(#[⟨.cell ⟨B,off,none⟩,true,true⟩]:Array Event),BkE B e:=by intro e he;simp at he;exact .inr (.inr ⟨_,_,he⟩)
theorem bk_rw{B off:Nat}:∀e∈(#[⟨.cell ⟨B,off,none⟩,false,true⟩,⟨.cell ⟨B,off,none⟩,true,true⟩]:Array Event),BkE B e:=by intro e he;simp at he;rcases he with rfl|rfl<;>exact .inr (.inr ⟨_,_,Z⟩)
theorem bk_sem{B off:Nat}:∀e∈semEvents ⟨B,off,none⟩,BkE B e:=by
 intro e he
 simp [semEvents]at he
 rcases he with rfl|rfl|rfl|rfl
 ·exact .inl Z
 ·exact .inr (.inr ⟨_,_,Z⟩)
 ·exact .inr (.inr ⟨_,_,Z⟩)
 ·exact .inr (.inl Z)
theorem B2d{a:Addr}{d:Nat}:deafBehind d (semEvents a)=d:=by simp [deafBehind,semEvents]
theorem A8a{B off d:Nat}:deafBehind d #[⟨.cell ⟨B,off,none⟩,false,true⟩,⟨.cell ⟨B,off,none⟩,true,true⟩]=d:=by simp [deafBehind]
theorem B3s{B off d:Nat}{wr:Bool}:deafBehind d #[⟨.cell ⟨B,off,none⟩,wr,true⟩]=d:=by simp [deafBehind]
theorem B0p{d:Nat}:deafBehind d #[]=d:=by simp [deafBehind]
theorem deaf_dis{d:Nat}:deafBehind d #[mkE .disable]=d+1:=by simp [deafBehind]
theorem deaf_en{d:Nat}:deafBehind d #[mkE .enable]=d-1:=by simp [deafBehind]
section
variable{P:Program}{A:Par}{base:Nat}{γ γ':WS}{u:View}{w w':World}{es:Array Event}{i B:Nat}{o:Obj}{τ:Mn ⊕ Wk}
theorem sh_mu:shW A γ A.Mu=some (true,muB A.tM γ.x γ.m):=by simp [shW]
theorem B1f(D:Dist A):shW A γ A.Wg=some (true,wgB A.tW γ.v γ.wt γ.sm):=by simp [shW,Ne.symm D.mw]
theorem sh_cn(D:Dist A):shW A γ A.Cn=some (true,cnB A.tC γ.c):=by simp [shW,Ne.symm D.mc,Ne.symm D.wc]
theorem sh_cm(D:Dist A):shW A γ A.Cm=if Sw A.J γ.ph hc=0 then some (true,A.con γ.L)else none:=by simp [shW,Ne.symm D.mm,Ne.symm D.wm,Ne.symm D.cm]
theorem sh_atb{b:Nat}(D:Dist A)(h:b=A.Mu∨b=A.Wg∨b=A.Cn):shW A γ b≠none:=by
 rcases h with rfl|rfl|rfl
 ·rw [sh_mu];simp
 ·rw [B1f D];simp
 ·rw [sh_cn D];simp
theorem A7n(D:Dist A)(hc':Sw A.J γ'.ph hc=0↔Sw A.J γ.ph hc=0)(hL:γ'.L=γ.L)(h:(B=A.Mu∧γ'.v=γ.v∧γ'.wt=γ.wt∧γ'.sm=γ.sm∧γ'.c=γ.c)∨(B=A.Wg∧γ'.x=γ.x∧γ'.m=γ.m∧γ'.c=γ.c)∨(B=A.Cn∧γ'.x=γ.x∧γ'.m=γ.m∧γ'.v=γ.v∧γ'.wt=γ.wt∧γ'.sm=γ.sm)) :
  ∀b,b≠B→shW A γ' b=shW A γ b:=fun b hb=>by
 have hcm:shW A γ' A.Cm=shW A γ A.Cm:=by
  rw [sh_cm D,sh_cm D,hL]
  by_cases e:Sw A.J γ.ph hc=0
  ·rw [if_pos e,if_pos (hc'.2 e)]
  ·rw [if_neg e,if_neg (fun e'=>e (hc'.1 e'))]
 by_cases e1:b=A.Cm
 ·subst e1;exact hcm
 unfold shW
 rcases h with ⟨rfl,h1,h2,h3,h4⟩|⟨rfl,h1,h2,h3⟩|⟨rfl,h1,h2,h3,h4,h5⟩
 ·rw [if_neg hb,if_neg hb,h1,h2,h3,h4];simp only [if_neg e1]
 ·rw [h1,h2,h3];simp only [if_neg hb,if_neg e1]
 ·rw [h1,h2,h3,h4,h5];simp only [if_neg hb,if_neg e1]
theorem ss_of(D:Dist A)(htr:Tr A.J A.N A.keep base γ i γ')(hsz:γ'.st=γ.st)(hag:u.Agree w)(hS:(shW A γ).Agree w)(hd:Disj u (shW A γ))(hB:B=A.Mu∨B=A.Wg∨B=A.Cn)(hw:OnB B o w w')
    (hB':shW A γ' B=some (true,o))(hoth:∀b,b≠B→shW A γ' b=shW A γ b)(hes:∀e∈es,EvS (proto A base) i w.heap.size e)(hdf:∀σ,thW A base γ' i=some σ→deafBehind ((proto A base).deaf τ) es=(proto A base).deaf σ)
    (hmute:(proto A base).rel τ=true→∀j e,es[j]?=some e→(MemAct.ofEvent e).touch?=none∨((∃ad wr,e=⟨.cell ad,wr,true⟩)∧0<deafBehind ((proto A base).deaf τ) (es.extract 0 j)))
    (hrel:i≠0→(∃σ,thW A base γ' i=some σ∧(proto A base).rel σ=false)∨(proto A base).rel τ=true∨(es=#[mkE (.releaseMerge (proto A base).fin)]∧(proto A base).deaf τ=0))
    (hacq:∀σ,i=0→thW A base γ' 0=some σ→(proto A base).acq σ=true→(proto A base).acq τ=true∨(es=#[mkE (.acquire (proto A base).fin)]∧(proto A base).deaf τ=0)):SS (proto A base) i γ τ u w γ' u w' es:=by
  have hBn:=sh_atb (γ:=γ) D hB
  have huB:u B=none:=(hd B).resolve_right hBn
  refine⟨htr,?_,hw.tape,hw.output,hw.os,hw.size,?_,?_,?_,?_,hes,hdf,fun b h=>.inl h,fun b h=>.inl h,fun b h=>?_,hmute,hrel,hacq⟩
  · show base+_=base+_;rw [hsz]
  · intro b p x e
    rw [hw.else_ b (fun e'=>by subst e';rw [huB]at e;cases e)]
    exact hag b p x e
  · intro b p x e
    have e:shW A γ' b=some (p,x):=e
    by_cases e':b=B
    · subst e';rw [hB']at e;cases e;exact hw.here
    · rw [hw.else_ b e']
      rw [hoth b e']at e
      exact hS b p x e
  · intro b _ h
    exact hw.else_ b (fun e'=>by subst e';exact hBn h)
  · intro b
    rcases hd b with h|h
    · exact .inl h
    · exact .inr (by
        show shW A γ' b=none
        rw [hoth b (fun e'=>by subst e';exact hBn h)];exact h)
  · by_cases e':b=B
    · subst e';exact .inl hBn
    · have h:shW A γ' b≠none:=h
      rw [hoth b e']at h;exact .inl h
theorem evS_bk{e:Event}(hB:B=A.Mu∨B=A.Wg∨B=A.Cn)(hlt:B<w.heap.size)(h:BkE B e):EvS (proto A base) i w.heap.size e:=by
 rcases h with rfl|rfl|⟨off,wr,rfl⟩
 ·trivial
 ·trivial
 ·exact⟨hB,hlt⟩
theorem hc_ms{p p':Mp}{x x':MW}{m m':Nat}{a b:Nat}{L L':List Nat}(h:Ms p x m p' x' m')(h1:p≠.la)(h2:p≠.ur):hc (.mx a L p')=hc (.mx b L' p):=by
 have k1:p' = .u0→False:=fun e=>h1 (ms_u0 (e ▸ h))
 have k2:p' = .ur→p = .u0:=fun e=>ms_ur (e ▸ h)
 by_cases e:p = .u0
 ·subst e
  cases h
  rfl
 ·have z:∀(a:Nat) (L:List Nat) (q:Mp),q≠.u0→q≠.ur→hc (.mx a L q)=0:=fun a L q a1 a2=>by cases q<;>first|rfl|exact absurd Z a1|exact absurd Z a2
  rw [z _ _ _ (fun e'=>k1 e') (fun e'=>e (k2 e')),z _ _ _ e h2]
structure Kn(p:Mp)(x:MW)(m:Nat):Prop where
 loc:Mu.loc x p
 n:x.n≤201
 m:m≤200
 hold:hold p=1→x.l=true
 hand:hn p=1→x.l=false∧x.s=true∧1≤x.n
 got:gt p=1→x.s=true→x.l=false∧x.w=false∧1≤x.n
 gotR:gt p=1→x.s=false→x.w=true
 awk:ak p=1→x.w=true
theorem S_le_J(φ:Mp→Nat)(h:∀p,φ p≤1)(J:Nat)(ph:Nat→Mp):S J ph φ≤J:=by
 unfold S
 induction J with
 | zero=>exact Nat.le_refl _
 | succ J ih=>simp only [sumTo];have:=h (ph J);omega
theorem kn_of{J:Nat}{ph:Nat→Mp}{x:MW}{m j:Nat}(hJ:J≤200)(I:MI J ph x m)(hj:j<J):Kn (ph j) x m:=by
 have b1:=S_le_J wt (fun p=>by cases p<;>simp [wt]) J ph
 have b2:=S_le_J gt (fun p=>by cases p<;>simp [gt]) J ph
 have b3:=S_le_J hn (fun p=>by cases p<;>simp [hn]) J ph
 have g1:=le_S (ph:=ph) hj Mu.hold
 have g2:=le_S (ph:=ph) hj hn
 have g3:=le_S (ph:=ph) hj gt
 have g4:=le_S (ph:=ph) hj ak
 refine⟨I.lo j hj,?_,?_,fun h=>?_,fun h=>?_,fun h hs=>?_,fun h hs=>?_,fun h=>?_⟩
 ·cases hs:x.s with
  | false=>have:=(I.i2 hs).1;omega
  | true=>
   have h3:=(I.i3 hs).1
   have h5:=(I.i3 hs).2.2.2.2.1
   omega
 ·cases hs:x.s with
  | false=>have:=(I.i2 hs).1;omega
  | true=>have:=(I.i3 hs).2.2.2.2.1;omega
 ·have:=I.i1
  cases hl:x.l with
  | true=>rfl
  | false=>rw [hl]at this;simp at this;omega
 ·cases hs:x.s with
  | false=>have:=(I.i2 hs).2.1;omega
  | true=>
   have h5:=(I.i3 hs).2.2.2.2.1
   have h6:=(I.i3 hs).2.2.2.2.2
   refine⟨?_,Z,h6⟩
   cases hl:x.l with
   | false=>rfl
   | true=>rw [hl]at h5;simp at h5;omega
 ·have h5:=(I.i3 hs).2.2.2.2.1
  have h6:=(I.i3 hs).2.2.2.2.2
  refine⟨?_,(I.i3 hs).2.1,h6⟩
  cases hl:x.l with
  | false=>rfl
  | true=>rw [hl]at h5;simp at h5;omega
 ·have h5:=(I.i2 hs).2.2.2
  cases hl:x.w with
  | true=>rfl
  | false=>rw [hl]at h5;simp at h5;omega
 ·cases hs:x.s with
  | true=>have:=(I.i3 hs).2.2.1;omega
  | false=>
   have h5:=(I.i2 hs).2.2.2
   cases hl:x.w with
   | true=>rfl
   | false=>rw [hl]at h5;simp at h5;omega
variable{K:View→Goroutine→Prop}{n j a:Nat}{L:List Nat}{p:Mp}{g:Goroutine}{X:Nat→Mn ⊕ Wk→View→Goroutine→Prop}
theorem at_mu(D:Dist A)(hb:0<base)(hj:j<A.J)(hrun:g.status = .running)(hoff:g.offers=none)(hwk:A9u p=true→mayWake P g=true)(n1:p≠.la)(n2:p≠.ur)(n3:p≠.ue)
  (h:∀x m w,Kn p x m→w.heap[A.Mu]?=some (muB A.tM x m)→(((∃sv,p = .wait sv)∧m=0)→stepG P false g w = .go {g with status:=.blocked } w #[])∧(¬((∃sv,p = .wait sv)∧m=0)→
   ∃p' x' m' g' w' es,stepG P false g w = .go g' w' es∧Ms p x m p' x' m'∧OnB A.Mu (muB A.tM x' m') w w'∧(∀e∈es,BkE A.Mu e)∧deafBehind (dfP p) es=dfP p'∧X (base+j) (.inr (.mx a L p')) u g')) :
  AtF P (proto A base) K X (base+j) (.inr (.mx a L p)) u g:=by
 refine⟨hrun,hoff,fun hw=>hwk hw,fun γ w O hth hag hS hd hcalm=>?_⟩
 have O:Ok A.J A.N A.keep γ:=O.1
 have hph:γ.ph j = .mx a L p:=by
  rcases B2r (show thW A base γ (base+j)=some (.inr (.mx a L p))from hth)with ⟨h0,_⟩|⟨j',h1,h2,h3,h4⟩
  ·omega
  ·obtain rfl:j=j':=oM
   simp only [Sum.inr.injEq]at h4
   exact h4.symm
 have hmu:w.heap[A.Mu]?=some (muB A.tM γ.x γ.m):=hS A.Mu true _ (sh_mu (A:=A))
 have hkn:Kn p γ.x γ.m:=by
  have:=kn_of A.J2 O.mi hj
  simp only [hph,mp]at this
  exact this
 obtain⟨k1,k2⟩:=h γ.x γ.m w hkn hmu
 have hi0:base+j≠0:=oM
 have hbq:(base+j==0)=false:=by simpa using hi0
 rw [hbq]
 have hiff:blkW A base γ (base+j)↔((∃sv,p = .wait sv)∧γ.m=0):=by
  constructor
  ·rintro(⟨h0,_⟩|⟨j',e1,e2,⟨i',L',sv,e3⟩,e4⟩)
   ·omega
   ·obtain rfl:j=j':=oM
    rw [hph]at e3
    cases e3
    exact⟨⟨sv,Z⟩,e4⟩
  ·rintro⟨⟨sv,rfl⟩,e⟩
   exact .inr ⟨j,Z,hj,⟨a,L,sv,hph⟩,e⟩
 refine⟨fun hbl=>k1 (hiff.1 hbl),fun hbl=>?_⟩
 obtain⟨p',x',m',g',w',es,e1,e2,e3,e4,e5,e6⟩:=k2 (fun e=>hbl (hiff.2 e))
 have htr:=Tr.mx (J:=A.J) (N:=A.N) (keep:=A.keep) (base:=base) hj hph e2 n1 n2 n3
 have hhc:=hc_ms (a:=a) (b:=a) (L:=L) (L':=L) e2 n1 n2
 have hsw:=A1s (ph:=γ.ph) hj (.mx a L p') hc
 rw [hph,hhc]at hsw
 have hth':thW A base {γ with ph:=upd γ.ph j (.mx a L p'),x:=x',m:=m' } (base+j)=some (.inr (.mx a L p')):=A7j hb hj (by simp only [upd_same]) sM
 refine .on _ (.inr (.mx a L p')) u g' w' es (by rw [hbq];exact e1) (ss_of D htr Z hag hS hd (.inl Z) e3 (by rw [sh_mu]) (A7n D (by show Sw A.J (upd γ.ph j _) hc=0↔_;omega) Z (.inl ⟨Z,Z,Z,Z,Z⟩)) (fun e he=>evS_bk (.inl Z) (by
  obtain⟨hlt,_⟩:=Array.getElem?_eq_some_iff.1 hmu;exact hlt) (e4 e he)) (fun σ hσ=>by rw [hth']at hσ;cases hσ;exact e5) (fun h=>(by cases h)) (fun _=>.inl ⟨_,hth',rfl⟩) (fun σ h=>absurd h hi0)) hth' (fun h=>(by cases h)) e6
end
theorem encW_inj{x y:MW}(h:encW x=encW y):x=y:=by
 obtain⟨a,b,c,n⟩:=x
 obtain⟨a',b',c',n'⟩:=y
 simp only [encW]at h
 have h:a.toNat+2*b.toNat+4*c.toNat+8*n=a'.toNat+2*b'.toNat+4*c'.toNat+8*n':=oM
 have k1:=Bool.toNat_le a;have k2:=Bool.toNat_le b;have k3:=Bool.toNat_le c
 have l1:=Bool.toNat_le a';have l2:=Bool.toNat_le b';have l3:=Bool.toNat_le c'
 have e1:a.toNat=a'.toNat:=oM
 have e2:b.toNat=b'.toNat:=oM
 have e3:c.toNat=c'.toNat:=oM
 have e4:n=n':=oM
 have inj:∀{a b:Bool},a.toNat=b.toNat→a=b:=by intro a b h;cases a<;>cases b<;>simp at h<;>rfl
 rw [inj e1,inj e2,inj e3,e4]
section
variable{P:Program}{A:Par}{base:Nat}{K:View→Goroutine→Prop}
abbrev JX(P:Program)(A:Par)(base:Nat)(K:View→Goroutine→Prop)(n j:Nat)(q:Wk)(N:Nat)(b:Frame)(its:List Item)(cs:List Frame)(ds:List Deferred)(ρ:Regs)(v:View):Prop:=
 XG (Job P (proto A base) K n (base+j) (.inr q) v) N b its cs ds ρ
abbrev AtW(P:Program)(A:Par)(base:Nat)(K:View→Goroutine→Prop)(n j:Nat)(q:Wk):View→Goroutine→Prop:=AtF P (proto A base) K (Job P (proto A base) K n) (base+j) (.inr q)
variable{n j:Nat}{q:Wk}{N:Nat}{b:Frame}{its:List Item}{cs:List Frame}{ds:List Deferred}{ρ:Regs}{v:View}
theorem job_run(hb0:0<base){g:Goroutine}(hr:relW q=false)(h:∀m,n=m+1→RunW P false (proto A base).Wd (AtW P A base K m j q) v g):Job P (proto A base) K n (base+j) (.inr q) v g:=by
 cases n with
 | zero=>trivial
 | succ m=>
  refine .inl ⟨hr,?_⟩
  have:(base+j==0)=false:=by simp;omega
  rw [this]
  exact h m Z
theorem A0h(hb0:0<base)(hr:relW q=false)(h:∀m,n=m+1→XF P false (proto A base).Wd (AtW P A base K m j q) N b its cs ds ρ v):JX P A base K n j q N b its cs ds ρ v:=fun a hf=>job_run hb0 hr fun m hm=>h m hm a hf
theorem sil_job(hb0:0<base)(hr:relW q=false):Sil P false (Job P (proto A base) K n (base+j) (.inr q) v):=⟨fun {g g'} hs h r=>by
 cases n with
 | zero=>trivial
 | succ m=>
  have hb:(base+j==0)=false:=by simp;omega
  rcases r with ⟨h1,h2⟩|⟨h1,_⟩
  ·refine .inl ⟨h1,?_⟩
   rw [hb]at h2⊢
   exact Sil.step hs h h2
  ·rw [show(proto A base).rel (.inr q)=relW q from Z,hr]at h1;cases h1⟩
theorem F_sub{R:Goroutine→Prop}{ρ0:Regs}(h:XG R N b its cs ds ρ0)(hs:∀t x,ρ0.get t=some x→ρ.get t=some x):XG R N b its cs ds ρ:=fun a hf=>h a ⟨hf.size,hf.defers,fun t x e=>hf.get t x (hs t x e)⟩
def RIn(ρ:Regs):Regs→Prop
 | []=>True
 | (t,x)::l=>ρ.get t=some x∧RIn ρ l
theorem rin_get{ρ:Regs}:∀{l:Regs},RIn ρ l→∀t x,Regs.get l t=some x→ρ.get t=some x
 | [],_,_,_,h=>by simp [Regs.get]at h
 | (t',y)::l,⟨h1,h2⟩,t,x,h=>by
  simp only [Regs.get]at h
  cases hb:Nat.beq t' t with
  | true=>
   rw [hb]at h
   have:=Nat.eq_of_beq_eq_true hb
   subst this
   simp only [cond_true,Option.some.injEq]at h
   subst h;exact h1
  | false=>rw [hb]at h;exact rin_get h2 t x h
theorem F_in{R:Goroutine→Prop}(ρ0:Regs)(h:XG R N b its cs ds ρ0)(hs:RIn ρ ρ0):XG R N b its cs ds ρ:=F_sub h (rin_get hs)
theorem loop_j(hb0:0<base){I:Wk→Regs→Prop}{body:Code}{k:List Item}(n0:Nat)(hI:∀q ρ,I q ρ→relW q=false)
  (h:∀m,m<n0→∀q ρ,I q ρ→(∀m',m'≤m→∀q' ρ',I q' ρ'→JX P A base K m' j q' N b (.inLoop body::k) cs ds ρ' v)→XF P false (proto A base).Wd (AtW P A base K m j q) N b (.code body::.inLoop body::k) cs ds ρ v) :
  ∀n,n≤n0→∀q ρ,I q ρ→JX P A base K n j q N b (.inLoop body::k) cs ds ρ v:=by
 intro n
 induction n using Nat.strongRecOn with
 | _ n ih=>
  intro hn q ρ hq
  refine A0h hb0 (hI q ρ hq) fun m hm=>B2k ?_
  exact h m oM q ρ hq fun m' hm' q' ρ' hq'=>ih m' oM oM q' ρ' hq'
theorem loop_go(hb0:0<base){I:Wk→Regs→Prop}{body:Code}{k:List Item}(n0:Nat)(hI:∀q ρ,I q ρ→relW q=false)
  (h:∀m,m<n0→∀q ρ,I q ρ→(∀m',m'≤m→∀q' ρ',I q' ρ'→JX P A base K m' j q' N b (.inLoop body::k) cs ds ρ' v)→XF P false (proto A base).Wd (AtW P A base K m j q) N b (.code body::.inLoop body::k) cs ds ρ v)
  {q:Wk}{ρ:Regs}(hq:I q ρ):JX P A base K n0 j q N b (.code (.loop body)::k) cs ds ρ v:=
 A0h hb0 (hI q ρ hq) fun m hm=>F_loop (h m oM q ρ hq fun m' hm' q' ρ' hq'=>loop_j hb0 n0 hI h m' oM q' ρ' hq')
theorem A0z(x:MW)(aw sv:Bool)(it:Nat):dfP (hd x aw sv it)=1:=by unfold hd;split<;>rfl
theorem vB{e:Option Value}{a b:Bool}(h:a=b)(he:e=some (.bool a)):e=some (.bool b):=by rw [←h];exact he
theorem vI{e:Option Value}{k:IntKind}{a b:Int}(h:a=b)(he:e=some (.int k a)):e=some (.int k b):=by rw [←h];exact he
variable{k:List Item}{ops:Array Oper}{i:Nat}{rest:List Nat}{d:Nat}{op:Op}{ty:TypeId}{pos:String}{af:Array Edge}{gu:Option (Nat×Bool)}{a:Nat}{L:List Nat}{p p':Mp}
theorem B2u(D:Dist A)(hb0:0<base)(hj:j<A.J)(hnw:∀sv,p≠.wait sv)(n1:p≠.la)(n2:p≠.ur)(n3:p≠.ue)
  (hwk:A9u p=true→∀c,mayWake P (G (b.on c (.inRegion ops (i::rest)::k)) cs)=true)
  (h:∀x m w c,Kn p x m→w.heap[A.Mu]?=some (muB A.tM x m)→Fits N ⟨ds,ρ,[]⟩ c→∃y p' x' m' w' es,stepG P false (G (b.on c (.inRegion ops (i::rest)::k)) cs) w = .go (G (b.on (c.put (some d) y) (.inRegion ops rest::k)) cs) w' es∧
   Ms p x m p' x' m'∧OnB A.Mu (muB A.tM x' m') w w'∧(∀e∈es,BkE A.Mu e)∧deafBehind (dfP p) es=dfP p'∧Nat.blt d N=true∧JX P A base K n j (.mx a L p') N b (.inRegion ops rest::k) cs ds ((d,y)::ρ) v) :
  XF P false (proto A base).Wd (AtW P A base K n j (.mx a L p)) N b (.inRegion ops (i::rest)::k) cs ds ρ v:=fun c hf=>by
 refine .stop (Le.refl v) (at_mu D hb0 hj Z Z (fun hw=>hwk hw c) n1 n2 n3 fun x m w hkn hw=>⟨fun⟨⟨sv,e⟩,_⟩=>absurd e (hnw sv),fun _=>?_⟩)
 obtain⟨y,p',x',m',w',es,h1,h2,h3,h4,h5,h6,h7⟩:=h x m w c hkn hw hf
 exact⟨p',x',m',_,w',es,h1,h2,h3,h4,h5,h7 _ (A1h hf (show A3j N (some d)=true from h6))⟩
theorem onMu0{x x':MW}{m:Nat}{w:World}(h:w.heap[A.Mu]?=some (muB A.tM x m)):OnB A.Mu (muB A.tM x' m) w (w.setCell ⟨A.Mu,0,none⟩ (.int .i32 (encW x'))):=OnB.set (off:=0) (.int .i32 (encW x')) h
theorem onMu1{x:MW}{m m':Nat}{w:World}(h:w.heap[A.Mu]?=some (muB A.tM x m)):OnB A.Mu (muB A.tM x m') w (w.setCell ⟨A.Mu,1,none⟩ (.int .u32 m')):=OnB.set (off:=1) (.int .u32 m') h
theorem mayWake_on{o:Oper}{f:FuncId}{fn:Func}{xs:Array Operand}{ats:Array TypeId}{c:Act}
  (ho:ops[i]?=some o)(hop:o.op = .call {callee:=.value (.func f),args:=xs,argTypes:=ats })(hf:P.funcs[f]?=some fn)(hb:fn.body.isNone=true):mayWake P (G (b.on c (.inRegion ops (i::rest)::k)) cs)=true:=by
 have h2:fn.body=none:=by simpa using hb
 have ef:(b.on c (.inRegion ops (i::rest)::k)).eval (.func f) = .func (.func f) #[] #[]:=rfl
 simp [mayWake,G,Frame.on,ho,hop]at ef⊢
 simp [ef,hf,h2]
theorem run_und{t:TypeId}{dd:TypeDesc}{w:World}(hu:P.underlying t=some dd):(underlying t).run P w = .ok dd w:=by unfold underlying;simp [hu]
theorem ev_und{t:TypeId}{w:World}{es:Array Event}{dd:TypeDesc}(hu:P.underlying t=some dd):(underlying t).events P w es=es:=by unfold underlying;simp [hu]
theorem run_load1{t:TypeId}{kd:IntKind}{w:World}{ad:Addr}{y:Value}(hu:P.underlying t=some (.int kd))(hc:w.cell? ad=some y):(Instr.loadAt t (.pointer (some ad))).run P w = .ok y w:=by
 simp [Instr.loadAt,Instr.sureAddr,loadVar,isAgg,run_und hu,hc]
theorem events_load1{t:TypeId}{kd:IntKind}{w:World}{ad:Addr}{y:Value}(hu:P.underlying t=some (.int kd))(hc:w.cell? ad=some y):(Instr.loadAt t (.pointer (some ad))).events P w #[]=#[⟨.cell ad,false,false⟩]:=by
 simp [Instr.loadAt,Instr.sureAddr,loadVar,isAgg,run_und hu,ev_und hu,hc]
section
variable{f:FuncId}{fn:Func}{aS:Array Operand}{ats:Array TypeId}
theorem st_mark(mk:Mark)(hm:mk = .disable∨mk = .enable)(D:Dist A)(hb0:0<base)(hj:j<A.J)(hk:b.kind≠.early)(hr:b.roundOf=none)(ho:ops[i]?=some ⟨some d,.call {callee:=.value (.func f),args:=aS,argTypes:=ats },ty,pos,af,gu⟩)
  (hw:A0x ops gu ρ=some true)(hn:Nat.blt d N=true)(E:Ext P f fn (fun _=>do mark mk;pure Extern.Race.none_))(hnw:∀sv,p≠.wait sv)(n1:p≠.la)(n2:p≠.ur)(n3:p≠.ue)(n4:A9u p=false)
  (hms:∀x m,Ms p x m p' x m)(hdf:deafBehind (dfP p) #[mkE mk]=dfP p')(h:JX P A base K n j (.mx a L p') N b (.inRegion ops rest::k) cs ds ((d,.tuple #[])::ρ) v) :
  XF P false (proto A base).Wd (AtW P A base K n j (.mx a L p)) N b (.inRegion ops (i::rest)::k) cs ds ρ v:=
 B2u D hb0 hj hnw n1 n2 n3 (fun e=>by rw [n4]at e;cases e) fun x m w c _ hmu hf=>by
  refine⟨.tuple #[],p',x,m,w,#[mkE mk],?_,hms x m,.same hmu,?_,hdf,hn,h⟩
  ·rw [A1i hr,A1i hr]
   exact stepG_mark0 mk (by rcases hm with rfl|rfl<;>intro g e<;>cases e) ho (A0q hf (A0p hw)) hk rfl E.hf E.hname E.hb E.hn E.he
  ·rcases hm with rfl|rfl
   ·exact bk_dis
   ·exact bk_en
theorem A3c{o1 o2 o3:Operand}{o o':MW}{u w0:Int}{pY pN:Mp}(D:Dist A)(hb0:0<base)(hj:j<A.J)(hk:b.kind≠.early)(hr:b.roundOf=none)(ho:ops[i]?=some ⟨some d,.call {callee:=.value (.func f),args:=#[o1,o2,o3],argTypes:=ats },ty,pos,af,gu⟩)
  (hw:A0x ops gu ρ=some true)(hn:Nat.blt d N=true)(E:Ext P f fn (Extern.Atomic.casT (.int .i32)))(hnw:∀sv,p≠.wait sv)(n1:p≠.la)(n2:p≠.ur)(n3:p≠.ue)(n4:A9u p=false)
  (h1:ρ.val o1=some (.pointer (some ⟨A.Mu,0,none⟩)))(h2:ρ.val o2=some (.int .i32 u))(h3:ρ.val o3=some (.int .i32 w0))(hu:u=encW o)(hw0:w0=encW o')
  (hY:∀m,Kn p o m→Ms p o m pY o' m)(hdY:dfP p=dfP pY)(hN:∀x m,x≠o→Ms p x m pN x m)(hdN:dfP p=dfP pN)
  (kY:JX P A base K n j (.mx a L pY) N b (.inRegion ops rest::k) cs ds ((d,.bool true)::ρ) v)(kN:JX P A base K n j (.mx a L pN) N b (.inRegion ops rest::k) cs ds ((d,.bool false)::ρ) v) :
  XF P false (proto A base).Wd (AtW P A base K n j (.mx a L p)) N b (.inRegion ops (i::rest)::k) cs ds ρ v:=
 B2u D hb0 hj hnw n1 n2 n3 (fun e=>by rw [n4]at e;cases e) fun x m w c hkn hmu hf=>by
  subst hu hw0
  have hc:w.cell? ⟨A.Mu,0,none⟩=some (.int .i32 (encW x)):=by rw [A3n hmu];rfl
  have hz:w.frozen? ⟨A.Mu,0,none⟩=false:=A5d hmu
  have e1:c.eval o1=_:=A0o hf _ _ h1
  have e2:c.eval o2=_:=A0o hf _ _ h2
  have e3:c.eval o3=_:=A0o hf _ _ h3
  by_cases e:x=o
  ·subst e
   refine⟨.bool true,pY,o',m,_,_,by rw [A1i hr,A1i hr];exact stepG_cas_hit ho (A0q hf (A0p hw)) hk Z E.hf E.hname E.hb E.hn .i32 E.he e1 e2 e3 hc hz,hY m hkn,onMu0 hmu,bk_rw,by rw [A8a];exact hdY,hn,kY⟩
  ·have hne:¬encW x=encW o:=fun h=>e (encW_inj h)
   exact⟨.bool false,pN,x,m,_,_,by rw [A1i hr,A1i hr];exact stepG_cas_miss ho (A0q hf (A0p hw)) hk Z E.hf E.hname E.hb E.hn .i32 E.he e1 e2 e3 hc hz hne,hN x m e,.same hmu,bk_r,by rw [B3s];exact hdN,hn,kN⟩
theorem A1d{o1 o2:Operand}{u:Int}(D:Dist A)(hb0:0<base)(hj:j<A.J)(hk:b.kind≠.early)(hr:b.roundOf=none)(ho:ops[i]?=some ⟨some d,.call {callee:=.value (.func f),args:=#[o1,o2],argTypes:=ats },ty,pos,af,gu⟩)
  (hw:A0x ops gu ρ=some true)(hn:Nat.blt d N=true)(E:Ext P f fn (Extern.Atomic.update (Op.intArith .add) .i32 true))(hnw:∀sv,p≠.wait sv)(n1:p≠.la)(n2:p≠.ur)(n3:p≠.ue)(n4:A9u p=false)
  (h1:ρ.val o1=some (.pointer (some ⟨A.Mu,0,none⟩)))(h2:ρ.val o2=some (.int .i32 u))
  (h:∀x m,Kn p x m→∃p' x',IntKind.i32.wrap (encW x+u)=encW x'∧Ms p x m p' x' m∧dfP p=dfP p'∧JX P A base K n j (.mx a L p') N b (.inRegion ops rest::k) cs ds ((d,.int .i32 (encW x'))::ρ) v) :
  XF P false (proto A base).Wd (AtW P A base K n j (.mx a L p)) N b (.inRegion ops (i::rest)::k) cs ds ρ v:=
 B2u D hb0 hj hnw n1 n2 n3 (fun e=>by rw [n4]at e;cases e) fun x m w c hkn hmu hf=>by
  have hc:w.cell? ⟨A.Mu,0,none⟩=some (.int .i32 (encW x)):=by rw [A3n hmu];rfl
  have hz:w.frozen? ⟨A.Mu,0,none⟩=false:=A5d hmu
  have e1:c.eval o1=_:=A0o hf _ _ h1
  have e2:c.eval o2=_:=A0o hf _ _ h2
  obtain⟨p',x',hx,hms,hdf,hk'⟩:=h x m hkn
  have:=stepG_add_atomic (main:=false) (cs:=cs) (kk:=k) (rest:=rest) ho (A0q hf (A0p hw)) hk Z E.hf E.hname E.hb E.hn .i32 E.he e1 e2 hc hz
  rw [hx]at this
  exact⟨_,p',x',m,_,_,by rw [A1i hr,A1i hr];exact this,hms,onMu0 hmu,bk_rw,by rw [A8a];exact hdf,hn,hk'⟩
theorem st_semrel{o1:Operand}{as':List Operand}(D:Dist A)(hb0:0<base)(hj:j<A.J)(hk:b.kind≠.early)(hr:b.roundOf=none)(ho:ops[i]?=some ⟨some d,.call {callee:=.value (.func f),args:=aS,argTypes:=ats },ty,pos,af,gu⟩)(has:aS.toList=o1::as')
  (hw:A0x ops gu ρ=some true)(hn:Nat.blt d N=true)(E:Ext P f fn Extern.Sync.semrelease)(hnw:∀sv,p≠.wait sv)(n1:p≠.la)(n2:p≠.ur)(n3:p≠.ue)
  (h1:ρ.val o1=some (.pointer (some ⟨A.Mu,1,none⟩)))(hms:∀x m,Ms p x m p' x (m+1))(hdf:dfP p=dfP p')(h:JX P A base K n j (.mx a L p') N b (.inRegion ops rest::k) cs ds ((d,.tuple #[])::ρ) v) :
  XF P false (proto A base).Wd (AtW P A base K n j (.mx a L p)) N b (.inRegion ops (i::rest)::k) cs ds ρ v:=
 B2u D hb0 hj hnw n1 n2 n3 (fun _ c=>mayWake_on ho rfl E.hf E.hb) fun x m w c hkn hmu hf=>by
  have hc:w.cell? ⟨A.Mu,1,none⟩=some (.int .u32 m):=by rw [A3n hmu];rfl
  have hz:w.frozen? ⟨A.Mu,1,none⟩=false:=A5d hmu
  have e1:(aS.map c.eval)[0]?=some (.pointer (some ⟨A.Mu,1,none⟩)):=by
   have:aS=(o1::as').toArray:=by rw [←has]
   subst this
   have:=A0o hf _ _ h1
   simp [this]
  have hwr:IntKind.u32.wrap ((m:Int)+1)=((m+1:Nat):Int):=by
   have:=hkn.m
   show((m:Int)+1) % (2^32)=_
   omega
  have:=stepG_semrelease (main:=false) (cs:=cs) (kk:=k) (rest:=rest) ho (A0q hf (A0p hw)) hk Z E.hf E.hname E.hb E.hn E.he e1 hc hz
  rw [hwr]at this
  exact⟨_,p',x,m+1,_,_,by rw [A1i hr,A1i hr];exact this,hms x m,onMu1 hmu,bk_sem,by rw [B2d];exact hdf,hn,h⟩
theorem A1x{o1:Operand}{as':List Operand}{sv:Bool}(D:Dist A)(hb0:0<base)(hj:j<A.J)(hk:b.kind≠.early)(hr:b.roundOf=none)(ho:ops[i]?=some ⟨some d,.call {callee:=.value (.func f),args:=aS,argTypes:=ats },ty,pos,af,gu⟩)(has:aS.toList=o1::as')
  (hw:A0x ops gu ρ=some true)(hn:Nat.blt d N=true)(E:Ext P f fn Extern.Sync.semacquire)
  (h1:ρ.val o1=some (.pointer (some ⟨A.Mu,1,none⟩)))(h:JX P A base K n j (.mx a L (if sv then .got sv else .t2 sv)) N b (.inRegion ops rest::k) cs ds ((d,.tuple #[])::ρ) v) :
  XF P false (proto A base).Wd (AtW P A base K n j (.mx a L (.wait sv))) N b (.inRegion ops (i::rest)::k) cs ds ρ v:=fun c hf=>by
 have e1:(aS.map c.eval)[0]?=some (.pointer (some ⟨A.Mu,1,none⟩)):=by
  have:aS=(o1::as').toArray:=by rw [←has]
  subst this
  have:=A0o hf _ _ h1
  simp [this]
 refine .stop (Le.refl v) (at_mu D hb0 hj Z Z (fun e=>by cases e) sM sM sM fun x m w hkn hmu=>⟨fun⟨_,e⟩=>?_,fun hne=>?_⟩)
 ·subst e
  have hc:w.cell? ⟨A.Mu,1,none⟩=some (.int .u32 0):=by rw [A3n hmu];rfl
  rw [A1i hr]
  exact stepG_semacquire_wait ho (A0q hf (A0p hw)) Z E.hf E.hname E.hb E.hn E.he e1 hc
 ·have hc:w.cell? ⟨A.Mu,1,none⟩=some (.int .u32 m):=by rw [A3n hmu];rfl
  have hz:w.frozen? ⟨A.Mu,1,none⟩=false:=A5d hmu
  cases m with
  | zero=>exact absurd ⟨⟨sv,rfl⟩,rfl⟩ hne
  | succ m=>
   have:=stepG_semacquire (main:=false) (cs:=cs) (kk:=k) (rest:=rest) ho (A0q hf (A0p hw)) hk Z E.hf E.hname E.hb E.hn E.he e1 hc oM hz
   rw [show((m+1:Nat):Int)-1=(m:Int) by omega]at this
   exact⟨_,x,m,_,_,_,by rw [A1i hr];exact this,.wait,onMu1 hmu,bk_sem,by rw [B2d];cases sv<;>rfl,by rw [←A1i hr];exact h _ (A1h hf (show A3j N (some d)=true from hn))⟩
theorem A2l(D:Dist A)(hb0:0<base)(hj:j<A.J)(hk:b.kind≠.early)(hr:b.roundOf=none)(ho:ops[i]?=some ⟨some d,.call {callee:=.value (.func f),args:=aS,argTypes:=ats },ty,pos,af,gu⟩)
  (hw:A0x ops gu ρ=some true)(hn:Nat.blt d N=true)(E:Ext P f fn Extern.OsHooks.nano)(hq:fn.norace=true)(hnw:∀sv,p≠.wait sv)(n1:p≠.la)(n2:p≠.ur)(n3:p≠.ue)(n4:A9u p=false)
  (h:∀t:Nat,∃p',(∀x m,Ms p x m p' x m)∧dfP p=dfP p'∧JX P A base K n j (.mx a L p') N b (.inRegion ops rest::k) cs ds ((d,.int .i64 t)::ρ) v) :
  XF P false (proto A base).Wd (AtW P A base K n j (.mx a L p)) N b (.inRegion ops (i::rest)::k) cs ds ρ v:=
 B2u D hb0 hj hnw n1 n2 n3 (fun e=>by rw [n4]at e;cases e) fun x m w c hkn hmu hf=>by
  obtain⟨p',h1,h2,h3⟩:=h (w.os.mono+w.tick)
  exact⟨_,p',x,m,_,_,by rw [A1i hr,A1i hr];exact stepG_nanotime ho (A0q hf (A0p hw)) hk Z E.hf E.hname E.hb E.hn E.he hq,h1 x m,.later hmu,bk_nil,by rw [B0p];exact h2,hn,h3⟩
theorem A7b{o1:Operand}{t:Nat}{pN:Mp}{pY:Mp}(D:Dist A)(hb0:0<base)(hj:j<A.J)(hk:b.kind≠.early)(hr:b.roundOf=none)(ho:ops[i]?=some ⟨some d,.call {callee:=.value (.func f),args:=#[o1],argTypes:=ats },ty,pos,af,gu⟩)
  (hw:A0x ops gu ρ=some true)(hn:Nat.blt d N=true)(E:Ext P f fn Extern.Sync.canSpin)(hnw:∀sv,p≠.wait sv)(n1:p≠.la)(n2:p≠.ur)(n3:p≠.ue)(n4:A9u p=false){kd:IntKind}
  (h1:ρ.val o1=some (.int kd t))(hY:t<4→∀x m,Ms p x m pY x m)(hN:∀x m,Ms p x m pN x m)(dY:dfP p=dfP pY)(dN:dfP p=dfP pN)
  (kY:t<4→JX P A base K n j (.mx a L pY) N b (.inRegion ops rest::k) cs ds ((d,.bool true)::ρ) v)(kN:JX P A base K n j (.mx a L pN) N b (.inRegion ops rest::k) cs ds ((d,.bool false)::ρ) v) :
  XF P false (proto A base).Wd (AtW P A base K n j (.mx a L p)) N b (.inRegion ops (i::rest)::k) cs ds ρ v:=
 B2u D hb0 hj hnw n1 n2 n3 (fun e=>by rw [n4]at e;cases e) fun x m w c hkn hmu hf=>by
  have e1:(#[o1]:Array Operand).map c.eval=#[.int kd t]:=by simp [A0o hf _ _ h1]
  by_cases ht:4≤t
  ·exact⟨_,pN,x,m,_,_,by rw [A1i hr,A1i hr];exact stepG_canSpin_no ho (A0q hf (A0p hw)) hk Z E.hf E.hname E.hb E.hn E.he e1 oM,hN x m,.same hmu,bk_nil,by rw [B0p];exact dN,hn,kN⟩
  ·have hs:=stepG_canSpin_ask (P:=P) (main:=false) (b:=b) (kk:=k) (cs:=cs) (w:=w) (rest:=rest) ho (A0q hf (A0p hw)) hk Z E.hf E.hname E.hb E.hn E.he e1 oM
   cases hsp:w.spins with
   | true=>
    rw [hsp]at hs
    exact⟨_,pY,x,m,_,_,by rw [A1i hr,A1i hr];exact hs,hY oM x m,.asked hmu,bk_nil,by rw [B0p];exact dY,hn,kY oM⟩
   | false=>
    rw [hsp]at hs
    exact⟨_,pN,x,m,_,_,by rw [A1i hr,A1i hr];exact hs,hN x m,.asked hmu,bk_nil,by rw [B0p];exact dN,hn,kN⟩
end
theorem A0r{o1:Operand}{tI:TypeId}{fb:Func}(D:Dist A)(hb0:0<base)(hj:j<A.J)(hk:b.kind≠.early)(hr:b.roundOf=none)(ho:ops[i]?=some ⟨some d,.load tI o1,ty,pos,af,gu⟩)
  (hw:A0x ops gu ρ=some true)(hn:Nat.blt d N=true)(hfb:P.funcs[b.fn]?=some fb)(hq:fb.norace=true){kd:IntKind}(hu:P.underlying tI=some (.int kd))(hnw:∀sv,p≠.wait sv)(n1:p≠.la)(n2:p≠.ur)(n3:p≠.ue)(n4:A9u p=false)
  (h1:ρ.val o1=some (.pointer (some ⟨A.Mu,0,none⟩)))
  (h:∀x m,Kn p x m→∃p',Ms p x m p' x m∧dfP p=dfP p'∧JX P A base K n j (.mx a L p') N b (.inRegion ops rest::k) cs ds ((d,.int .i32 (encW x))::ρ) v) :
  XF P false (proto A base).Wd (AtW P A base K n j (.mx a L p)) N b (.inRegion ops (i::rest)::k) cs ds ρ v:=
 B2u D hb0 hj hnw n1 n2 n3 (fun e=>by rw [n4]at e;cases e) fun x m w c hkn hmu hf=>by
  obtain⟨p',h2,h3,h4⟩:=h x m hkn
  have hc:w.cell? ⟨A.Mu,0,none⟩=some (.int .i32 (encW x)):=by rw [A3n hmu];rfl
  have e1:c.eval o1=_:=A0o hf _ _ h1
  refine⟨.int .i32 (encW x),p',x,m,w,#[],?_,h2,.same hmu,bk_nil,by rw [B0p];exact h3,hn,h4⟩
  rw [A1i hr,A1i hr,stepG_value (v:=.int .i32 (encW x)) (w':=w) ho (A0q hf (A0p hw)) hk (by
   show Sem.run P (execOp c.eval _) w=_
   unfold execOp
   simp only [e1]
   rw [Sem.run_bind,run_load1 hu hc];rfl)]
  unfold listed
  have:(execOp c.eval ⟨some d,.load tI o1,ty,pos,af,gu⟩).events P w #[]=#[⟨.cell ⟨A.Mu,0,none⟩,false,false⟩]:=by
   unfold execOp
   simp only [e1]
   rw [Sem.events_bind,run_load1 hu hc]
   exact events_load1 hu hc
  rw [this,seen_def,hfb]
  simp [seenStep,hq]
end
end Go.Pal.Mu
end
