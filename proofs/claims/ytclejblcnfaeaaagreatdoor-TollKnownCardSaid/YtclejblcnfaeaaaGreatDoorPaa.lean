/- Part 1. -/
import Derived.Conc.Beside
import Derived.Conc.MuSpec
set_option linter.all false
section
namespace Go.Pal
open Go Go.Conc
theorem kR{p:Prop}(k:p:=by kernel_rfl):p:=k
theorem oM{p:Prop}(k:p:=by omega):p:=k
theorem sM{p:Prop}(k:p:=by simp):p:=k
theorem dM{p:Prop}(k:p:=by decide):p:=k
theorem Y{α:Sort _}{a:α}:a=a:=rfl
theorem nB{n m:Nat}(h:Nat.ble n m=true:=by rfl):n≤m:=Nat.le_of_ble_eq_true h
abbrev View:=Nat→Option (Bool×Obj)
namespace View
def Agree(v:View)(w:World):Prop:=∀b p o,v b=some (p,o)→w.heap[b]?=some o
def Le(u v:View):Prop:=∀b x,u b=some x→v b=some x
def Disj(u v:View):Prop:=∀b,u b=none∨v b=none
def union(u v:View):View:=fun b=>match u b with|some x=>some x|none=>v b
def set(v:View)(r:Nat)(p:Bool)(o:Obj):View:=fun b=>if b=r then some (p,o)else v b
def cell(v:View)(a:Addr):Option Value:=
 match v a.block with
 | some (_,.cells c _ _)=>if a.spot.isSome then none else c[a.off]?
 | _=>none
def setCell(v:View)(a:Addr)(x:Value):View:=
 match v a.block with
 | some (p,.cells c e f)=>v.set a.block p (.cells (if a.spot.isSome then c else c.setIfInBounds a.off x) e f)
 | _=>v
def Owns(v:View)(b:Nat):Prop:=∃o,v b=some (true,o)
theorem Le.refl(v:View):v.Le v:=fun _ _ h=>h
theorem Le.trans{u v w:View}(h:u.Le v)(k:v.Le w):u.Le w:=fun b x e=>k b x (h b x e)
theorem Agree.le{u v:View}{w:World}(h:u.Le v)(a:v.Agree w):u.Agree w:=fun b p o e=>a b p o (h b _ e)
theorem Agree.lt{v:View}{w:World}(a:v.Agree w){b:Nat}{x:Bool×Obj}(e:v b=some x):b<w.heap.size:=by
 obtain⟨p,o⟩:=x
 have:=a b p o e
 rcases Nat.lt_or_ge b w.heap.size with h|h
 ·exact h
 ·rw [Array.getElem?_eq_none h]at this;cases this
theorem A0g(u v:View):u.Le (u.union v):=fun b x h=>by simp [union,h]
theorem A1l{u v:View}(h:Disj u v):v.Le (u.union v):=fun b x e=>by
 rcases h b with h|h
 ·simp [union,h,e]
 ·rw [h]at e;cases e
theorem Agree.cell{v:View}{w:World}(h:v.Agree w){a:Addr}{x:Value}(e:v.cell a=some x):w.cell? a=some x:=by
 unfold View.cell at e
 split at e
 ·rename_i p c el f hb
  simp only [World.cell?,h _ _ _ hb,e]
 ·cases e
end View
open View
def Free:Mark→Prop
 | .acquire _ | .release _ | .releaseMerge _ | .disable | .enable | .read _ | .write _=>False
 | _=>True
def EvOk(v:View)(lo hi:Nat)(e:Event):Prop:=
 match e with
 | ⟨.cell a,wr,false⟩=>(lo≤a.block∧a.block<hi)∨(if wr then v.Owns a.block else(v a.block).isSome)
 | ⟨.obj r,wr,false⟩=>(lo≤r∧r<hi)∨(if wr then v.Owns r else(v r).isSome)
 | ⟨.mark m,false,true⟩=>Free m
 | _=>False
structure StepOk(v:View)(w:World)(v':View)(w':World)(es:Array Event):Prop where
 agree:v'.Agree w'
 tape:w'.tape=w.tape
 output:w'.output=w.output
 os:w'.os=w.os
 size:w.heap.size≤w'.heap.size
 keep:∀b,b<w.heap.size→¬v.Owns b→w'.heap[b]?=w.heap[b]?
 dom:∀b,v' b≠none→v b≠none∨w.heap.size≤b
 own:∀b,v'.Owns b→v.Owns b∨w.heap.size≤b
 ev:∀e∈es,EvOk v w.heap.size w'.heap.size e
theorem EvOk.le{u v:View}{lo hi:Nat}{e:Event}(h:u.Le v)(k:EvOk u lo hi e):EvOk v lo hi e:=by
 obtain⟨l,wr,sy⟩:=e
 cases l<;>cases sy<;>simp only [EvOk]at k⊢<;>try exact k.elim
 ·refine k.imp id fun k=>?_
  cases wr
  ·simp only [Bool.false_eq_true,if_false,Option.isSome_iff_exists]at k⊢;exact k.imp fun x e=>h _ _ e
  ·simp only [if_true]at k⊢;exact k.imp fun o e=>h _ _ e
 ·refine k.imp id fun k=>?_
  cases wr
  ·simp only [Bool.false_eq_true,if_false,Option.isSome_iff_exists]at k⊢;exact k.imp fun x e=>h _ _ e
  ·simp only [if_true]at k⊢;exact k.imp fun o e=>h _ _ e
 ·rename_i m
  cases m<;>cases wr<;>simp_all [EvOk]
theorem StepOk.le{u v v':View}{w w':World}{es:Array Event}(h:u.Le v)(k:StepOk u w v' w' es):StepOk v w v' w' es where
  agree:=k.agree
  tape:=k.tape
  output:=k.output
  os:=k.os
  size:=k.size
  keep:=fun b hb hn=>k.keep b hb fun⟨o,e⟩=>hn ⟨o,h _ _ e⟩
  dom:=fun b hb=>(k.dom b hb).imp (fun e=>by
    cases hu:u b with
    | none=>exact absurd hu e
    | some x=>rw [h _ _ hu];simp) id
  own:=fun b hb=>(k.own b hb).imp (fun⟨o,e⟩=>⟨o,h _ _ e⟩) id
  ev:=fun e he=>(k.ev e he).le h
theorem StepOk.refl{v:View}{w:World}(h:v.Agree w):StepOk v w v w #[]:=
 ⟨h,Y,Y,Y,Nat.le_refl _,fun _ _ _=>rfl,fun _ h=>.inl h,fun _ h=>.inl h,by simp⟩
theorem StepOk.trans{v v₁ v₂:View}{w w₁ w₂:World}{es es':Array Event}(h:StepOk v w v₁ w₁ es)(k:StepOk v₁ w₁ v₂ w₂ es'):StepOk v w v₂ w₂ (es++es') where
  agree:=k.agree
  tape:=k.tape.trans h.tape
  output:=k.output.trans h.output
  os:=k.os.trans h.os
  size:=Nat.le_trans h.size k.size
  keep:=fun b hb hn=>(k.keep b (Nat.lt_of_lt_of_le hb h.size) fun ho=>by
    rcases h.own b ho with x|x
    · exact hn x
    · omega).trans (h.keep b hb hn)
  dom:=fun b hb=>(k.dom b hb).elim (h.dom b) fun x=>.inr (Nat.le_trans h.size x)
  own:=fun b hb=>(k.own b hb).elim (h.own b) fun x=>.inr (Nat.le_trans h.size x)
  ev:=fun e he=>by
    have h12:=h.size
    have h23:=k.size
    rcases Array.mem_append.1 he with x|x
    · have y:=h.ev e x
      obtain⟨l,wr,sy⟩:=e
      cases l<;>cases sy<;>simp only [EvOk]at y⊢<;>try exact y.elim
      · exact y.imp (fun z=>⟨z.1,oM⟩) id
      · exact y.imp (fun z=>⟨z.1,oM⟩) id
      · rename_i m
        cases m<;>cases wr<;>simp_all
    · have y:=k.ev e x
      obtain⟨l,wr,sy⟩:=e
      cases l<;>cases sy<;>simp only [EvOk]at y⊢<;>try exact y.elim
      · rcases y with y|y
        · exact .inl ⟨oM,y.2⟩
        · cases wr
          · simp only [Bool.false_eq_true,if_false]at y⊢
            obtain⟨z,hz⟩:=Option.isSome_iff_exists.1 y
            have hlt:=h.agree.lt hz
            rcases h.dom _ (by rw [hz];simp)with z|z
            · exact .inr (by cases hz:v _ with|none=>exact absurd hz z|some _=>rfl)
            · exact .inl ⟨z,oM⟩
          · simp only [if_true]at y⊢
            obtain⟨z,hz⟩:=y
            have hlt:=h.agree.lt hz
            exact(h.own _ ⟨z,hz⟩).elim .inr fun q=>.inl ⟨q,oM⟩
      · rcases y with y|y
        · exact .inl ⟨oM,y.2⟩
        · cases wr
          · simp only [Bool.false_eq_true,if_false]at y⊢
            obtain⟨z,hz⟩:=Option.isSome_iff_exists.1 y
            have hlt:=h.agree.lt hz
            rcases h.dom _ (by rw [hz];simp)with z|z
            · exact .inr (by cases hz:v _ with|none=>exact absurd hz z|some _=>rfl)
            · exact .inl ⟨z,oM⟩
          · simp only [if_true]at y⊢
            obtain⟨z,hz⟩:=y
            have hlt:=h.agree.lt hz
            exact(h.own _ ⟨z,hz⟩).elim .inr fun q=>.inl ⟨q,oM⟩
      · rename_i m
        cases m<;>cases wr<;>simp_all
theorem StepOk.sub{v v':View}{w w':World}{es es':Array Event}(k:StepOk v w v' w' es)(h:∀e∈es',e∈es):StepOk v w v' w' es':=
 {k with ev:=fun e he=>k.ev e (h e he) }
theorem EvOk.union{u F:View}{lo hi:Nat}{e:Event}(h:EvOk u lo hi e):EvOk (u.union F) lo hi e:=h.le (A0g _ _)
theorem StepOk.frame{v v' F:View}{w w':World}{es:Array Event}(k:StepOk v w v' w' es)(hF:F.Agree w)(hd:Disj v F) :
  Disj v' F∧StepOk (v.union F) w (v'.union F) w' es:=by
 have hd':Disj v' F:=fun b=>by
  cases hF':F b with
  | none=>exact .inr rfl
  | some x=>
   left
   cases hv:v' b with
   | none=>rfl
   | some y=>
    exfalso
    rcases k.dom b (by rw [hv];simp)with e|e
    ·rcases hd b with x|x
     ·exact e x
     ·rw [x]at hF';cases hF'
    ·exact absurd (hF.lt hF') oM
 refine⟨hd',?_,k.tape,k.output,k.os,k.size,fun b hb hn=>?_,fun b hb=>?_,fun b hb=>?_,fun e he=>(k.ev e he).union⟩
 ·intro b p o e
  unfold View.union at e
  split at e
  ·rename_i x hx;cases e;exact k.agree b p o hx
  ·have hlt:=hF.lt e
   have hno:¬v.Owns b:=fun⟨o',e'⟩=>by
    rcases hd b with x|x
    ·rw [x]at e';cases e'
    ·rw [x]at e;cases e
   rw [k.keep b hlt hno];exact hF b p o e
 ·exact k.keep b hb fun⟨o,e⟩=>hn ⟨o,A0g _ _ _ _ e⟩
 ·unfold View.union at hb⊢
  cases hv:v' b with
  | none=>
   rw [hv]at hb
   left
   cases hvb:v b with
   | none=>exact hb
   | some x=>simp
  | some x=>
   rcases k.dom b (by rw [hv];simp)with e|e
   ·left
    cases hvb:v b with
    | none=>exact absurd hvb e
    | some x=>simp
   ·exact .inr e
 ·obtain⟨o,e⟩:=hb
  unfold View.union at e
  split at e
  ·rename_i x hx
   cases e
   exact(k.own b ⟨o,hx⟩).imp (fun⟨o',e'⟩=>⟨o',A0g _ _ _ _ e'⟩) id
  ·exact .inl ⟨o,A1l hd _ _ e⟩
def A2k:Value→Bool
 | .agg _ | .tuple _=>false
 | _=>true
def shapeOf:Obj→Option (TypeId×Nat)
 | .cells c e _=>some (e,c.size)
 | _=>none
def A8q(off:Nat):Obj→Bool
 | .cells _ _ (lo,hi)=>lo≤off&&off<hi
 | _=>false
def A9u:Obj→Bool
 | .cells ..=>true
 | _=>false
def frzTo(off n:Nat)(f:Nat×Nat):Nat×Nat:=if f.1==f.2 then(off,off+n)else(min f.1 off,max f.2 (off+n))
def SemX(P:Program){α:Type}:Sem α→(α→View→Prop)→(Value→View→Prop)→View→Prop
 | .pure a,K,_,v=>K a v
 | .load m a k,K,E,v=>m = .plain∧∃x,v.cell a=some x∧SemX P (k x) K E v
 | .store m a x k,K,E,v=>m = .plain∧A2k x=true∧∃c e f,v a.block=some (true,.cells c e f)∧a.spot=none∧a.off<c.size∧A8q a.off (.cells c e f)=false∧
   SemX P k K E (v.set a.block true (.cells (c.setIfInBounds a.off x) e f))
 | .new o k,K,E,v=>∀r,v r=none→SemX P (k r) K E (v.set r true o)
 | .shape r k,K,E,v=>∃p o,v r=some (p,o)∧SemX P (k (shapeOf o)) K E v
 | .freeze a n k,K,E,v=>n≠0∧∃c e f,v a.block=some (true,.cells c e f)∧SemX P k K E (v.set a.block true (.cells c e (frzTo a.off n f)))
 | .frozen a k,K,E,v=>∃p o,v a.block=some (p,o)∧SemX P (k (A8q a.off o)) K E v
 | .getObj r k,K,E,v=>∃p o,v r=some (p,o)∧A9u o=false∧o.isChan=false∧SemX P (k o) K E v
 | .setObj r o k,K,E,v=>∃o',v r=some (true,o')∧A9u o'=false∧o.isChan=false∧SemX P k K E (v.set r true o)
 | .choose q k,K,E,v=>if q.forced then SemX P (k 0) K E v else ∀t,SemX P (k (q.cut t)) K E v
 | .sys _ _,_,_,_=>False
 | .program k,K,E,v=>SemX P (k P) K E v
 | .mark m k,K,E,v=>Free m∧SemX P k K E v
 | .halt (.panic x),_,E,v=>E x v
 | .halt _,_,_,_=>False
theorem frozen_of{w:World}{a:Addr}{o:Obj}(h:w.heap[a.block]?=some o):w.frozen? a=A8q a.off o:=by
 unfold World.frozen? A8q
 rw [h]
 cases o<;>rfl
theorem shape_of{w:World}{r:Nat}{o:Obj}(h:w.heap[r]?=some o):w.shape? r=shapeOf o:=by
 unfold World.shape? shapeOf
 rw [h]
 cases o<;>rfl
section
variable{P:Program}
theorem stepOk_new{v:View}{w:World}{r:Nat}{o:Obj}(h:v.Agree w)(hr:r=w.heap.size):StepOk v w (v.set r true o) {w with heap:=w.heap.push o } #[]:=by
 subst hr
 refine⟨?_,Y,Y,Y,by simp,fun b hb _=>?_,fun b hb=>?_,fun b hb=>?_,by simp⟩
 ·intro b p o' e
  unfold View.set at e
  split at e
  ·cases e;subst_vars;simp
  ·have hlt:=h.lt e
   rw [Array.getElem?_push]
   rw [if_neg oM]
   exact h b p o' e
 ·rw [Array.getElem?_push,if_neg oM]
 ·unfold View.set at hb
  split at hb
  ·exact .inr oM
  ·exact .inl hb
 ·obtain⟨o',e⟩:=hb
  unfold View.set at e
  split at e
  ·exact .inr oM
  ·exact .inl ⟨o',e⟩
theorem B2q{v:View}{w w':World}{r:Nat}{o o':Obj}{es:Array Event}(h:v.Agree w)(hv:v r=some (true,o'))(hw:w'.heap=w.heap.setIfInBounds r o)
  (h1:w'.tape=w.tape)(h2:w'.output=w.output)(h3:w'.os=w.os)(he:∀e∈es,EvOk v w.heap.size w'.heap.size e):StepOk v w (v.set r true o) w' es:=by
 have hlt:=h.lt hv
 refine⟨?_,h1,h2,h3,by rw [hw];simp,fun b hb hn=>?_,fun b hb=>?_,fun b hb=>?_,he⟩
 ·intro b p o₁ e
  unfold View.set at e
  split at e
  ·cases e;subst_vars;rw [hw];simp [hlt]
  ·rename_i hne
   rw [hw,Array.getElem?_setIfInBounds_ne oM]
   exact h b p o₁ e
 ·have hne:r≠b:=fun e=>hn (e ▸ ⟨o',hv⟩)
  rw [hw,Array.getElem?_setIfInBounds_ne hne]
 ·unfold View.set at hb
  split at hb
  ·subst_vars;exact .inl (by rw [hv];simp)
  ·exact .inl hb
 ·obtain⟨o₁,e⟩:=hb
  unfold View.set at e
  split at e
  ·subst_vars;exact .inl ⟨o',hv⟩
  ·exact .inl ⟨o₁,e⟩
theorem setCell_heap{w:World}{a:Addr}{x:Value}{c:Array Value}{e:TypeId}{f:Nat×Nat}(h:w.heap[a.block]?=some (.cells c e f))(hs:a.spot=none) :
  (w.setCell a x).heap=w.heap.setIfInBounds a.block (.cells (c.setIfInBounds a.off x) e f):=by
 apply Array.ext_getElem?
 intro i
 simp only [World.setCell,hs,Option.isSome_none,Bool.false_eq_true,if_false]
 rw [Array.getElem?_modify]
 by_cases hi:a.block=i
 ·subst hi
  obtain⟨hlt,_⟩:=Array.getElem?_eq_some_iff.1 h
  have hg:w.heap[a.block] = .cells c e f:=by simpa [Array.getElem?_eq_getElem hlt]using h
  simp [hlt,hg]
 ·rw [Array.getElem?_setIfInBounds_ne hi]
  simp [hi]
theorem freeze_heap{w:World}{a:Addr}{n:Nat}{c:Array Value}{e:TypeId}{f:Nat×Nat}(h:w.heap[a.block]?=some (.cells c e f))(hn:n≠0) :
  (w.freeze a n).heap=w.heap.setIfInBounds a.block (.cells c e (frzTo a.off n f)):=by
 apply Array.ext_getElem?
 intro i
 simp only [World.freeze,if_neg hn]
 rw [Array.getElem?_modify]
 by_cases hi:a.block=i
 ·subst hi
  obtain⟨hlt,_⟩:=Array.getElem?_eq_some_iff.1 h
  have hg:w.heap[a.block] = .cells c e f:=by simpa [Array.getElem?_eq_getElem hlt]using h
  obtain⟨lo,hh⟩:=f
  simp [hlt,hg,frzTo]
 ·rw [Array.getElem?_setIfInBounds_ne hi]
  simp [hi]
theorem semX_sound{α:Type}(m:Sem α){K:α→View→Prop}{E:Value→View→Prop}:∀{v:View} {w:World} {es:Array Event},SemX P m K E v→v.Agree w→
  (∃a w' v' es',m.runT P w es=(.ok a w',es++es')∧K a v'∧StepOk v w v' w' es')∨
  (∃x w' v' es',m.runT P w es=(.halt (.panic x) w',es++es')∧E x v'∧StepOk v w v' w' es'):=by
 induction m with
 | pure a=>exact fun h hw=>.inl ⟨a,_,_,#[],by simp [Sem.runT],h,.refl hw⟩
 | load m a k ih=>
  intro v w es h hw
  obtain⟨rfl,x,hx,h⟩:=h
  have hc:=hw.cell hx
  have hk:EvOk v w.heap.size w.heap.size ⟨.cell a,false,false⟩:=by
   refine .inr ?_
   unfold View.cell at hx
   simp only [Bool.false_eq_true,if_false]
   split at hx
   ·rename_i hb;rw [hb];rfl
   ·cases hx
  rcases ih x (es:=es.push ⟨.cell a,false,false⟩) h hw with ⟨y,w',v',es',hr,hk',hs⟩|⟨y,w',v',es',hr,hk',hs⟩
  ·refine .inl ⟨y,w',v',#[⟨.cell a,false,false⟩]++es',?_,hk',?_⟩
   ·rw [Sem.runT,hc];simp only [show((Mode.plain==Mode.atomic)=false)from rfl];rw [hr];simp
   ·exact(StepOk.trans {StepOk.refl hw with ev:=by simpa using hk } hs)
  ·refine .inr ⟨y,w',v',#[⟨.cell a,false,false⟩]++es',?_,hk',?_⟩
   ·rw [Sem.runT,hc];simp only [show((Mode.plain==Mode.atomic)=false)from rfl];rw [hr];simp
   ·exact(StepOk.trans {StepOk.refl hw with ev:=by simpa using hk } hs)
 | store m a x k ih=>
  intro v w es h hw
  obtain⟨rfl,hx,c,e,f,hb,hsp,hlt,hfz,h⟩:=h
  have hwb:=hw _ _ _ hb
  have hc:w.cell? a=some c[a.off]:=by simp [World.cell?,hwb,hsp,hlt]
  have hfz':w.frozen? a=false:=by rw [frozen_of hwb];exact hfz
  have hst:StepOk v w (v.set a.block true (.cells (c.setIfInBounds a.off x) e f)) (w.setCell a x) #[⟨.cell a,true,false⟩]:=
   B2q hw hb (setCell_heap hwb hsp) rfl rfl rfl (by
    intro e' he'
    simp only [Array.mem_singleton,List.mem_toArray,List.mem_singleton]at he'
    subst he'
    exact .inr (by simp only [if_true];exact⟨_,hb⟩))
  have hrun:∀es,(Sem.store .plain a x k).runT P w es=k.runT P (w.setCell a x) (es.push ⟨.cell a,true,false⟩):=by
   intro es
   cases x<;>first|(simp [A2k]at hx;done)|simp [Sem.runT,hc,hfz',show((Mode.plain==Mode.atomic)=false)from rfl]
  rcases ih (es:=es.push ⟨.cell a,true,false⟩) h hst.agree with ⟨y,w',v',es',hr,hk',hs⟩|⟨y,w',v',es',hr,hk',hs⟩
  ·exact .inl ⟨y,w',v',#[⟨.cell a,true,false⟩]++es',by rw [hrun,hr];simp,hk',hst.trans hs⟩
  ·exact .inr ⟨y,w',v',#[⟨.cell a,true,false⟩]++es',by rw [hrun,hr];simp,hk',hst.trans hs⟩
 | new o k ih=>
  intro v w es h hw
  have hn:v w.heap.size=none:=by
   cases hv:v w.heap.size with
   | none=>rfl
   | some x=>exact absurd (hw.lt hv) oM
  have hst:=stepOk_new (o:=o) hw Y
  rcases ih w.heap.size (es:=es) (h _ hn) hst.agree with ⟨y,w',v',es',hr,hk',hs⟩|⟨y,w',v',es',hr,hk',hs⟩
  ·exact .inl ⟨y,w',v',es',by rw [Sem.runT];exact hr,hk',by simpa using hst.trans hs⟩
  ·exact .inr ⟨y,w',v',es',by rw [Sem.runT];exact hr,hk',by simpa using hst.trans hs⟩
 | shape r k ih=>
  intro v w es h hw
  obtain⟨p,o,hv,h⟩:=h
  have hs:=shape_of (hw _ _ _ hv)
  rw [Sem.runT,hs]
  exact ih _ h hw
 | freeze a n k ih=>
  intro v w es h hw
  obtain⟨hn,c,e,f,hb,h⟩:=h
  have hst:StepOk v w (v.set a.block true (.cells c e (frzTo a.off n f))) (w.freeze a n) #[]:=
   B2q hw hb (freeze_heap (hw _ _ _ hb) hn) (by simp [World.freeze,hn]) (by simp [World.freeze,hn]) (by simp [World.freeze,hn]) sM
  rcases ih (es:=es) h hst.agree with ⟨y,w',v',es',hr,hk',hs⟩|⟨y,w',v',es',hr,hk',hs⟩
  ·exact .inl ⟨y,w',v',es',by rw [Sem.runT];exact hr,hk',by simpa using hst.trans hs⟩
  ·exact .inr ⟨y,w',v',es',by rw [Sem.runT];exact hr,hk',by simpa using hst.trans hs⟩
 | frozen a k ih=>
  intro v w es h hw
  obtain⟨p,o,hv,h⟩:=h
  rw [Sem.runT,frozen_of (hw _ _ _ hv)]
  exact ih _ h hw
 | getObj r k ih=>
  intro v w es h hw
  obtain⟨p,o,hv,h1,h2,h⟩:=h
  have hwb:=hw _ _ _ hv
  have hrun:∀es,(Sem.getObj r k).runT P w es=(k o).runT P w (es.push ⟨.obj r,false,false⟩):=by
   intro es
   rw [Sem.runT,hwb]
   cases o<;>simp_all [A9u]
  have hev:EvOk v w.heap.size w.heap.size ⟨.obj r,false,false⟩:=.inr (by simp [hv])
  rcases ih o (es:=es.push ⟨.obj r,false,false⟩) h hw with ⟨y,w',v',es',hr,hk',hs⟩|⟨y,w',v',es',hr,hk',hs⟩
  ·exact .inl ⟨y,w',v',#[⟨.obj r,false,false⟩]++es',by rw [hrun,hr];simp,hk',StepOk.trans {StepOk.refl hw with ev:=by simpa using hev } hs⟩
  ·exact .inr ⟨y,w',v',#[⟨.obj r,false,false⟩]++es',by rw [hrun,hr];simp,hk',StepOk.trans {StepOk.refl hw with ev:=by simpa using hev } hs⟩
 | setObj r o k ih=>
  intro v w es h hw
  obtain⟨o',hv,h1,h2,h⟩:=h
  have hwb:=hw _ _ _ hv
  have hrun:∀es,(Sem.setObj r o k).runT P w es=k.runT P {w with heap:=w.heap.setIfInBounds r o } (es.push ⟨.obj r,true,false⟩):=by
   intro es
   rw [Sem.runT,hwb]
   cases o'<;>simp_all [A9u]
  have hst:StepOk v w (v.set r true o) {w with heap:=w.heap.setIfInBounds r o } #[⟨.obj r,true,false⟩]:=
   B2q hw hv rfl rfl rfl rfl (by
    intro e' he'
    simp only [Array.mem_singleton,List.mem_toArray,List.mem_singleton]at he'
    subst he'
    exact .inr (by simp only [if_true];exact⟨_,hv⟩))
  rcases ih (es:=es.push ⟨.obj r,true,false⟩) h hst.agree with ⟨y,w',v',es',hr,hk',hs⟩|⟨y,w',v',es',hr,hk',hs⟩
  ·exact .inl ⟨y,w',v',#[⟨.obj r,true,false⟩]++es',by rw [hrun,hr];simp,hk',hst.trans hs⟩
  ·exact .inr ⟨y,w',v',#[⟨.obj r,true,false⟩]++es',by rw [hrun,hr];simp,hk',hst.trans hs⟩
 | choose q k ih=>
  intro v w es h hw
  rw [SemX]at h
  by_cases hq:q.forced=true
  ·rw [if_pos hq]at h
   rw [Sem.runT,if_pos hq]
   exact ih _ h hw
  ·rw [if_neg hq]at h
   rw [Sem.runT,if_neg hq]
   have hw':v.Agree {w with drawn:=w.drawn+1 }:=hw
   have hst:StepOk v w v {w with drawn:=w.drawn+1 } #[]:=⟨hw',rfl,rfl,rfl,Nat.le_refl _,fun _ _ _=>rfl,fun _ h=>.inl h,fun _ h=>.inl h,by simp⟩
   rcases ih _ (es:=es) (h (w.tape w.drawn q)) hw' with ⟨y,w',v',es',hr,hk',hs⟩|⟨y,w',v',es',hr,hk',hs⟩
   ·exact .inl ⟨y,w',v',es',hr,hk',by simpa using hst.trans hs⟩
   ·exact .inr ⟨y,w',v',es',hr,hk',by simpa using hst.trans hs⟩
 | sys c k ih=>exact fun h=>h.elim
 | program k ih=>
  intro v w es h hw
  rw [Sem.runT]
  exact ih _ h hw
 | mark m k ih=>
  intro v w es h hw
  obtain⟨hm,h⟩:=h
  have hev:EvOk v w.heap.size w.heap.size ⟨.mark m,false,true⟩:=hm
  rcases ih (es:=es.push ⟨.mark m,false,true⟩) h hw with ⟨y,w',v',es',hr,hk',hs⟩|⟨y,w',v',es',hr,hk',hs⟩
  ·exact .inl ⟨y,w',v',#[⟨.mark m,false,true⟩]++es',by rw [Sem.runT,hr];simp,hk',StepOk.trans {StepOk.refl hw with ev:=by simpa using hev } hs⟩
  ·exact .inr ⟨y,w',v',#[⟨.mark m,false,true⟩]++es',by rw [Sem.runT,hr];simp,hk',StepOk.trans {StepOk.refl hw with ev:=by simpa using hev } hs⟩
 | halt x=>
  intro v w es h hw
  cases x<;>first|exact h.elim|exact .inr ⟨_,w,v,#[],by simp [Sem.runT],h,.refl hw⟩
theorem semX_bind{α β:Type}(m:Sem α)(f:α→Sem β){K:β→View→Prop}{E:Value→View→Prop}:∀{v:View},
  SemX P (m.bind f) K E v↔SemX P m (fun a v'=>SemX P (f a) K E v') E v:=by
 induction m with
 | pure a=>intro v;rfl
 | load m a k ih=>intro v;simp only [Sem.bind,SemX,ih]
 | store m a x k ih=>intro v;simp only [Sem.bind,SemX,ih]
 | new o k ih=>intro v;simp only [Sem.bind,SemX,ih]
 | shape r k ih=>intro v;simp only [Sem.bind,SemX,ih]
 | freeze a n k ih=>intro v;simp only [Sem.bind,SemX,ih]
 | frozen a k ih=>intro v;simp only [Sem.bind,SemX,ih]
 | getObj r k ih=>intro v;simp only [Sem.bind,SemX,ih]
 | setObj r o k ih=>intro v;simp only [Sem.bind,SemX,ih]
 | choose q k ih=>intro v;simp only [Sem.bind,SemX,ih]
 | sys c k ih=>intro v;simp only [Sem.bind,SemX]
 | program k ih=>intro v;simp only [Sem.bind,SemX,ih]
 | mark m k ih=>intro v;simp only [Sem.bind,SemX,ih]
 | halt x=>intro v;cases x<;>simp only [Sem.bind,SemX]
theorem A1y{α:Type}(m:Sem α){K K':α→View→Prop}{E E':Value→View→Prop}(hK:∀a v,K a v→K' a v)(hE:∀x v,E x v→E' x v):∀{v:View},
  SemX P m K E v→SemX P m K' E' v:=by
 induction m with
 | pure a=>exact fun h=>hK _ _ h
 | load m a k ih=>rintro v ⟨h1,x,h2,h⟩;exact⟨h1,x,h2,ih _ h⟩
 | store m a x k ih=>rintro v ⟨h1,h2,c,e,f,h3,h4,h5,h6,h⟩;exact⟨h1,h2,c,e,f,h3,h4,h5,h6,ih h⟩
 | new o k ih=>exact fun h r hr=>ih _ (h r hr)
 | shape r k ih=>rintro v ⟨p,o,h1,h⟩;exact⟨p,o,h1,ih _ h⟩
 | freeze a n k ih=>rintro v ⟨h0,c,e,f,h1,h⟩;exact⟨h0,c,e,f,h1,ih h⟩
 | frozen a k ih=>rintro v ⟨p,o,h1,h⟩;exact⟨p,o,h1,ih _ h⟩
 | getObj r k ih=>rintro v ⟨p,o,h1,h2,h3,h⟩;exact⟨p,o,h1,h2,h3,ih _ h⟩
 | setObj r o k ih=>rintro v ⟨o',h1,h2,h3,h⟩;exact⟨o',h1,h2,h3,ih h⟩
 | choose q k ih=>
  intro v h
  rw [SemX]at h⊢
  split at h
  ·rw [if_pos ‹_›];exact ih _ h
  ·rw [if_neg ‹_›];exact fun t=>ih _ (h t)
 | sys c k ih=>exact fun h=>h
 | program k ih=>exact fun h=>ih _ h
 | mark m k ih=>rintro v ⟨h1,h⟩;exact⟨h1,ih h⟩
 | halt x=>intro v h;cases x<;>first|exact hE _ _ h|exact h.elim
end
end Go.Pal
end
section
namespace Go.Pal
open Go Go.Conc View
structure Who where
 main:Bool
 ph:Bool
def ShunL(S:Nat→Prop):Loc→Prop
 | .cell a=>S a.block
 | _=>False
def Mild(t:Tape):Prop:=t=t
def SameOs(a b:Os):Prop:=b=a
theorem SameOs.refl(a:Os):SameOs a a:=rfl
theorem SameOs.trans{a b c:Os}(h:SameOs a b)(k:SameOs b c):SameOs a c:=Eq.trans k h
def NoRel(t:Trace):Prop:=∀op∈t,∀A,op.act≠.mark (.release A)
theorem NoRel.app{t u:Trace}(h:NoRel t)(k:NoRel u):NoRel (t++u):=fun op hop A=>(Array.mem_append.1 hop).elim (fun x=>h op x A) (fun x=>k op x A)
structure BesideG(P:Program)(v:View)(g:Goroutine)(gs:Array Goroutine)(w:World)(t:Trace)(q:Nat→Nat)(S:Nat→Prop):Prop where
 zero:gs[0]?=some g
 leave:Leavers P t gs q
 past:Past (ShunL S) w.heap.size t
 agree:v.Agree w
 apart:∀b,S b→v b=none
 low:∀b,S b→b<w.heap.size
 calm:Mild w.tape
 norel:NoRel t
structure PStep(v:View)(w:World)(v':View)(w':World):Prop where
 agree:v'.Agree w'
 tape:w'.tape=w.tape
 output:w'.output=w.output
 os:SameOs w.os w'.os
 size:w.heap.size≤w'.heap.size
 keep:∀b,b<w.heap.size→¬v.Owns b→w'.heap[b]?=w.heap[b]?
 dom:∀b,v' b≠none→v b≠none∨w.heap.size≤b
 own:∀b,v'.Owns b→v.Owns b∨w.heap.size≤b
def BigStep(P:Program)(v:View)(g:Goroutine)(K:View→Goroutine→Prop):Prop:=
 ∀ gs w sl t q S,BesideG P v g gs w t q S→∃N gs' w' sl' t' q' S' v' g',runNT P N (crowd gs w sl) t=(.next (crowd gs' w' sl'),t')∧BesideG P v' g' gs' w' t' q' S'∧
  PStep v w v' w'∧(∀b,S' b→S b∨v.Owns b∨w.heap.size≤b)∧K v' g'
inductive Run(P:Program)(mn:Who)(Stop:View→Goroutine→Prop):View→Goroutine→Prop
 | stop {u v:View} {g:Goroutine} (hl:u.Le v) (h:Stop u g):Run P mn Stop v g
 | step {v:View} {g:Goroutine} (hs:g.status = .running) (ng:World→Goroutine) (nw:World→World) (ne:World→Array Event) (nv:World→View)
   (h:∀w,v.Agree w→stepG P mn.main g w = .go (ng w) (nw w) (ne w)∧StepOk v w (nv w) (nw w) (ne w))
   (r:∀w,v.Agree w→Run P mn Stop (nv w) (ng w)):Run P mn Stop v g
 | phase (hp:mn.ph=true) (hm:mn.main=true) {v:View} {g:Goroutine} (K:View→Goroutine→Prop) (h:BigStep P v g K) (r:∀v' g',K v' g'→Run P mn Stop v' g'):Run P mn Stop v g
theorem PStep.le{u v v':View}{w w':World}(h:u.Le v)(k:PStep u w v' w'):PStep v w v' w' where
  agree:=k.agree
  tape:=k.tape
  output:=k.output
  os:=k.os
  size:=k.size
  keep:=fun b hb hn=>k.keep b hb fun⟨o,e⟩=>hn ⟨o,h _ _ e⟩
  dom:=fun b hb=>(k.dom b hb).imp (fun e=>by
    cases hu:u b with
    | none=>exact absurd hu e
    | some x=>rw [h _ _ hu];simp) id
  own:=fun b hb=>(k.own b hb).imp (fun⟨o,e⟩=>⟨o,h _ _ e⟩) id
theorem StepOk.pstep{v v':View}{w w':World}{es:Array Event}(h:StepOk v w v' w' es):PStep v w v' w':=
 ⟨h.agree,h.tape,h.output,by rw [h.os];exact .refl _,h.size,h.keep,h.dom,h.own⟩
theorem PStep.refl{v:View}{w:World}(h:v.Agree w):PStep v w v w:=
 ⟨h,Y,Y,.refl _,Nat.le_refl _,fun _ _ _=>rfl,fun _ h=>.inl h,fun _ h=>.inl h⟩
theorem PStep.trans{v v₁ v₂:View}{w w₁ w₂:World}(h:PStep v w v₁ w₁)(k:PStep v₁ w₁ v₂ w₂):PStep v w v₂ w₂ where
 agree:=k.agree
 tape:=k.tape.trans h.tape
 output:=k.output.trans h.output
 os:=h.os.trans k.os
 size:=Nat.le_trans h.size k.size
 keep:=fun b hb hn=>(k.keep b (Nat.lt_of_lt_of_le hb h.size) fun ho=>by
  rcases h.own b ho with x|x
  ·exact hn x
  ·omega).trans (h.keep b hb hn)
 dom:=fun b hb=>(k.dom b hb).elim (h.dom b) fun x=>.inr (Nat.le_trans h.size x)
 own:=fun b hb=>(k.own b hb).elim (h.own b) fun x=>.inr (Nat.le_trans h.size x)
theorem PStep.less{v v' u:View}{w w':World}(k:PStep v w v' w')(h:u.Le v'):PStep v w u w' where
  agree:=k.agree.le h
  tape:=k.tape
  output:=k.output
  os:=k.os
  size:=k.size
  keep:=k.keep
  dom:=fun b hb=>k.dom b fun e=>by
    cases hu:u b with
    | none=>exact hb hu
    | some x=>rw [h _ _ hu]at e;cases e
  own:=fun b ⟨o,e⟩=>k.own b ⟨o,h _ _ e⟩
theorem PStep.frame{v v' F:View}{w w':World}(k:PStep v w v' w')(hF:F.Agree w)(hd:Disj v F) :
  Disj v' F∧PStep (v.union F) w (v'.union F) w':=by
 have hd':Disj v' F:=fun b=>by
  cases hF':F b with
  | none=>exact .inr rfl
  | some x=>
   left
   cases hv:v' b with
   | none=>rfl
   | some y=>
    exfalso
    rcases k.dom b (by rw [hv];simp)with e|e
    ·rcases hd b with x|x
     ·exact e x
     ·rw [x]at hF';cases hF'
    ·exact absurd (hF.lt hF') oM
 refine⟨hd',?_,k.tape,k.output,k.os,k.size,fun b hb hn=>?_,fun b hb=>?_,fun b hb=>?_⟩
 ·intro b p o e
  unfold View.union at e
  split at e
  ·rename_i x hx;cases e;exact k.agree b p o hx
  ·have hlt:=hF.lt e
   have hno:¬v.Owns b:=fun⟨o',e'⟩=>by
    rcases hd b with x|x
    ·rw [x]at e';cases e'
    ·rw [x]at e;cases e
   rw [k.keep b hlt hno];exact hF b p o e
 ·exact k.keep b hb fun⟨o,e⟩=>hn ⟨o,A0g _ _ _ _ e⟩
 ·unfold View.union at hb⊢
  cases hv:v' b with
  | none=>
   rw [hv]at hb
   left
   cases hvb:v b with
   | none=>exact hb
   | some x=>simp
  | some x=>
   rcases k.dom b (by rw [hv];simp)with e|e
   ·left
    cases hvb:v b with
    | none=>exact absurd hvb e
    | some x=>simp
   ·exact .inr e
 ·obtain⟨o,e⟩:=hb
  unfold View.union at e
  split at e
  ·rename_i x hx
   cases e
   exact(k.own b ⟨o,hx⟩).imp (fun⟨o',e'⟩=>⟨o',A0g _ _ _ _ e'⟩) id
  ·exact .inl ⟨o,A1l hd _ _ e⟩
theorem BesideG.le{P:Program}{u v:View}{g:Goroutine}{gs:Array Goroutine}{w:World}{t:Trace}{q:Nat→Nat}{S:Nat→Prop}(h:u.Le v)(k:BesideG P v g gs w t q S):BesideG P u g gs w t q S:=by
 refine⟨k.zero,k.leave,k.past,k.agree.le h,fun b hb=>?_,k.low,k.calm,k.norel⟩
 cases hu:u b with
 | none=>rfl
 | some x=>
  have:=k.apart b hb
  rw [h _ _ hu]at this
  cases this
theorem BigStep.le{P:Program}{u v:View}{g:Goroutine}{K:View→Goroutine→Prop}(h:u.Le v)(k:BigStep P u g K):BigStep P v g K:=fun gs w sl t q S hB=>by
 obtain⟨N,gs',w',sl',t',q',S',v',g',h1,h2,h3,h4,h5⟩:=k gs w sl t q S (hB.le h)
 exact⟨N,gs',w',sl',t',q',S',v',g',h1,h2,h3.le h,fun b hb=>(h4 b hb).imp id (Or.imp (fun⟨o,e⟩=>⟨o,h _ _ e⟩) id),h5⟩
theorem BigStep.frame{P:Program}{v F:View}{g:Goroutine}{K:View→Goroutine→Prop}(k:BigStep P v g K)(hd:Disj v F):BigStep P (v.union F) g (fun v' g'=>∃u,v'=u.union F∧Disj u F∧K u g'):=fun gs w sl t q S hB=>by
 obtain⟨N,gs',w',sl',t',q',S',v',g',h1,h2,h3,h4,h5⟩:=k gs w sl t q S (hB.le (A0g _ _))
 have hF:F.Agree w:=hB.agree.le (A1l hd)
 obtain⟨h6,h7⟩:=h3.frame hF hd
 refine⟨N,gs',w',sl',t',q',S',v'.union F,g',h1,{h2 with agree:=h7.agree,apart:=fun b hb=>?_ },h7,fun b hb=>(h4 b hb).imp id (Or.imp (fun⟨o,e⟩=>⟨o,A0g _ _ _ _ e⟩) id),v',rfl,h6,h5⟩
 unfold View.union
 rw [h2.apart b hb]
 rcases h4 b hb with e|e
 ·have:=hB.apart b e
  unfold View.union at this
  cases hv:v b with
  | none=>rw [hv]at this;exact this
  | some x=>rw [hv]at this;cases this
 ·rcases e with ⟨o,e⟩|e
  ·exact(hd b).resolve_left (by rw [e];simp)
  ·cases hF':F b with
   | none=>rfl
   | some x=>exact absurd (hF.lt hF') oM
section
variable{P:Program}{mn:Who}{Stop:View→Goroutine→Prop}
theorem Run.mk{v:View}{g:Goroutine}(hs:g.status = .running)
  (h:∀w,v.Agree w→∃g' w' es v',stepG P mn.main g w = .go g' w' es∧StepOk v w v' w' es∧Run P mn Stop v' g'):Run P mn Stop v g:=by
 classical
 have key:∀w,∃x:Goroutine×World×Array Event×View,v.Agree w→stepG P mn.main g w = .go x.1 x.2.1 x.2.2.1∧StepOk v w x.2.2.2 x.2.1 x.2.2.1∧Run P mn Stop x.2.2.2 x.1:=by
  intro w
  by_cases hw:v.Agree w
  ·obtain⟨g',w',es,v',h1,h2,h3⟩:=h w hw
   exact⟨⟨g',w',es,v'⟩,fun _=>⟨h1,h2,h3⟩⟩
  ·exact⟨⟨g,w,#[],v⟩,fun h=>absurd h hw⟩
 let F:=fun w=>Classical.choose (key w)
 have hF:=fun w=>Classical.choose_spec (key w)
 exact .step hs (fun w=>(F w).1) (fun w=>(F w).2.1) (fun w=>(F w).2.2.1) (fun w=>(F w).2.2.2) (fun w hw=>⟨(hF w hw).1,(hF w hw).2.1⟩) (fun w hw=>(hF w hw).2.2)
theorem Run.weaken{u v:View}{g:Goroutine}(h:Run P mn Stop u g)(hl:u.Le v):Run P mn Stop v g:=by
 cases h with
 | stop hl' h=>exact .stop (hl'.trans hl) h
 | step hs ng nw ne nv h r=>exact .step hs ng nw ne nv (fun w hw=>⟨(h w (hw.le hl)).1,(h w (hw.le hl)).2.le hl⟩) (fun w hw=>r w (hw.le hl))
 | phase hp hm K h r=>exact .phase hp hm K (h.le hl) r
theorem Run.mono{Stop':View→Goroutine→Prop}{v:View}{g:Goroutine}(h:Run P mn Stop v g)(hs:∀v g,Stop v g→Run P mn Stop' v g):Run P mn Stop' v g:=by
 induction h with
 | stop hl h=>exact(hs _ _ h).weaken hl
 | step h1 ng nw ne nv h r ih=>exact .step h1 ng nw ne nv h ih
 | phase hp hm K h r ih=>exact .phase hp hm K h ih
theorem Run.frame{F:View}{v:View}{g:Goroutine}(h:Run P mn Stop v g):Disj v F→Run P mn (fun v' g'=>∃u,v'=u.union F∧Disj u F∧Stop u g') (v.union F) g:=by
 induction h with
 | @stop u v g hl h=>
  intro hd
  have hd':Disj u F:=fun b=>(hd b).imp (fun e=>by
   cases hu:u b with
   | none=>rfl
   | some x=>rw [hl _ _ hu]at e;cases e) id
  refine .stop (u:=u.union F) ?_ ⟨u,Y,hd',h⟩
  intro b x e
  unfold View.union at e⊢
  split at e
  ·rename_i y hy;cases e;rw [hl _ _ hy]
  ·cases hv:v b with
   | none=>exact e
   | some y=>exact absurd ((hd b).resolve_left (by rw [hv];simp)) (by rw [e];simp)
 | step h1 ng nw ne nv h r ih=>
  intro hd
  refine Run.mk h1 fun w hw=>?_
  have hwv:=hw.le (A0g _ _)
  have hwF:=hw.le (A1l hd)
  obtain⟨h2,h3⟩:=h w hwv
  obtain⟨hd',hs⟩:=h3.frame hwF hd
  exact⟨_,_,_,_,h2,hs,ih w hwv hd'⟩
 | phase hp hm K h r ih=>
  intro hd
  refine .phase hp hm _ (h.frame hd) ?_
  rintro v' g' ⟨u,rfl,hdu,hK⟩
  exact ih u g' hK hdu
theorem Run.ctl{v:View}{g g':Goroutine}(hs:g.status = .running)(h:∀w,stepG P mn.main g w = .go g' w)(r:Run P mn Stop v g'):Run P mn Stop v g:=
 .step hs (fun _=>g') (fun w=>w) (fun _=>#[]) (fun _=>v) (fun w hw=>⟨h w,.refl hw⟩) (fun _ _=>r)
theorem A5s{α:Type}{m:Sem α}{K:α→View→Prop}{E:Value→View→Prop}{v:View}{g:Goroutine}(hs:g.status = .running)(h:SemX P m K E v)
  (hok:∀a v',K a v'→∃g',(∀w w' es,m.runT P w #[]=(.ok a w',es)→∃es',stepG P mn.main g w = .go g' w' es'∧∀e∈es',e∈es)∧Run P mn Stop v' g')
  (hpan:∀x v',E x v'→∃g',(∀w w' es,m.runT P w #[]=(.halt (.panic x) w',es)→∃es',stepG P mn.main g w = .go g' w' es'∧∀e∈es',e∈es)∧Run P mn Stop v' g'):Run P mn Stop v g:=by
 refine Run.mk hs fun w hw=>?_
 rcases semX_sound m (es:=#[]) h hw with ⟨a,w',v',es,hr,hk,hst⟩|⟨x,w',v',es,hr,hk,hst⟩
 ·obtain⟨g',h1,h2⟩:=hok a v' hk
  obtain⟨es',h3,h4⟩:=h1 w w' es (by simpa using hr)
  exact⟨g',w',es',v',h3,hst.sub h4,h2⟩
 ·obtain⟨g',h1,h2⟩:=hpan x v' hk
  obtain⟨es',h3,h4⟩:=h1 w w' es (by simpa using hr)
  exact⟨g',w',es',v',h3,hst.sub h4,h2⟩
end
def _root_.Go.Frame.on(b:Frame)(a:Act)(todo:List Item):Frame:={b with tmps:=a.tmps,todo:=todo,defers:=a.defers,mode:=.run }
theorem eval_on(b:Frame)(a:Act)(todo:List Item):(b.on a todo).eval=a.eval:=by
 funext x;cases x<;>rfl
theorem A2g(b:Frame)(a:Act)(ops:Array Oper)(i:Nat)(rest:List Nat)(k:List Item)(o:Oper)(x:Value)(ho:ops[i]?=some o) :
  (b.on a (.inRegion ops (i::rest)::k)).finish x=b.on (a.put o.dst x) (.inRegion ops rest::k):=by
 obtain⟨d,op,ty,pos,af,gu⟩:=o
 cases d<;>simp [Frame.finish,Frame.on,Act.put,ho]
def AfterX(P:Program)(mn:Who)(Stop:View→Goroutine→Prop)(b:Frame)(k:List Item)(cs:List Frame):Exit→Act→View→Prop
 | .normal,a,v=>Run P mn Stop v (G (b.on a k) cs)
 | .exit id,a,v=>∀pre:List Item,(∀it∈pre,∀j,it = .inBlock j→j≠id)→Run P mn Stop v (G (b.on a (.code (.exit id)::(pre++k))) cs)
 | .ret,a,v=>∀todo,Run P mn Stop v (G (b.on a (.code .ret::todo)) cs)
 | .panic ch,a,v=>∀todo,Run P mn Stop v (G {b.on a todo with mode:=.panicking ch } cs)
 | _,_,_=>False
def wpX(P:Program)(mn:Who)(rd:Option Nat)(c:Code)(Q:Exit→Act→View→Prop)(a:Act)(v:View):Prop:=
 ∀ (Stop:View→Goroutine→Prop) (b:Frame) (k:List Item) (cs:List Frame),b.kind≠.early→b.roundOf=rd→
  (∀e a' v',Q e a' v'→AfterX P mn Stop b k cs e a' v')→Run P mn Stop v (G (b.on a (.code c::k)) cs)
def A4r(P:Program)(mn:Who)(rd:Option Nat)(ops:Array Oper)(l:List Nat)(Q:Exit→Act→View→Prop)(a:Act)(v:View):Prop:=
 ∀ (Stop:View→Goroutine→Prop) (b:Frame) (k:List Item) (cs:List Frame),b.kind≠.early→b.roundOf=rd→
  (∀e a' v',Q e a' v'→AfterX P mn Stop b k cs e a' v')→Run P mn Stop v (G (b.on a (.inRegion ops l::k)) cs)
inductive End where
 | ret(x:Value)
 | pan(ch:List PanicEntry)
def AfterCall(P:Program)(mn:Who)(Stop:View→Goroutine→Prop)(c:Frame)(cs:List Frame):End→View→Prop
 | .ret x,v=>Run P mn Stop v (G (c.finish x) cs)
 | .pan ch,v=>Run P mn Stop v (G (c.raise ch) cs)
def CallsX(P:Program)(mn:Who)(f:FuncId)(args:Array Value)(R:End→View→Prop)(v:View):Prop:=
 ∀ (Stop:View→Goroutine→Prop) (c:Frame) (cs:List Frame),c.mode = .run→(∀e v',R e v'→AfterCall P mn Stop c cs e v')→
  Run P mn Stop v (G (Frame.enter P f args .normal) (c::cs))
def RoundX(P:Program)(mn:Who)(l:Nat)(f:FuncId)(tmps:Array Value)(assign body:Code)(R:End→View→Prop)(v:View):Prop:=
 ∀ (Stop:View→Goroutine→Prop) (c:Frame) (cs:List Frame),c.mode = .run→(∀e v',R e v'→AfterCall P mn Stop c cs e v')→
  Run P mn Stop v (G (Frame.round l f tmps assign body .normal) (c::cs))
section
variable{P:Program}{mn:Who}{rd:Option Nat}{Q Q':Exit→Act→View→Prop}{a:Act}{v u:View}
theorem AfterX.weaken{Stop:View→Goroutine→Prop}{b:Frame}{k:List Item}{cs:List Frame}{e:Exit}(h:AfterX P mn Stop b k cs e a u)(hl:u.Le v):AfterX P mn Stop b k cs e a v:=by
 cases e<;>first|exact h.elim|exact Run.weaken h hl|exact fun t=>(h t).weaken hl|exact fun t ht=>(h t ht).weaken hl
theorem AfterCall.weaken{Stop:View→Goroutine→Prop}{c:Frame}{cs:List Frame}{e:End}(h:AfterCall P mn Stop c cs e u)(hl:u.Le v):AfterCall P mn Stop c cs e v:=by
 cases e<;>exact Run.weaken h hl
theorem wpX_weaken{c:Code}(h:wpX P mn rd c Q a u)(hl:u.Le v):wpX P mn rd c Q a v:=fun Stop b k cs hb hr hq=>(h Stop b k cs hb hr hq).weaken hl
theorem A3p{ops:Array Oper}{l:List Nat}(h:A4r P mn rd ops l Q a u)(hl:u.Le v):A4r P mn rd ops l Q a v:=fun Stop b k cs hb hr hq=>(h Stop b k cs hb hr hq).weaken hl
theorem A4m{c:Code}(h:wpX P mn rd c Q a v)(hq:∀e a v,Q e a v→∃u,u.Le v∧Q' e a u):wpX P mn rd c Q' a v:=
 fun Stop b k cs hb hr hk=>h Stop b k cs hb hr fun e a' v' hQ=>by obtain⟨u,hl,hQ'⟩:=hq e a' v' hQ;exact(hk e a' u hQ').weaken hl
theorem CallsX.mono{f:FuncId}{args:Array Value}{R R':End→View→Prop}(h:CallsX P mn f args R v)(hq:∀e v,R e v→∃u,u.Le v∧R' e u):CallsX P mn f args R' v:=
 fun Stop c cs hc hk=>h Stop c cs hc fun e v' hR=>by obtain⟨u,hl,hR'⟩:=hq e v' hR;exact(hk e u hR').weaken hl
theorem CallsX.frame{f:FuncId}{args:Array Value}{R:End→View→Prop}{F:View}(h:CallsX P mn f args R v)(hd:Disj v F) :
  CallsX P mn f args (fun e v'=>∃u,v'=u.union F∧Disj u F∧R e u) (v.union F):=by
 intro Stop c cs hc hk
 -- the callee's way to its return,framed;then on
 have h1:=(h (fun u g=>∃e,R e u∧(match e with | .ret x=>g=G (c.finish x) cs | .pan ch=>g=G (c.raise ch) cs)) c cs hc (fun e v' hR=>by
  cases e with
  | ret x=>exact .stop (Le.refl _) ⟨.ret x,hR,rfl⟩
  | pan ch=>exact .stop (Le.refl _) ⟨.pan ch,hR,rfl⟩)).frame hd
 refine h1.mono ?_
 rintro v' g ⟨u,rfl,hdu,e,hR,hg⟩
 have:=hk e (u.union F) ⟨u,Y,hdu,hR⟩
 cases e<;>(subst hg;exact this)
theorem x_skip(h:Q .normal a v):wpX P mn rd .skip Q a v:=fun Stop b k cs _ _ hq=>
 Run.ctl rfl (fun w=>by simp [G,stepG,stepG.exec,Frame.on]) (hq _ _ _ h)
theorem x_exit{id:Nat}(h:Q (.exit id) a v):wpX P mn rd (.exit id) Q a v:=fun Stop b k cs _ _ hq=>by
 have:=hq _ _ _ h [] sM
 simpa using this
theorem x_ret(h:Q .ret a v):wpX P mn rd .ret Q a v:=fun Stop b k cs _ _ hq=>hq _ _ _ h k
theorem B2k{Stop:View→Goroutine→Prop}{b:Frame}{x:Item}{k:List Item}{cs:List Frame}{e:Exit}(hx:∀j,x≠.inBlock j)(he:e≠.normal)
  (h:AfterX P mn Stop b k cs e a v):AfterX P mn Stop b (x::k) cs e a v:=by
 cases e with
 | normal=>exact absurd rfl he
 | exit id=>
  intro pre hp
  have:=h (pre++[x]) (by
   intro it hit j hj
   rcases List.mem_append.1 hit with y|y
   ·exact hp it y j hj
   ·simp only [List.mem_singleton]at y;subst y;exact absurd hj (hx j))
  simpa using this
 | goto l=>exact h
 | ret=>exact h
 | panic ch=>exact h
 | outgrown=>exact h
theorem x_seq{x y:Code}(h:wpX P mn rd x (fun e a' v'=>match e with | .normal=>wpX P mn rd y Q a' v'|e=>Q e a' v') a v):wpX P mn rd (.seq x y) Q a v:=fun Stop b k cs hb hr hq=>by
 refine Run.ctl Y (g':=G (b.on a (.code x::.code y::k)) cs) (fun w=>by simp [G,stepG,stepG.exec,Frame.on]) ?_
 refine h Stop b (.code y::k) cs hb hr fun e a' v' hQ=>?_
 cases e with
 | normal=>exact hQ Stop b k cs hb hr hq
 | _=>exact B2k (by intro j;simp) sM (hq _ _ _ hQ)
theorem x_cond{c:Operand}{x y:Code}{t:Bool}(hc:a.eval c = .bool t)(h:wpX P mn rd (if t then x else y) Q a v):wpX P mn rd (.cond c x y) Q a v:=fun Stop b k cs hb hr hq=>by
 refine Run.ctl Y (g':=G (b.on a (.code (if t then x else y)::k)) cs) (fun w=>?_) (h Stop b k cs hb hr hq)
 have h':(b.on a (.code (.cond c x y)::k)).eval c = .bool t:=by rw [eval_on];exact hc
 simp only [Frame.on]at h'
 simp [G,stepG,stepG.exec,Frame.on,h']
theorem x_block{id:Nat}{c:Code}(h:wpX P mn rd c (fun e a' v'=>match e with | .normal=>Q .normal a' v' | .exit j=>if j=id then Q .normal a' v' else Q (.exit j) a' v'|e=>Q e a' v') a v) :
  wpX P mn rd (.block id c) Q a v:=fun Stop b k cs hb hr hq=>by
 refine Run.ctl Y (g':=G (b.on a (.code c::.inBlock id::k)) cs) (fun w=>by simp [G,stepG,stepG.exec,Frame.on]) ?_
 refine h Stop b (.inBlock id::k) cs hb hr fun e a' v' hQ=>?_
 cases e with
 | normal=>exact Run.ctl rfl (fun w=>by simp [G,stepG,stepG.exec,Frame.on]) (hq _ _ _ hQ)
 | exit j=>
  simp only at hQ
  split at hQ
  ·subst_vars
   intro pre hp
   have hex:exitTo j (pre++.inBlock j::k)=some k:=by
    induction pre with
    | nil=>simp [exitTo]
    | cons x pre ih=>
     have:=ih (fun it hit=>hp it (List.mem_cons_of_mem _ hit))
     cases x<;>simp_all [exitTo]
   exact Run.ctl Y (fun w=>by simp [G,stepG,stepG.exec,Frame.on,hex]) (hq _ _ _ hQ)
  ·rename_i hne
   intro pre hp
   have:=hq _ _ _ hQ (pre++[.inBlock id]) (by
    intro it hit i hi
    rcases List.mem_append.1 hit with y|y
    ·exact hp it y i hi
    ·simp only [List.mem_singleton]at y;subst y;cases hi;exact fun e=>hne e.symm)
   simpa using this
 | goto l=>exact(hq _ _ _ hQ:False).elim
 | ret=>exact hq _ _ _ hQ
 | panic ch=>exact hq _ _ _ hQ
 | outgrown=>exact(hq _ _ _ hQ:False).elim
theorem x_loop{body:Code}{α:Type}(I:α→Act→View→Prop){r:α→α→Prop}(wf:WellFounded r)(x:α)
  (round:∀x a v,I x a v→wpX P mn rd body (fun e a' v'=>match e with | .normal=>∃y u,u.Le v'∧r y x∧I y a' u|e=>Q e a' v') a v)(h:I x a v):wpX P mn rd (.loop body) Q a v:=by
 intro Stop b k cs hb hr hq
 have key:∀x a v,I x a v→Run P mn Stop v (G (b.on a (.code body::.inLoop body::k)) cs):=by
  intro x
  induction x using wf.induction with
  | _ x ih=>
   intro a v hI
   refine round x a v hI Stop b (.inLoop body::k) cs hb hr fun e a' v' hQ=>?_
   cases e with
   | normal=>
    obtain⟨y,u,hl,hy,hI'⟩:=hQ
    exact Run.ctl Y (g':=G (b.on a' (.code body::.inLoop body::k)) cs) (fun w=>by simp [G,stepG,stepG.exec,Frame.on]) ((ih y hy a' u hI').weaken hl)
   | _=>exact B2k (by intro j;simp) sM (hq _ _ _ hQ)
 exact Run.ctl Y (g':=G (b.on a (.code body::.inLoop body::k)) cs) (fun w=>by simp [G,stepG,stepG.exec,Frame.on]) (key x a v h)
theorem x_region{id:Nat}{ops:Array Oper}(h:A4r P mn rd ops (List.range ops.size) Q a v):wpX P mn rd (.region id ops false) Q a v:=fun Stop b k cs hb hr hq=>
 Run.ctl rfl (g':=G (b.on a (.inRegion ops (List.range ops.size)::k)) cs) (fun w=>by simp [G,stepG,stepG.exec,Frame.on]) (h Stop b k cs hb hr hq)
theorem A7y{id:Nat}{ops:Array Oper}(h:∀t,A4r P mn rd ops (Region.schedule (P.follows .mixedOrders) ops t) Q a v):wpX P mn rd (.region id ops true) Q a v:=fun Stop b k cs hb hr hq=>by
 refine Run.mk Y fun w hw=>?_
 refine⟨G (b.on a (.inRegion ops (Region.schedule (P.follows .mixedOrders) ops (w.tape w.drawn (.order b.fn id)))::k)) cs,{w with drawn:=w.drawn+1 },#[],v,?_,?_,h _ Stop b k cs hb hr hq⟩
 ·simp [G,stepG,stepG.exec,Frame.on,choose,Sem.run,Question.forced,Question.cut]
 ·exact⟨hw,Y,Y,Y,Nat.le_refl _,fun _ _ _=>rfl,fun _ h=>.inl h,fun _ h=>.inl h,by simp⟩
theorem A6r{ops:Array Oper}(h:Q .normal a v):A4r P mn rd ops [] Q a v:=fun Stop b k cs _ _ hq=>
 Run.ctl rfl (fun w=>by simp [G,stepG,stepG.exec,Frame.on]) (hq _ _ _ h)
theorem A9a{ops:Array Oper}{i:Nat}{rest:List Nat}{o:Oper}(ho:ops[i]?=some o)(hw:Region.wanted o (yielded ops a.tmps)=false)(h:A4r P mn rd ops rest Q (a.put o.dst undef) v) :
  A4r P mn rd ops (i::rest) Q a v:=fun Stop b k cs hb hr hq=>by
 refine Run.ctl Y (g':=G (b.on (a.put o.dst undef) (.inRegion ops rest::k)) cs) (fun w=>?_) (h Stop b k cs hb hr hq)
 rw [←A2g b a ops i rest k o undef ho]
 simp [G,stepG,stepG.exec,Frame.on,ho,hw]
def OpK(P:Program)(mn:Who)(rd:Option Nat)(ops:Array Oper)(rest:List Nat)(Q:Exit→Act→View→Prop)(a:Act)(o:Oper):Next→View→Prop
 | .value x,v=>A4r P mn rd ops rest Q (a.put o.dst x) v
 | .skip,v=>A4r P mn rd ops rest Q (a.put o.dst undef) v
 | .enter f args,v=>CallsX P mn f args (fun e v'=>match e with | .ret x=>A4r P mn rd ops rest Q (a.put o.dst x) v' | .pan ch=>Q (.panic ch) a v') v
 | .round l f tmps assign body,v=>RoundX P mn l f tmps assign body (fun e v'=>match e with | .ret x=>A4r P mn rd ops rest Q (a.put o.dst x) v' | .pan ch=>Q (.panic ch) a v') v
 | .defer d,v=>rd=none∧A4r P mn rd ops rest Q ({a with defers:=d::a.defers }.put o.dst undef) v
 | _,_=>False
def A1t:Op→Bool
 | .defer _=>true
 | _=>false
theorem A2a{b:Frame}{k:List Item}{cs:List Frame}{w:World}{ops:Array Oper}{i:Nat}{rest:List Nat}{o:Oper}(ho:ops[i]?=some o)
  (hw:Region.wanted o (yielded ops a.tmps)=true)(hd:b.roundOf=none∨A1t o.op=false) :
  stepG P mn.main (G (b.on a (.inRegion ops (i::rest)::k)) cs) w=stepG.apply P true (b.on a (.inRegion ops (i::rest)::k)) cs none (execOp a.eval o) w:=by
 have he:=eval_on b a (.inRegion ops (i::rest)::k)
 simp only [Frame.on]at he
 have h1:stepG P mn.main (G (b.on a (.inRegion ops (i::rest)::k)) cs) w=stepG.oper P true (b.on a (.inRegion ops (i::rest)::k)) cs none w:=by
  simp [G,stepG,stepG.exec,Frame.on,ho,hw]
 rw [h1]
 unfold stepG.oper
 simp only [Frame.oper?,Frame.on,ho]
 rcases hd with hd|hd
 ·rw [hd]at he;simp only [hd,he]
 ·cases hop:o.op<;>simp_all [A1t]
theorem x_op{ops:Array Oper}{i:Nat}{rest:List Nat}{o:Oper}(ho:ops[i]?=some o)(hw:Region.wanted o (yielded ops a.tmps)=true)(hd:rd=none∨A1t o.op=false)
  (h:SemX P (execOp a.eval o) (OpK P mn rd ops rest Q a o) (fun x v'=>Q (.panic [{v:=x,recovered:=false }]) a v') v):A4r P mn rd ops (i::rest) Q a v:=fun Stop b k cs hb hr hq=>by
 subst hr
 have hst:=fun w=>A2a (P:=P) (mn:=mn) (b:=b) (k:=k) (cs:=cs) (w:=w) (rest:=rest) ho hw hd
 have hk':((b.on a (.inRegion ops (i::rest)::k)).kind==CallKind.early)=false:=by simpa [Frame.on]using hb
 have hfin:∀x,(b.on a (.inRegion ops (i::rest)::k)).finish x=b.on (a.put o.dst x) (.inRegion ops rest::k):=fun x=>A2g b a ops i rest k o x ho
 refine A5s (m:=execOp a.eval o) Y h (fun nx v' hK=>?_) (fun x v' hE=>?_)
 ·cases nx with
  | value x=>
   refine⟨G (b.on (a.put o.dst x) (.inRegion ops rest::k)) cs,fun w w' es hrun=>⟨seen P b.fn es++#[],?_,fun e he=>mem_seen (by simpa using he)⟩,hK Stop b k cs hb Y hq⟩
   rw [hst w,←hfin x]
   unfold stepG.apply
   simp only [if_true,hrun,hk',Bool.false_eq_true,if_false]
   rfl
  | skip=>
   refine⟨G (b.on (a.put o.dst undef) (.inRegion ops rest::k)) cs,fun w w' es hrun=>⟨seen P b.fn es++#[],?_,fun e he=>mem_seen (by simpa using he)⟩,hK Stop b k cs hb Y hq⟩
   rw [hst w,←hfin undef]
   unfold stepG.apply
   simp only [if_true,hrun,hk',Bool.false_eq_true,if_false]
   rfl
  | enter f args=>
   refine⟨G (Frame.enter P f args .normal) (b.on a (.inRegion ops (i::rest)::k)::cs),fun w w' es hrun=>⟨seen P b.fn es++#[],?_,fun e he=>mem_seen (by simpa using he)⟩,?_⟩
   ·rw [hst w]
    unfold stepG.apply
    simp only [if_true,hrun,hk',Bool.false_eq_true,if_false]
    rfl
   ·refine hK Stop _ cs Y fun e v'' hR=>?_
    cases e with
    | ret x=>show Run _ _ _ _ (G (Frame.finish _ _) _);rw [hfin x];exact hR Stop b k cs hb rfl hq
    | pan ch=>exact hq _ _ _ hR _
  | round l f tmps assign body=>
   refine⟨G (Frame.round l f tmps assign body .normal) (b.on a (.inRegion ops (i::rest)::k)::cs),fun w w' es hrun=>⟨seen P b.fn es++#[],?_,fun e he=>mem_seen (by simpa using he)⟩,?_⟩
   ·rw [hst w]
    unfold stepG.apply
    simp only [if_true,hrun,hk',Bool.false_eq_true,if_false]
    rfl
   ·refine hK Stop _ cs Y fun e v'' hR=>?_
    cases e with
    | ret x=>show Run _ _ _ _ (G (Frame.finish _ _) _);rw [hfin x];exact hR Stop b k cs hb rfl hq
    | pan ch=>exact hq _ _ _ hR _
  | defer d=>
   obtain⟨hrd,hK⟩:=hK
   refine⟨G (b.on ({a with defers:=d::a.defers }.put o.dst undef) (.inRegion ops rest::k)) cs,fun w w' es hrun=>⟨seen P b.fn es++#[],?_,fun e he=>mem_seen (by simpa using he)⟩,hK Stop b k cs hb rfl hq⟩
   have hf2:=A2g b {a with defers:=d::a.defers } ops i rest k o undef ho
   rw [hst w,←hf2]
   unfold stepG.apply
   simp only [if_true,hrun,hk',Bool.false_eq_true,if_false]
   rfl
  | _=>exact hK.elim
 ·refine⟨G {b.on a (.inRegion ops (i::rest)::k)with mode:=.panicking [{v:=x,recovered:=false }] } cs,fun w w' es hrun=>⟨seen P b.fn es++#[],?_,fun e he=>mem_seen (by simpa using he)⟩,hq _ _ _ hE _⟩
  rw [hst w]
  unfold stepG.apply
  simp only [if_true,hrun,hk',Bool.false_eq_true,if_false]
  rfl
def BodyX(P:Program)(fn:Func)(R:End→View→Prop):Exit→Act→View→Prop
 | .normal,a,v | .ret,a,v=>a.defers=[]∧SemX P (results fn a.tmps) (fun x v'=>R (.ret x) v') (fun _ _=>False) v
 | .panic ch,a,v=>a.defers=[]∧R (.pan ch) v
 | _,_,_=>False
theorem A6x{Stop:View→Goroutine→Prop}{fn:Func}{fr c:Frame}{cs:List Frame}{R:End→View→Prop}(hm:fr.mode = .returning)(hd:fr.defers=[])(hk:fr.kind = .normal)
  (hf:P.funcs[fr.fn]?=some fn)(h:SemX P (results fn fr.tmps) (fun x v'=>R (.ret x) v') (fun _ _=>False) v)(hR:∀e v',R e v'→AfterCall P mn Stop c cs e v'):Run P mn Stop v (G fr (c::cs)):=by
 refine A5s (m:=results fn fr.tmps) Y h (fun x v' hx=>?_) (fun x v' hx=>hx.elim)
 refine⟨G (c.finish x) cs,fun w w' es hrun=>⟨seen P fr.fn es++#[],?_,fun e he=>mem_seen (by simpa using he)⟩,hR _ _ hx⟩
 have h1:stepG P mn.main (G fr (c::cs)) w=unwind P mn.main fr (c::cs) none w:=by simp [G,stepG,hm]
 rw [h1]
 unfold unwind
 simp only [hd,hm,hf,hrun]
 simp only [doReturn,hk]
 rfl
theorem run_raise{Stop:View→Goroutine→Prop}{fn:Func}{fr c:Frame}{cs:List Frame}{ch:List PanicEntry}(hm:fr.mode = .panicking ch)(hd:fr.defers=[])
  (hf:P.funcs[fr.fn]?=some fn)(h:Run P mn Stop v (G (c.raise ch) cs)):Run P mn Stop v (G fr (c::cs)):=
 Run.ctl rfl (fun w=>by
  have hc:fr.catches P=false:=by simp [Frame.catches,hf]
  simp [G,stepG,hm,unwind,hd,hc]) h
theorem A7u{f:FuncId}{fn:Func}{c:Code}{args:Array Value}{R:End→View→Prop}(hf:P.funcs[f]?=some fn)(hb:fn.body=some c)
  (h:wpX P mn none c (BodyX P fn R) {tmps:=args++Array.replicate (fn.ntmps-args.size) undef,defers:=[] } v):CallsX P mn f args R v:=by
 intro Stop cf cs hc hR
 let b:Frame:={fn:=f,tmps:=#[],todo:=[],defers:=[],mode:=.run,kind:=.normal }
 have henter:Frame.enter P f args .normal=b.on {tmps:=args++Array.replicate (fn.ntmps-args.size) undef,defers:=[] } [.code c]:=by
  simp [Frame.enter,Frame.on,hf,hb,b]
 rw [henter]
 refine h Stop b [] (cf::cs) (by simp [b]) Y fun e a' v' hQ=>?_
 cases e with
 | normal=>
  obtain⟨hd,hx⟩:=hQ
  refine Run.ctl Y (g':=G {b.on a' []with mode:=.returning } (cf::cs)) (fun w=>by simp [G,stepG,stepG.exec,Frame.on,b]) ?_
  exact A6x (fn:=fn) Y hd Y hf hx hR
 | ret=>
  obtain⟨hd,hx⟩:=hQ
  intro todo
  refine Run.ctl Y (g':=G {b.on a' (.code .ret::todo)with mode:=.returning } (cf::cs)) (fun w=>by simp [G,stepG,stepG.exec,Frame.on,b]) ?_
  exact A6x (fn:=fn) Y hd Y hf hx hR
 | panic ch=>
  obtain⟨hd,hx⟩:=hQ
  exact fun todo=>run_raise (fn:=fn) Y hd hf (hR _ _ hx)
 | exit id=>exact hQ.elim
 | goto l=>exact hQ.elim
 | outgrown=>exact hQ.elim
end
end Go.Pal
end
