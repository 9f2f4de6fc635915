/- Part 7. -/
import Derived.Conc.AtomicLaws2
import Derived.Conc.ClockLaws
import Derived.Conc.DeferLaws
import Derived.Conc.MarkLaws
import Derived.Conc.Own2
import Derived.Conc.Own4
import Derived.Conc.SmallLaws
import Derived.Laws.LoneSync
import Derived.Test.YtclejblcnfaeaaaGreatDoorPaf
set_option linter.all false
section
namespace Go.Pal
open Go Go.Conc View
open Go.ConcN (sumTo upd sumTo_upd upd_ne upd_same RelBy fork_knows)
def blk:Loc→Nat
 | .cell a=>a.block
 | .obj r=>r
 | _=>0
def noView:View:=fun _=>none
abbrev mkE(m:Mark):Event:=⟨.mark m,false,true⟩
structure Proto where
 G:Type
 T:Type
 th:G→Nat→Option T
 ok:G→Prop
 size:G→Nat
 rank:G→Nat
 sh:G→View
 atb:Nat→Prop
 lock:Nat→Addr
 deaf:T→Nat
 rel:T→Bool
 acq:T→Bool
 blocks:G→Nat→Prop
 wakes:T→Bool
 fin:Addr
 over:G→Prop
 tr:G→Nat→G→Prop
def EvS(Pr:Proto)(i B:Nat)(e:Event):Prop:=
 match e with
 | ⟨.mark .disable,_,_⟩|⟨.mark .enable,_,_⟩=>True
 | ⟨.mark (.acquire a),_,_⟩|⟨.mark (.releaseMerge a),_,_⟩=>a.block<B
 | ⟨.mark (.read a),_,_⟩|⟨.mark (.write a),_,_⟩=>i=0∧Pr.atb a.block∧a.block<B
 | ⟨.cell a,_,true⟩=>Pr.atb a.block∧a.block<B
 | _=>False
theorem evOk_touch{v:View}{lo hi:Nat}{e:Event}{x:Touch}(h:EvOk v lo hi e)(hx:(MemAct.ofEvent e).touch?=some x) :
  x.kind = .plain∧((lo≤blk x.loc∧blk x.loc<hi)∨((x.write=true→v.Owns (blk x.loc))∧v (blk x.loc)≠none)):=by
 obtain⟨l,wr,sy⟩:=e
 have key:∀b:Nat,(if wr=true then v.Owns b else(v b).isSome=true)→(wr=true→v.Owns b)∧v b≠none:=by
  intro b hb
  cases wr
  ·simp only [Bool.false_eq_true,if_false]at hb
   refine⟨by simp,fun e=>by rw [e]at hb;cases hb⟩
  ·simp only [if_true]at hb
   exact⟨fun _=>hb,fun e=>by obtain⟨o,ho⟩:=hb;rw [e]at ho;cases ho⟩
 cases l with
 | cell a=>
  cases sy
  ·have:MemAct.ofEvent ⟨.cell a,wr,false⟩ = .access ⟨.cell a,wr,false⟩:=rfl
   rw [this]at hx
   simp only [MemAct.touch?,Option.some.injEq]at hx
   subst hx
   exact⟨Y,h.imp id (key _)⟩
  ·exact h.elim
 | obj r=>
  cases sy
  ·rw [A5f]at hx
   simp only [MemAct.touch?,Option.some.injEq]at hx
   subst hx
   exact⟨Y,h.imp id (key _)⟩
  ·exact h.elim
 | mark m=>cases m<;>cases wr<;>cases sy<;>first|exact h.elim|(simp [MemAct.ofEvent,MemAct.touch?]at hx)
 | output=>exact h.elim
 | goroutines=>exact h.elim
theorem evOk_low{v:View}{lo hi:Nat}{e:Event}(hv:∀b,v b≠none→b<hi)(h:EvOk v lo hi e):(MemAct.ofEvent e).low hi:=by
 have h':=evL_of (S:=fun _=>False) (v:=v) (fun _ h=>h.elim) (fun _ h=>h.elim) (fun b x e=>hv b (by rw [e];simp)) h
 exact h'.2.2.2
structure TI(Pr:Proto)(base:Nat)(S:Nat→Prop)(γ:Pr.G)(vs:Nat→View)(B:Nat)(t:Trace):Prop where
 nr:∀said,¬Race said t
 own:∀i k a,touchAt t k=some a→a.loc.isMemory=true→(vs i).Owns (blk a.loc)→Knows t i k
 rd:∀i k a,touchAt t k=some a→a.loc.isMemory=true→vs i (blk a.loc)≠none→a.write=true→Knows t i k
 ato:∀k a,touchAt t k=some a→Pr.atb (blk a.loc)→a.loc.isMemory=true→a.kind = .atomic∨(a.kind = .said∧t.g? k=some 0)∨∀i,Pr.th γ i≠none→Knows t i k
 gd:∀k a,touchAt t k=some a→a.loc.isMemory=true→Pr.sh γ (blk a.loc)≠none→¬Pr.atb (blk a.loc)→(∀i,Pr.th γ i≠none→Knows t i k)∨∃p,t.act? p=some (.mark (.releaseMerge (Pr.lock (blk a.loc))))∧t.heard p∧Before t k p
 norel:NoRel t
 low:∀op∈t,op.act.low B
 deaf:∀i τ,Pr.th γ i=some τ→Deaf t i=Pr.deaf τ
 f1:∀k a,touchAt t k=some a→a.loc.isMemory=true→Knows t 0 k∨(ShunL (fun b=>S b∨Pr.atb b) a.loc∧a.kind = .atomic)∨(∃i,base≤i∧i<Pr.size γ∧t.g? k=some i∧t.counts k)
 f2:∀k g,t.g? k=some g→g≠0→t.counts k→(∃j,t.g? j=some 0∧HappensBefore t k j)∨(base≤g∧g<Pr.size γ)
 relp:∀i,base≤i→i<Pr.size γ→(∃τ,Pr.th γ i=some τ∧Pr.rel τ=false)∨∃p,RelBy Pr.fin t i p
 acq:∀τ,Pr.th γ 0=some τ→Pr.acq τ=true→∃q,t.g? q=some 0∧t.act? q=some (.mark (.acquire Pr.fin))∧t.heard q∧∀i,base≤i→i<Pr.size γ→∃p,p<q∧RelBy Pr.fin t i p
theorem touch_low{t:Trace}{B k:Nat}{a:Touch}(h:∀op∈t,op.act.low B)(ha:touchAt t k=some a)(hm:a.loc.isMemory=true):blk a.loc<B:=by
 obtain⟨op,ho,hoa⟩:=touch_of ha
 have:=h op (Array.mem_of_getElem? ho)
 obtain⟨g,fn,pos,act⟩:=op
 cases act with
 | access e=>
  simp only [MemAct.touch?,Option.some.injEq]at hoa
  subst hoa
  obtain⟨l,wr,sy⟩:=e
  cases l<;>first|exact this|cases hm
 | mark m=>
  cases m<;>simp only [MemAct.touch?]at hoa<;>first|(cases hoa;done)|(simp only [Option.some.injEq]at hoa;subst hoa;exact this)
 | _=>simp [MemAct.touch?]at hoa
theorem A4w{g:Nat}{fn:FuncId}{pos:String}{es:Array Event}{op:MemOp}(h:op∈MemOp.ofEvents g fn pos es):∃e∈es,op.act = .ofEvent e∧op.g=g:=by
 obtain⟨e,he,rfl⟩:=Go.Conc.mem_ofEvents h
 exact⟨e,he,Y,Y⟩
theorem g_old{t:Trace}{k g:Nat}(u:Trace)(h:t.g? k=some g):(t++u).g? k=some g:=by
 obtain⟨op,ho,hg⟩:=Option.map_eq_some_iff.1 h
 have hk:=lt_size_of_getElem? ho
 rw [g?_old hk];exact h
theorem lt_of_g{t:Trace}{k g:Nat}(h:t.g? k=some g):k<t.size:=by
 obtain⟨op,ho,_⟩:=Option.map_eq_some_iff.1 h
 exact lt_size_of_getElem? ho
theorem touchAt_lt{t:Trace}{k:Nat}{a:Touch}(h:touchAt t k=some a):k<t.size:=by
 obtain⟨op,ho,_⟩:=touch_of h
 exact lt_size_of_getElem? ho
theorem A1x{t u:Trace}{k:Nat}{a:Touch}(h:touchAt (t++u) k=some a):(k<t.size∧touchAt t k=some a)∨(t.size≤k∧∃op∈u,op.act.touch?=some a∧(t++u)[k]?=some op):=by
 obtain⟨op,ho,hoa⟩:=touch_of h
 rcases getElem?_append_cases ho with ⟨h1,h2⟩|⟨h1,h2⟩
 ·exact .inl ⟨h1,by rw [touchAt_of h2];exact hoa⟩
 ·exact .inr ⟨h1,op,h2,hoa,ho⟩
theorem B1x{t u:Trace}{k g:Nat}(h:(t++u).g? k=some g):(k<t.size∧t.g? k=some g)∨(t.size≤k∧∃op∈u,op.g=g):=by
 obtain⟨op,ho,hog⟩:=Option.map_eq_some_iff.1 h
 rcases getElem?_append_cases ho with ⟨h1,h2⟩|⟨h1,h2⟩
 ·exact .inl ⟨h1,by rw [Trace.g?,h2];exact congrArg some hog⟩
 ·exact .inr ⟨h1,op,h2,hog⟩
section
variable{Pr:Proto}{base:Nat}{S:Nat→Prop}{γ γ':Pr.G}{vs:Nat→View}{lo:Nat}{hi':Nat}{t:Trace}{i:Nat}{τ:Pr.T}{v':View}{fn:FuncId}{pos:String}{es:Array Event}
theorem A4a(g:Nat)(m:Mark):MemOp.ofEvents g fn pos #[mkE m]=#[{g,fn,pos,act:=.mark m }]:=by rw [ofEvents_eq];simp;rfl
theorem acq_knows{A:Addr}{p:Nat}(hn:NoRel t)(hd:Deaf t i=0)(hp:t.act? p=some (.mark (.releaseMerge A)))(hh:t.heard p):Knows (t++MemOp.ofEvents i fn pos #[mkE (.acquire A)]) i p:=by
 rw [A4a]
 have hy:(t++#[({g:=i,fn,pos,act:=.mark (.acquire A) }:MemOp)])[t.size]?=some {g:=i,fn,pos,act:=.mark (.acquire A) }:=by simp
 have hlt:=lt_of_act? hp
 refine⟨t.size,_,hy,Y,.inr (.single (.inr ⟨.marked (a:=A) hlt (.inr (by rw [act?_old hlt];exact hp)) (by rw [act?_of hy]) (fun k hk1 hk2 hk3=>?_),(heard_old hlt).2 hh,i,by simp [Trace.g?],by rw [deaf_old (Nat.le_refl _)];exact hd⟩))⟩
 rw [act?_old hk2]at hk3
 obtain⟨op,ho,hoa⟩:=Option.map_eq_some_iff.1 hk3
 exact hn op (Array.mem_of_getElem? ho) A hoa
end
end Go.Pal
end
section
namespace Go.Pal
open Go Go.Conc View
open Go.ConcN (upd upd_ne upd_same RelBy)
inductive Tree where
 | leaf
 | node(f:World→Tree)
inductive Tree.Lt:Tree→Tree→Prop
 | sub (f:World→Tree) (w:World):Tree.Lt (f w) (.node f)
theorem Tree.acc:∀T:Tree,Acc Tree.Lt T
 | .leaf=>⟨_,fun y h=>by cases h⟩
 | .node f=>⟨_,fun y h=>by cases h with|sub _ w=>exact Tree.acc (f w)⟩
def Tree.ofNat:Nat→Tree
 | 0=>.leaf
 | n+1=>.node fun _=>Tree.ofNat n
inductive LL:List Tree→List Tree→Prop
 | head {a b:Tree} {l:List Tree}:Tree.Lt a b→LL (a::l) (b::l)
 | tail {a:Tree} {l m:List Tree}:LL l m→LL (a::l) (a::m)
theorem LL.acc_cons:∀{a:Tree},Acc Tree.Lt a→∀{l:List Tree},Acc LL l→Acc LL (a::l):=by
 intro a ha
 induction ha with
 | intro a _ iha=>
  intro l hl
  induction hl with
  | intro l hl' ihl=>
   exact⟨_,fun y hy=>by
    cases hy with
    | head h=>exact iha _ h ⟨_,hl'⟩
    | tail h=>exact ihl _ h⟩
theorem LL.acc:∀l:List Tree,Acc LL l
 | []=>⟨_,fun y h=>by cases h⟩
 | a::l=>LL.acc_cons (Tree.acc a) (LL.acc l)
def rowT:Nat→(Nat→Tree)→List Tree
 | 0,_=>[]
 | n+1,f=>f n::rowT n f
theorem rowT_congr{f g:Nat→Tree}:∀{n:Nat},(∀i,i<n→f i=g i)→rowT n f=rowT n g
 | 0,_=>rfl
 | n+1,h=>by rw [rowT,rowT,h n oM,rowT_congr fun i hi=>h i oM]
theorem LL.upd{f:Nat→Tree}{i:Nat}{T:Tree}(h:Tree.Lt T (f i)):∀{n:Nat},i<n→LL (rowT n (upd f i T)) (rowT n f)
 | n+1,hi=>by
  rw [rowT,rowT]
  by_cases e:i=n
  ·subst e
   rw [upd_same,rowT_congr (g:=f) fun j hj=>upd_ne f T oM]
   exact .head h
  ·rw [upd_ne f T (Ne.symm e)]
   exact .tail (LL.upd h oM)
inductive MRun(P:Program)(Stop:Goroutine→Prop):Goroutine→Prop
 | stop {g:Goroutine} (h:Stop g):MRun P Stop g
 | step {g g':Goroutine} (hs:g.status = .running) (h:∀w,stepG P false g w = .go g' w #[]) (r:MRun P Stop g'):MRun P Stop g
inductive RunW(P:Program)(main:Bool)(W:World→Prop)(Stop:View→Goroutine→Prop):View→Goroutine→Prop
 | stop {u v:View} {g:Goroutine} (hl:u.Le v) (h:Stop u g):RunW P main W Stop v g
 | step {v:View} {g:Goroutine} (hs:g.status = .running) (ng:World→Goroutine) (nw:World→World) (ne:World→Array Event) (nv:World→View)
   (h:∀w,W w→v.Agree w→stepG P main g w = .go (ng w) (nw w) (ne w)∧StepOk v w (nv w) (nw w) (ne w))
   (r:∀w,W w→v.Agree w→RunW P main W Stop (nv w) (ng w)):RunW P main W Stop v g
theorem RunW.weaken{P:Program}{main:Bool}{W:World→Prop}{Stop:View→Goroutine→Prop}{u v:View}{g:Goroutine}(h:RunW P main W Stop u g)(hl:u.Le v):RunW P main W Stop v g:=by
 cases h with
 | stop hl' h=>exact .stop (hl'.trans hl) h
 | step hs ng nw ne nv h r=>exact .step hs ng nw ne nv (fun w hW hw=>⟨(h w hW (hw.le hl)).1,(h w hW (hw.le hl)).2.le hl⟩) (fun w hW hw=>r w hW (hw.le hl))
theorem RunW.of_run{P:Program}{mn:Who}{W:World→Prop}{Stop:View→Goroutine→Prop}(hp:mn.ph=false){v:View}{g:Goroutine}(h:Run P mn (fun u g=>RunW P mn.main W Stop u g) v g):RunW P mn.main W Stop v g:=by
 induction h with
 | stop hl h=>exact h.weaken hl
 | step hs ng nw ne nv h r ih=>exact .step hs ng nw ne nv (fun w _ hw=>h w hw) (fun w _ hw=>ih w hw)
 | phase hp'=>rw [hp]at hp';cases hp'
def RunT(P:Program)(main:Bool)(W:World→Prop)(Stop:View→Goroutine→Prop):Tree→View→Goroutine→Prop
 | .leaf,v,g=>∃u,View.Le u v∧Stop u g
 | .node f,v,g=>g.status = .running∧∀w,W w→v.Agree w→∃g' w' es v',stepG P main g w = .go g' w' es∧StepOk v w v' w' es∧RunT P main W Stop (f w) v' g'
def RunM(P:Program)(Stop:Goroutine→Prop):Tree→Goroutine→Prop
 | .leaf,g=>Stop g
 | .node f,g=>g.status = .running∧∃g',(∀w,stepG P false g w = .go g' w #[])∧∀w,RunM P Stop (f w) g'
theorem runT_of{P:Program}{main:Bool}{W:World→Prop}{Stop:View→Goroutine→Prop}{v:View}{g:Goroutine}(h:RunW P main W Stop v g):∃T,RunT P main W Stop T v g:=by
 classical
 induction h with
 | stop hl h=>exact⟨.leaf,_,hl,h⟩
 | @step v g hs ng nw ne nv h r ih=>
  have key:∀w,∃T,W w→v.Agree w→RunT P main W Stop T (nv w) (ng w):=fun w=>by
   by_cases hw:W w∧v.Agree w
   ·obtain⟨T,hT⟩:=ih w hw.1 hw.2;exact⟨T,fun _ _=>hT⟩
   ·exact⟨.leaf,fun e1 e2=>absurd ⟨e1,e2⟩ hw⟩
  exact⟨.node fun w=>Classical.choose (key w),hs,fun w hW hw=>⟨_,_,_,_,(h w hW hw).1,(h w hW hw).2,Classical.choose_spec (key w) hW hw⟩⟩
theorem runM_of{P:Program}{Stop:Goroutine→Prop}{g:Goroutine}(h:MRun P Stop g):∃T,RunM P Stop T g:=by
 induction h with
 | stop h=>exact⟨.leaf,h⟩
 | step hs h r ih=>
  obtain⟨T,hT⟩:=ih
  exact⟨.node fun _=>T,hs,_,h,fun _=>hT⟩
section
variable(P:Program)(Pr:Proto)(base:Nat)
structure SS(i:Nat)(γ:Pr.G)(τ:Pr.T)(u:View)(w:World)(γ':Pr.G)(u':View)(w':World)(es:Array Event):Prop where
 tr:Pr.tr γ i γ'
 size:Pr.size γ'=Pr.size γ
 tape:w'.tape=w.tape
 output:w'.output=w.output
 os:SameOs w.os w'.os
 heap:w'.heap.size=w.heap.size
 agree:u'.Agree w'
 agreeS:(Pr.sh γ').Agree w'
 keep:∀b,¬u.Owns b→Pr.sh γ b=none→w'.heap[b]?=w.heap[b]?
 disj:Disj u' (Pr.sh γ')
 ev:∀e∈es,EvS Pr i w.heap.size e
 deaf:∀σ,Pr.th γ' i=some σ→deafBehind (Pr.deaf τ) es=Pr.deaf σ
 gain:∀b,u' b≠none→u b≠none∨(es=#[mkE (.acquire (Pr.lock b))]∧Pr.deaf τ=0∧Pr.sh γ b≠none)
 own:∀b,u'.Owns b→u.Owns b∨(es=#[mkE (.acquire (Pr.lock b))]∧Pr.deaf τ=0∧Pr.sh γ b≠none)
 lose:∀b,Pr.sh γ' b≠none→Pr.sh γ b≠none∨(es=#[mkE (.releaseMerge (Pr.lock b))]∧Pr.deaf τ=0∧u.Owns b)
 mute:Pr.rel τ=true→∀j e,es[j]?=some e→(MemAct.ofEvent e).touch?=none∨((∃ad wr,e=⟨.cell ad,wr,true⟩)∧0<deafBehind (Pr.deaf τ) (es.extract 0 j))
 rel:i≠0→(∃σ,Pr.th γ' i=some σ∧Pr.rel σ=false)∨Pr.rel τ=true∨(es=#[mkE (.releaseMerge Pr.fin)]∧Pr.deaf τ=0)
 acq:∀σ,i=0→Pr.th γ' 0=some σ→Pr.acq σ=true→Pr.acq τ=true∨(es=#[mkE (.acquire Pr.fin)]∧Pr.deaf τ=0)
noncomputable def Proto.rest (γ:Pr.G):View:=fun b=>by classical exact if Pr.atb b then none else Pr.sh γ b
variable(K:View→Goroutine→Prop)(X:Nat→Pr.T→View→Goroutine→Prop)
inductive AtOut(i:Nat)(τ:Pr.T)(u:View)(g:Goroutine)(γ:Pr.G)(w:World):Prop
 | on (γ':Pr.G) (τ':Pr.T) (u':View) (g':Goroutine) (w':World) (es:Array Event) (h:stepG P (i==0) g w = .go g' w' es) (hS:SS Pr i γ τ u w γ' u' w' es) (ht:Pr.th γ' i=some τ') (hr:Pr.rel τ'=true→u'=noView) (hx:X i τ' u' g')
 | quit (γ':Pr.G) (g':Goroutine) (w':World) (es:Array Event) (q:Nat) (hi:i≠0) (h:stepG P false g w = .go g' w' es) (hs:g'.status = .running) (hS:SS Pr i γ τ u w γ' noView w' es) (ht:Pr.th γ' i=none) (hq:QuitsD P q (deafBehind (Pr.deaf τ) es) g')
 | spawn (γ':Pr.G) (τ' τc:Pr.T) (u' uc:View) (g' child:Goroutine) (hi:i=0) (h:stepG P true g w = .spawn g' child w #[]) (htr:Pr.tr γ 0 γ') (hsz:Pr.size γ'=Pr.size γ+1) (ht:Pr.th γ' 0=some τ') (hc:Pr.th γ' (Pr.size γ)=some τc)
   (hd:Pr.deaf τ=0) (hd':Pr.deaf τ'=0) (hdc:Pr.deaf τc=0) (hrel:Pr.rel τc=false) (hacq:Pr.acq τ'=false) (hsh:Pr.sh γ'=Pr.sh γ)
   (hu:u'.Le u) (huc:∀b x,uc b=some x→∃p,u b=some (p,x.2)∧(x.1=true→p=true)) (hex:∀b,(u'.Owns b→uc b=none)∧(uc.Owns b→u' b=none)) (hx:X 0 τ' u' g') (hxc:X (Pr.size γ) τc uc child)
 | over (hi:i=0) (h:Pr.over γ) (hk:K (u.union (Pr.rest γ)) g)
def AtF(i:Nat)(τ:Pr.T)(u:View)(g:Goroutine):Prop:=
 g.status = .running∧g.offers=none∧(Pr.wakes τ=true→mayWake P g=true)∧
 ∀ γ w,Pr.ok γ→Pr.th γ i=some τ→u.Agree w→(Pr.sh γ).Agree w→Disj u (Pr.sh γ)→Mild w.tape→
  (Pr.blocks γ i→stepG P (i==0) g w = .go {g with status:=.blocked } w #[])∧(¬Pr.blocks γ i→AtOut P Pr K X i τ u g γ w)
def _root_.Go.Pal.Proto.Wd(Pr:Proto)(w:World):Prop:=∃γ,Pr.ok γ∧(Pr.sh γ).Agree w
def Job:Nat→Nat→Pr.T→View→Goroutine→Prop
 | 0,_,_,_,_=>True
 | n+1,i,τ,v,g=>(Pr.rel τ=false∧RunW P (i==0) Pr.Wd (AtF P Pr K (Job n) i τ) v g)∨(Pr.rel τ=true∧v=noView∧MRun P (AtF P Pr K (Job n) i τ noView) g)
end
structure Laws(Pr:Proto)(base:Nat):Prop where
 ok:∀{γ i γ'},Pr.ok γ→Pr.tr γ i γ'→Pr.ok γ'
 rank:∀{γ i γ'},Pr.ok γ→Pr.tr γ i γ'→Pr.rank γ'<Pr.rank γ
 oth:∀{γ i γ'},Pr.ok γ→Pr.tr γ i γ'→∀j,j≠i→j≠Pr.size γ→Pr.th γ' j=Pr.th γ j
 lt:∀{γ j τ},Pr.ok γ→Pr.th γ j=some τ→j=0∨(base≤j∧j<Pr.size γ)
 baseLe:∀{γ},Pr.ok γ→base≤Pr.size γ
 live:∀{γ},Pr.ok γ→∃i τ,Pr.th γ i=some τ∧¬Pr.blocks γ i
 wake:∀{γ i γ' τ j},Pr.ok γ→Pr.th γ i=some τ→Pr.tr γ i γ'→j≠i→Pr.blocks γ j→¬Pr.blocks γ' j→Pr.wakes τ=true
 acq0:∀{γ σ i τ},Pr.ok γ→Pr.th γ 0=some σ→Pr.acq σ=true→Pr.th γ i=some τ→i=0∨Pr.rel τ=true
 acqT:∀{γ γ' τ σ},Pr.ok γ→Pr.tr γ 0 γ'→Pr.th γ 0=some τ→Pr.th γ' 0=some σ→Pr.acq σ=true→Pr.acq τ=true∨(∀j,base≤j→j<Pr.size γ→∀ρ,Pr.th γ j=some ρ→Pr.rel ρ=true)
 main:∀{γ},Pr.ok γ→∃τ,Pr.th γ 0=some τ∧Pr.rel τ=false
 over:∀{γ},Pr.ok γ→Pr.over γ→(∀j,j≠0→Pr.th γ j=none)∧∀τ,Pr.th γ 0=some τ→Pr.acq τ=true∧Pr.deaf τ=0
 atbS:∀{γ b},Pr.ok γ→Pr.atb b→Pr.sh γ b≠none
section
variable(P:Program)(Pr:Proto)(base:Nat)(K:View→Goroutine→Prop)
def Sit(j:Nat)(τ:Pr.T)(n:Nat)(T:Tree)(v:View)(g:Goroutine)(γ:Pr.G):Prop:=
 (Pr.rel τ=false∧RunT P (j==0) Pr.Wd (AtF P Pr K (Job P Pr K n) j τ) T v g)∨(Pr.rel τ=true∧v=noView∧RunM P (AtF P Pr K (Job P Pr K n) j τ noView) T g)∨
 (T = .leaf∧Pr.blocks γ j∧∃u g₀,View.Le u v∧g={g₀ with status:=.blocked }∧AtF P Pr K (Job P Pr K n) j τ u g₀∧(Pr.rel τ=true→v=noView))
structure PInv(S:Nat→Prop)(v0:View)(w0:World)(γ:Pr.G)(vs:Nat→View)(Ts:Nat→Tree)(ns:Nat→Nat)(gs:Array Goroutine)(w:World)(t:Trace):Prop where
 size:gs.size=Pr.size γ
 ok:Pr.ok γ
 lev:∀j,Pr.rank γ≤ns j
 sit:∀j g τ,gs[j]?=some g→Pr.th γ j=some τ→Sit P Pr K j τ (ns j) (Ts j) (vs j) g γ
 gone:∀j g,gs[j]?=some g→Pr.th γ j=none→∃q,Ts j=Tree.ofNat q∧QuitsD P q (Deaf t j) g
 above:∀j,gs.size≤j→Deaf t j=0
 agree:∀j,(vs j).Agree w
 agreeS:(Pr.sh γ).Agree w
 excl:∀i j,i≠j→∀b,(vs i).Owns b→vs j b=none
 disj:∀j,Disj (vs j) (Pr.sh γ)
 nov:∀j,Pr.th γ j=none→vs j=noView
 shun:∀b,S b→(∀j,vs j b=none)∧Pr.sh γ b=none∧b<w.heap.size
 ti:TI Pr base S γ vs w.heap.size t
 calm:Mild w.tape
 tape:w.tape=w0.tape
 output:w.output=w0.output
 os:SameOs w0.os w.os
 heap:w0.heap.size≤w.heap.size
 keep:∀b,b<w0.heap.size→¬v0.Owns b→w.heap[b]?=w0.heap[b]?
 dom:∀j b,vs j b≠none→v0 b≠none∨w0.heap.size≤b
 own:∀j b,(vs j).Owns b→v0.Owns b∨w0.heap.size≤b
 ownS:∀b,Pr.sh γ b≠none→v0.Owns b∨w0.heap.size≤b
end
end Go.Pal
end
section
namespace Go.Pal
open Go Go.Conc View
open Go.ConcN (sumTo upd sumTo_upd upd_ne upd_same RelBy sumTo_congr)
def runB:Option Goroutine→Nat
 | some g=>if g.status = .running then 1 else 0
 | none=>0
def A6w(gs:Array Goroutine):Nat:=sumTo gs.size fun j=>runB gs[j]?
section
variable{P:Program}{Pr:Proto}{base:Nat}{K:View→Goroutine→Prop}{S:Nat→Prop}{v0:View}{w0:World}{γ γ':Pr.G}{vs:Nat→View}{Ts:Nat→Tree}{ns:Nat→Nat}{gs:Array Goroutine}{w:World}{t:Trace}
theorem RunT.running{main:Bool}{W:World→Prop}{Stop:View→Goroutine→Prop}(hs:∀u g,Stop u g→g.status = .running):∀{T:Tree} {v:View} {g:Goroutine},RunT P main W Stop T v g→g.status = .running
 | .leaf,_,_,⟨_,_,h⟩=>hs _ _ h
 | .node _,_,_,h=>h.1
theorem RunM.running{Stop:Goroutine→Prop}(hs:∀g,Stop g→g.status = .running):∀{T:Tree} {g:Goroutine},RunM P Stop T g→g.status = .running
 | .leaf,_,h=>hs _ h
 | .node _,_,h=>h.1
theorem get_other{i j:Nat}{g g' x:Goroutine}{w':World}(hj:j≠i)(h:((gs.map (woken P g g' w')).setIfInBounds i g')[j]?=some x):∃y,gs[j]?=some y∧x=woken P g g' w' y:=by
 rw [Array.getElem?_setIfInBounds_ne (Ne.symm hj),Array.getElem?_map]at h
 obtain⟨y,hy,rfl⟩:=Option.map_eq_some_iff.1 h
 exact⟨y,hy,Y⟩
theorem get_self{i:Nat}{g g' x y:Goroutine}{w':World}(hi:gs[i]?=some y)(h:((gs.map (woken P g g' w')).setIfInBounds i g')[i]?=some x):x=g':=by
 obtain⟨hlt,_⟩:=Array.getElem?_eq_some_iff.1 hi
 rw [Array.getElem?_setIfInBounds_self_of_lt (by simpa using hlt)]at h
 exact(Option.some.inj h).symm
end
section
variable{P:Program}{Pr:Proto}{base:Nat}{K:View→Goroutine→Prop}{S:Nat→Prop}{v0:View}{w0:World}{γ γ':Pr.G}{vs:Nat→View}{Ts:Nat→Tree}{ns:Nat→Nat}{gs:Array Goroutine}{w:World}{t:Trace}
def Below(a b:Nat×List Tree×Nat):Prop:=a.1<b.1∨(a.1=b.1∧(LL a.2.1 b.2.1∨(a.2.1=b.2.1∧a.2.2<b.2.2)))
theorem below_acc:∀(r:Nat) (l:List Tree) (c:Nat),Acc Below (r,l,c):=by
 intro r
 induction r using Nat.strongRecOn with
 | _ r ihr=>
  intro l
  induction LL.acc l with
  | intro l _ ihl=>
   intro c
   induction c using Nat.strongRecOn with
   | _ c ihc=>
    refine⟨_,fun y hy=>?_⟩
    obtain⟨r',l',c'⟩:=y
    rcases hy with h|⟨h1,h|⟨h2,h3⟩⟩
    ·exact ihr r' h l' c'
    ·simp only at h1;subst h1;exact ihl l' h c'
    ·simp only at h1 h2;subst h1 h2;exact ihc c' h3
theorem below_wf:WellFounded Below:=⟨fun⟨r,l,c⟩=>below_acc r l c⟩
def AtOver(P:Program)(Pr:Proto)(base:Nat)(K:View→Goroutine→Prop)(S:Nat→Prop)(v0:View)(w0:World)(m:Machine)(t:Trace):Prop:=
 ∃(γ:Pr.G) (vs:Nat→View) (Ts:Nat→Tree) (ns:Nat→Nat) (gs:Array Goroutine) (w:World) (sl:Option (Nat×Nat)) (u:View) (g:Goroutine),m=crowd gs w sl∧PInv P Pr base K S v0 w0 γ vs Ts ns gs w t∧gs[0]?=some g∧Pr.over γ∧u.Le (vs 0)∧K (u.union (Pr.rest γ)) g
theorem runs_block{i:Nat}{g:Goroutine}(hi:gs[i]?=some g)(hr:g.status = .running){g':Goroutine}(hg':g'.status = .blocked)(hid:∀x,woken P g g' w x=x):A6w ((gs.map (woken P g g' w)).setIfInBounds i g')<A6w gs:=by
 obtain⟨hlt,_⟩:=Array.getElem?_eq_some_iff.1 hi
 have hmap:gs.map (woken P g g' w)=gs:=by
  have:woken P g g' w=id:=by funext x;exact hid x
  rw [this,Array.map_id]
 rw [hmap]
 unfold A6w
 simp only [Array.size_setIfInBounds]
 let f:Nat→Nat:=fun j=>runB gs[j]?
 have h1:=sumTo_upd f 0 id hlt
 have h2:f i=1:=by simp [f,hi,hr,runB]
 have h3:sumTo gs.size (fun j=>runB (gs.setIfInBounds i g')[j]?)=sumTo gs.size (fun a=>id (upd f i 0 a)):=by
  refine sumTo_congr fun j _=>?_
  by_cases e:j=i
  ·subst e
   rw [upd_same,Array.getElem?_setIfInBounds_self_of_lt hlt]
   simp [runB,hg']
  ·rw [upd_ne f 0 e,Array.getElem?_setIfInBounds_ne (Ne.symm e)]
   rfl
 rw [h3]
 simp only [id]at h1⊢
 rw [h2]at h1
 show sumTo gs.size (fun a=>upd f i 0 a)<sumTo gs.size (fun a=>f a)
 omega
end
end Go.Pal
end
section
namespace Go.Pal
open Go Go.Conc View
open Go.ConcN (sumTo upd upd_ne upd_same)
def Weak(u v:View):Prop:=∀b x,u b=some x→∃p,v b=some (p,x.2)∧(x.1=true→p=true)
theorem Weak.dom{u v:View}(h:Weak u v){b:Nat}(hb:u b≠none):v b≠none:=by
 cases e:u b with
 | none=>exact absurd e hb
 | some x=>obtain⟨p,hp,_⟩:=h b x e;rw [hp];simp
theorem Weak.own{u v:View}(h:Weak u v){b:Nat}(hb:u.Owns b):v.Owns b:=by
 obtain⟨o,ho⟩:=hb
 obtain⟨p,hp,hp'⟩:=h b _ ho
 obtain rfl:=hp' rfl
 exact⟨o,hp⟩
theorem Weak.agree{u v:View}(h:Weak u v){w:World}(hv:v.Agree w):u.Agree w:=fun b p o e=>by
 obtain⟨p',hp,_⟩:=h b _ e
 exact hv b p' o hp
structure Begins(P:Program)(v:View)(g:Goroutine)(K:View→Goroutine→Prop)(base:Nat)(Pr:Proto)(γ:Pr.G)(v1:View)(τ:Pr.T):Prop where
 laws:Laws Pr base
 wake0:∀{γ γ':Pr.G},Pr.ok γ→Pr.tr γ 0 γ'→Pr.size γ'=Pr.size γ+1→∀j,j≠0→Pr.blocks γ j→Pr.blocks γ' j
 ok:Pr.ok γ
 size:Pr.size γ=base
 th:Pr.th γ 0=some τ
 oth:∀j,j≠0→Pr.th γ j=none
 rel:Pr.rel τ=false
 deaf:Pr.deaf τ=0
 acq:Pr.acq τ=false
 weak:Weak v1 v
 sh:∀b x,Pr.sh γ b=some x→v b=some x∧x.1=true
 atb:∀b,Pr.atb b→Pr.sh γ b≠none
 disj:Disj v1 (Pr.sh γ)
 job:Job P Pr K (Pr.rank γ+1) 0 τ v1 g
end Go.Pal
end
section
namespace Go.Pal.Mu
open Go Go.Conc Go.Pal
open Go.ConcN (sumTo upd sumTo_upd upd_ne upd_same sumTo_congr le_sumTo)
structure MW where
 l:Bool
 w:Bool
 s:Bool
 n:Nat
 deriving DecidableEq,Repr
inductive Mp where
 | out|l0|l1
 | rd(aw sv:Bool)(it:Nat)
 | spin(o:MW)(aw sv:Bool)(it:Nat)
 | scas(o:MW)(sv:Bool)(it:Nat)
 | cas(o:MW)(aw sv:Bool)(it:Nat)
 | t1(sv:Bool)|wait(sv:Bool)|t2(sv:Bool)|got(sv:Bool)
 | hand(ex:Bool)
 | le|la|u0|ur|ud|ua
 | uc(o:MW)|ux|us(st:Bool)|ue
def MW.zero:MW:=⟨false,false,false,0⟩
def newOf(o:MW)(aw sv:Bool):MW:=⟨o.l || !o.s,o.w && !aw,o.s||(sv&&o.l),if o.l||o.s then o.n+1 else o.n⟩
def hd(o:MW)(aw sv:Bool)(it:Nat):Mp:=if o.l && !o.s then .spin o aw sv it else .cas o aw sv it
def afterX(x:MW):Mp:=if x.n=0∨x.l∨x.w∨x.s then .ue else .uc x
def afterU(y:MW):Mp:=if y.s then .us true else afterX y
inductive Ms:Mp→MW→Nat→Mp→MW→Nat→Prop
 | l0 {x m}:Ms .l0 x m .l1 x m
 | l1N {x m}:x≠.zero→Ms .l1 x m (.rd false false 0) x m
 | l1Y {m}:Ms .l1 .zero m .le ⟨true,false,false,0⟩ m
 | rd {aw sv it x m}:Ms (.rd aw sv it) x m (hd x aw sv it) x m
 | spinY {o aw sv it x m}:it<4→Ms (.spin o aw sv it) x m (if !aw && !o.w&&decide (o.n≠0)then .scas o sv it else .rd aw sv (it+1)) x m
 | spinN {o aw sv it x m}:Ms (.spin o aw sv it) x m (.cas o aw sv it) x m
 | scasY {sv it x m}:Ms (.scas x sv it) x m (.rd true sv (it+1)) {x with w:=true } m
 | scasN {o sv it x m}:x≠o→Ms (.scas o sv it) x m (.rd false sv (it+1)) x m
 | casN {o aw sv it x m}:x≠o→Ms (.cas o aw sv it) x m (.rd aw sv it) x m
 | casL {aw sv it x m}:x.l=false→x.s=false→Ms (.cas x aw sv it) x m .le (newOf x aw sv) m
 | casQ {aw sv it x m} (c:Bool):(x.l||x.s)=true→Ms (.cas x aw sv it) x m (if c then .t1 sv else .wait sv) (newOf x aw sv) m
 | t1 {sv x m}:Ms (.t1 sv) x m (.wait sv) x m
 | wait {sv x m}:Ms (.wait sv) x (m+1) (if sv then .got sv else .t2 sv) x m
 | t2 {sv x m} (sv':Bool):Ms (.t2 sv) x m (.got sv') x m
 | gotH {sv x m}:x.s=true→Ms (.got sv) x m (.hand (!sv||decide (x.n=1))) x m
 | gotR {sv x m}:x.s=false→Ms (.got sv) x m (hd x true sv 0) x m
 | hand {ex x m}:Ms (.hand ex) x m .le ⟨true,x.w,x.s && !ex,x.n-1⟩ m
 | le {x m}:Ms .le x m .la x m
 | la {x m}:Ms .la x m .u0 x m
 | u0 {x m}:Ms .u0 x m .ur x m
 | ur {x m}:Ms .ur x m .ud x m
 | ud {x m}:Ms .ud x m .ua x m
 | ua {x m}:Ms .ua x m (afterU {x with l:=false }) {x with l:=false } m
 | ucY {x m}:Ms (.uc x) x m (.us false) {x with w:=true,n:=x.n-1 } m
 | ucN {o x m}:x≠o→Ms (.uc o) x m .ux x m
 | ux {x m}:Ms .ux x m (afterX x) x m
 | us {st x m}:Ms (.us st) x m .ue x (m+1)
 | ue {x m}:Ms .ue x m .out x m
def hold:Mp→Nat | .le | .la | .u0 | .ur | .ud | .ua=>1|_=>0
def wt:Mp→Nat | .t1 _ | .wait _=>1|_=>0
def gt:Mp→Nat | .t2 _ | .got _=>1|_=>0
def hn:Mp→Nat | .hand _=>1|_=>0
def ak:Mp→Nat | .rd true _ _ | .spin _ true _ _ | .cas _ true _ _=>1|_=>0
def usn:Mp→Nat | .us false=>1|_=>0
def uss:Mp→Nat | .us true=>1|_=>0
def rs:Mp→Nat | .uc _ | .ux=>1|_=>0
def loc(x:MW):Mp→Prop
 | .rd aw sv _=>sv=true→aw=true
 | .spin o aw sv _=>o.l=true∧o.s=false∧(aw=true→o.w=true)∧(sv=true→aw=true)
 | .scas o sv it=>o.l=true∧o.s=false∧o.w=false∧1≤o.n∧it<4∧sv=false
 | .cas o aw sv _=>(aw=true→o.w=true)∧(sv=true→aw=true)
 | .hand ex=>x.s=true∧(ex=false→2≤x.n)
 | .uc o=>o.l=false∧o.w=false∧o.s=false∧1≤o.n
 | _=>True
def S(J:Nat)(ph:Nat→Mp)(φ:Mp→Nat):Nat:=sumTo J fun a=>φ (ph a)
structure MI(J:Nat)(ph:Nat→Mp)(x:MW)(m:Nat):Prop where
 i1:x.l.toNat=S J ph hold
 i2:x.s=false→S J ph wt=x.n+m+S J ph usn∧S J ph hn=0∧S J ph uss=0∧x.w.toNat=m+S J ph usn+S J ph gt+S J ph ak
 i3:x.s=true→S J ph wt+S J ph gt+S J ph hn=x.n∧x.w=false∧S J ph ak=0∧S J ph usn=0∧x.l.toNat+m+S J ph uss+S J ph gt+S J ph hn=1∧1≤x.n
 i4:x.s=false→x.l=false→1≤x.n→x.w=true∨1≤S J ph rs
 lo:∀j,j<J→loc x (ph j)
def wgh:Mp→Nat
 | .out=>0
 | .ue=>1
 | .us _=>6
 | .uc _ | .ux=>7
 | .le | .la | .u0 | .ur | .ud | .ua=>8
 | .t1 _ | .wait _=>9
 | .rd true _ _ | .spin _ true _ _ | .cas _ true _ _=>10
 | .rd false _ _ | .spin _ false _ _ | .scas _ _ _ | .cas _ false _ _=>11
 | .t2 _ | .got _ | .hand _=>11
 | .l0 | .l1=>12
def lam(x:MW):Mp→Nat
 | .rd _ _ it=>10*(4-it)+6
 | .spin o _ _ it=>10*(4-it)+(if o=x then 5 else 9)
 | .scas _ _ it=>10*(4-it)+4
 | .cas o _ _ it=>10*(4-it)+(if o=x then 3 else 7)
 | .uc o=>if o=x then 2 else 4
 | .ux=>3
 | .le=>7 | .la=>6 | .u0=>5 | .ur=>4 | .ud=>3 | .ua=>2
 | .t1 _=>2 | .wait _=>1 | .t2 _=>3 | .got _=>2 | .hand _=>1
 | .l0=>2 | .l1=>1
 | .out | .ue | .us _=>0
inductive Wk where
 | off|take
 | mx(i:Nat)(L:List Nat)(p:Mp)
 | d0|d1|d2|d3|d4|d5
inductive Mn where
 | a0(k:Nat)|a1(k:Nat)|ar(k:Nat)|a2(k:Nat)|go(k:Nat)
 | w0|w1|wc(o:Nat)|ww|w3|w4|w5|w6|fin
structure WS where
 mn:Mn
 st:Nat
 ph:Nat→Wk
 c:Nat
 x:MW
 m:Nat
 L:List Nat
 v:Nat
 wt:Nat
 sm:Nat
def mp:Wk→Mp
 | .mx _ _ p=>p
 | _=>.out
def A3y:Wk→Nat | .take | .mx _ _ _ | .d0 | .d1 | .d2=>1|_=>0
def d34:Wk→Nat | .d3 | .d4=>1|_=>0
def d5c:Wk→Nat | .d5=>1|_=>0
def pend:Mn→Nat | .ar _ | .a2 _ | .go _=>1|_=>0
def kOf:Mn→Option Nat | .a0 k | .a1 k | .ar k | .a2 k | .go k=>some k|_=>none
def isQ:Mn→Bool | .ww | .w3=>true|_=>false
def isP:Mn→Bool | .w4 | .w5 | .w6 | .fin=>true|_=>false
def pre:Mp→Bool | .ud | .ua | .uc _ | .ux | .us _ | .ue | .out=>false|_=>true
def Sw(J:Nat)(ph:Nat→Wk)(φ:Wk→Nat):Nat:=sumTo J fun a=>φ (ph a)
section
variable(J N:Nat)(keep:Nat→Bool)(base:Nat)
inductive Tr:WS→Nat→WS→Prop
 | a0 {γ k}:γ.mn = .a0 k→Tr γ 0 {γ with mn:=.a1 k }
 | a1 {γ k}:γ.mn = .a1 k→Tr γ 0 {γ with mn:=if γ.v=0 then .ar k else .a2 k,v:=γ.v+1 }
 | ar {γ k}:γ.mn = .ar k→Tr γ 0 {γ with mn:=.a2 k }
 | a2 {γ k}:γ.mn = .a2 k→Tr γ 0 {γ with mn:=.go k }
 | go {γ k}:γ.mn = .go k→Tr γ 0 {γ with mn:=if k+1<J then .a0 (k+1)else .w0,st:=k+1,ph:=upd γ.ph k .take }
 | w0 {γ}:γ.mn = .w0→Tr γ 0 {γ with mn:=.w1 }
 | w1Z {γ}:γ.mn = .w1→γ.v=0→Tr γ 0 {γ with mn:=.w5 }
 | w1 {γ}:γ.mn = .w1→γ.v≠0→Tr γ 0 {γ with mn:=.wc γ.v }
 | wcY {γ}:γ.mn = .wc γ.v→Tr γ 0 {γ with mn:=.ww,wt:=1 }
 | wcN {γ o}:γ.mn = .wc o→γ.v≠o→Tr γ 0 {γ with mn:=.w1 }
 | ww {γ}:γ.mn = .ww→Tr γ 0 {γ with mn:=.w3 }
 | w3 {γ s}:γ.mn = .w3→γ.sm=s+1→Tr γ 0 {γ with mn:=.w4,sm:=s }
 | w4 {γ}:γ.mn = .w4→Tr γ 0 {γ with mn:=.w5 }
 | w5 {γ}:γ.mn = .w5→Tr γ 0 {γ with mn:=.w6 }
 | w6 {γ}:γ.mn = .w6→Tr γ 0 {γ with mn:=.fin }
 | take {γ j}:j<J→γ.ph j = .take→γ.c<N→Tr γ (base+j) {γ with ph:=upd γ.ph j (if keep γ.c then .take else .mx γ.c [] .l0),c:=γ.c+1 }
 | takeE {γ j}:j<J→γ.ph j = .take→N≤γ.c→Tr γ (base+j) {γ with ph:=upd γ.ph j .d0,c:=γ.c+1 }
 | mx {γ j i L p p' x' m'}:j<J→γ.ph j = .mx i L p→Ms p γ.x γ.m p' x' m'→p≠.la→p≠.ur→p≠.ue→Tr γ (base+j) {γ with ph:=upd γ.ph j (.mx i L p'),x:=x',m:=m' }
 | la {γ j i L}:j<J→γ.ph j = .mx i L .la→Tr γ (base+j) {γ with ph:=upd γ.ph j (.mx i γ.L .u0) }
 | ur {γ j i L}:j<J→γ.ph j = .mx i L .ur→Tr γ (base+j) {γ with ph:=upd γ.ph j (.mx i L .ud),L:=L++[i] }
 | ue {γ j i L}:j<J→γ.ph j = .mx i L .ue→Tr γ (base+j) {γ with ph:=upd γ.ph j .take }
 | d0 {γ j}:j<J→γ.ph j = .d0→Tr γ (base+j) {γ with ph:=upd γ.ph j .d1 }
 | d1 {γ j}:j<J→γ.ph j = .d1→Tr γ (base+j) {γ with ph:=upd γ.ph j .d2 }
 | d2 {γ j v}:j<J→γ.ph j = .d2→γ.v=v+1→(v≠0∨γ.wt=0)→Tr γ (base+j) {γ with ph:=upd γ.ph j .off,v:=v }
 | d2L {γ j}:j<J→γ.ph j = .d2→γ.v=1→γ.wt≠0→Tr γ (base+j) {γ with ph:=upd γ.ph j .d3,v:=0 }
 | d3 {γ j}:j<J→γ.ph j = .d3→Tr γ (base+j) {γ with ph:=upd γ.ph j .d4 }
 | d4 {γ j}:j<J→γ.ph j = .d4→Tr γ (base+j) {γ with ph:=upd γ.ph j .d5,wt:=0 }
 | d5 {γ j}:j<J→γ.ph j = .d5→Tr γ (base+j) {γ with ph:=upd γ.ph j .off,sm:=γ.sm+1 }
structure Ok(γ:WS):Prop where
 stk:∀k,kOf γ.mn=some k→γ.st=k∧k<J
 stw:kOf γ.mn=none→γ.st=J
 offs:∀j,γ.st≤j→γ.ph j = .off
 mi:MI J (fun j=>mp (γ.ph j)) γ.x γ.m
 cnt:γ.v=Sw J γ.ph A3y+pend γ.mn
 wq:isQ γ.mn=true→(γ.wt=1∧Sw J γ.ph d5c+γ.sm=0∧(γ.v=0→Sw J γ.ph d34=1)∧(γ.v≠0→Sw J γ.ph d34=0))∨(γ.wt=0∧γ.v=0∧Sw J γ.ph d34=0∧Sw J γ.ph d5c+γ.sm=1)
 wn:isQ γ.mn=false→γ.wt=0∧Sw J γ.ph d34=0∧Sw J γ.ph d5c+γ.sm=0
 post:isP γ.mn=true→γ.v=0
 wcn:∀o,γ.mn = .wc o→o≠0
 own:∀j i L p,γ.ph j = .mx i L p→(p = .u0∨p = .ur)→L=γ.L
 idx:∀j i L p,γ.ph j = .mx i L p→i<N∧keep i=false∧p≠.out
 all:∀i,i<γ.c→i<N→keep i=false→i∈γ.L∨∃j L p,γ.ph j = .mx i L p∧pre p=true
 sub:∀i∈γ.L,i<N∧keep i=false
end
def hc:Wk→Nat | .mx _ _ .u0 | .mx _ _ .ur=>1|_=>0
def encW(x:MW):Int:=((x.l.toNat+2*x.w.toNat+4*x.s.toNat+8*x.n:Nat):Int)
def wgV(v wt:Nat):Int:=((v*4294967296+wt:Nat):Int)
def muB(t:TypeId)(x:MW)(m:Nat):Obj:=.cells #[.int .i32 (encW x),.int .u32 m] t (0,0)
def wgB(t:TypeId)(v wt sm:Nat):Obj:=.cells #[.int .u64 (wgV v wt),.int .u32 sm] t (0,0)
def cnB(t:TypeId)(c:Nat):Obj:=.cells #[.int .i64 c] t (0,0)
structure Par where
 J:Nat
 N:Nat
 keep:Nat→Bool
 Mu:Nat
 Wg:Nat
 Cn:Nat
 Cm:Nat
 tM:TypeId
 tW:TypeId
 tC:TypeId
 con:List Nat→Obj
 J1:1≤J
 J2:J≤200
def shW(A:Par)(γ:WS):View:=fun b=>
 if b=A.Mu then some (true,muB A.tM γ.x γ.m)else if b=A.Wg then some (true,wgB A.tW γ.v γ.wt γ.sm)else if b=A.Cn then some (true,cnB A.tC γ.c)else
 if b=A.Cm then(if Sw A.J γ.ph hc=0 then some (true,A.con γ.L)else none)else none
def dfP:Mp→Nat
 | .l1 | .rd _ _ _ | .spin _ _ _ _ | .scas _ _ _ | .cas _ _ _ _ | .t1 _ | .wait _ | .t2 _ | .got _ | .hand _ | .le | .ua | .uc _ | .ux | .us _ | .ue=>1
 | _=>0
def dfW:Wk→Nat | .mx _ _ p=>dfP p | .d2 | .d3 | .d4 | .d5=>1|_=>0
def dfM:Mn→Nat | .a1 _ | .ar _ | .a2 _ | .w1 | .wc _ | .ww | .w3 | .w4 | .w5=>1|_=>0
def relW:Wk→Bool | .d1 | .d2 | .d3 | .d4 | .d5=>true|_=>false
def wakesP:Mp→Bool | .us _=>true|_=>false
def wakesW:Wk→Bool | .mx _ _ p=>wakesP p | .d5=>true|_=>false
def thW(A:Par)(base:Nat)(γ:WS)(i:Nat):Option (Mn ⊕ Wk):=
 if i=0 then some (.inl γ.mn)else if base≤i∧i<base+A.J then(match γ.ph (i-base)with | .off=>none|q=>some (.inr q))else none
def blkW(A:Par)(base:Nat)(γ:WS)(i:Nat):Prop:=(i=0∧γ.mn = .w3∧γ.sm=0)∨∃j,i=base+j∧j<A.J∧(∃i' L sv,γ.ph j = .mx i' L (.wait sv))∧γ.m=0
def wM(J:Nat):Mn→Nat
 | .a0 k=>(J-k)*60+50 | .a1 k=>(J-k)*60+49 | .ar k=>(J-k)*60+48 | .a2 k=>(J-k)*60+47 | .go k=>(J-k)*60+46
 | .w0=>20 | .w1=>15 | .wc _=>15 | .ww=>14 | .w3=>12 | .w4=>10 | .w5=>5 | .w6=>4 | .fin=>0
def wW:Wk→Nat | .off=>0 | .take=>30 | .mx _ _ p=>30+wgh p | .d0=>20 | .d1=>19 | .d2=>18 | .d3=>10 | .d4=>9 | .d5=>8
def lW(x:MW):Wk→Nat | .mx _ _ p=>lam x p|_=>0
def lM(v:Nat):Mn→Nat | .w1=>2 | .wc o=>if o=v then 1 else 3|_=>0
def wgt(A:Par)(γ:WS):Nat:=13*(A.N-γ.c)+Sw A.J γ.ph wW+4*γ.m+3*γ.sm+wM A.J γ.mn
def lml(A:Par)(γ:WS):Nat:=Sw A.J γ.ph (lW γ.x)+lM γ.v γ.mn
def act:Wk→Nat | .take | .mx _ _ _=>1|_=>0
def Cb1(J N:Nat)(γ:WS):Prop:=γ.c+Sw J γ.ph act≤N+γ.st
def lazyW:Wk→Bool | .take | .mx _ _ _=>false|_=>true
def Cd(N:Nat)(γ:WS):Prop:=∀j,j<γ.st→lazyW (γ.ph j)=true→N≤γ.c
def Cb(J N:Nat)(γ:WS):Prop:=Cb1 J N γ∧Cd N γ
abbrev A0w(A:Par)(base:Nat):Proto where
 G:=WS
 T:=Mn ⊕ Wk
 th:=thW A base
 ok:=fun γ=>Ok A.J A.N A.keep γ∧Cb A.J A.N γ
 size:=fun γ=>base+γ.st
 rank:=fun γ=>1000*wgt A γ+lml A γ
 sh:=shW A
 atb:=fun b=>b=A.Mu∨b=A.Wg∨b=A.Cn
 lock:=fun _=>⟨A.Mu,0,none⟩
 deaf:=fun | .inl m=>dfM m | .inr q=>dfW q
 rel:=fun | .inl _=>false | .inr q=>relW q
 acq:=fun | .inl .fin=>true|_=>false
 blocks:=blkW A base
 wakes:=fun | .inl _=>false | .inr q=>wakesW q
 fin:=⟨A.Wg,0,none⟩
 over:=fun γ=>γ.mn = .fin
 tr:=Tr A.J A.N A.keep base
section
variable{A:Par}{base:Nat}{γ γ':WS}
def start:WS:={mn:=.a0 0,st:=0,ph:=fun _=>.off,c:=0,x:=.zero,m:=0,L:=[],v:=0,wt:=0,sm:=0 }
end
end Go.Pal.Mu
end
section
namespace Go.Pal
open Go Go.Conc View
theorem A1r(v:View):v.union (A0c [])=v:=by
 funext b;unfold View.union;cases v b<;>rfl
theorem A4c(v:View):Bok [] v:=⟨by simp,fun _=>.inr Y⟩
class Sil(P:outParam Program)(main:outParam Bool)(R:Goroutine→Prop):Prop where
 step:∀{g g':Goroutine},g.status = .running→(∀w,stepG P main g w = .go g' w #[])→R g'→R g
instance {P:Program} {mn:Who} {Stop:View→Goroutine→Prop} {v:View}:Sil P mn.main (Run P mn Stop v):=⟨fun hs h r=>Run.ctl hs h r⟩
instance {P:Program} {main:Bool} {W:World→Prop} {Stop:View→Goroutine→Prop} {v:View}:Sil P main (RunW P main W Stop v):=
 ⟨fun {_ g'} hs h r=>.step hs (fun _=>g') (fun w=>w) (fun _=>#[]) (fun _=>v) (fun w _ hw=>⟨h w,.refl hw⟩) (fun _ _ _=>r)⟩
instance {P:Program} {Stop:Goroutine→Prop}:Sil P false (MRun P Stop):=⟨fun hs h r=>.step hs h r⟩
def A8w(P:Program)(d:Nat)(g:Goroutine):Prop:=∃q,QuitsD P q d g
instance {P:Program} {d:Nat}:Sil P false (A8w P d):=⟨fun hs h ⟨q,hq⟩=>⟨q+1,.inr ⟨hs,_,#[],by simp,h,by simpa [deafBehind]using hq⟩⟩⟩
def Pu{α:Type}(P:Program)(m:Sem α)(x:α):Prop:=∀w,m.run P w = .ok x w∧∀es,m.events P w es=es
theorem Pu.pure{α:Type}{P:Program}(x:α):Pu P (pure x) x:=fun w=>⟨Y,fun es=>rfl⟩
theorem Pu.bind{α β:Type}{P:Program}{m:Sem α}{f:α→Sem β}{x:α}{y:β}(h:Pu P m x)(k:Pu P (f x) y):Pu P (m >>= f) y:=fun w=>by
 refine⟨by rw [Sem.run_bind,(h w).1];exact(k w).1,fun es=>?_⟩
 rw [Sem.events_bind,(h w).1,(h w).2]
 exact(k w).2 es
theorem Pu.und{P:Program}{t:TypeId}{d:TypeDesc}(h:P.underlying t=some d):Pu P (underlying t) d:=fun w=>⟨by simp [underlying,h],fun es=>by simp⟩
theorem Pu.siz{P:Program}{T:Tab P}{t:TypeId}{n:Nat}(h:T.siz t=some n):Pu P (sizeOf t) n:=fun w=>by
 obtain⟨i,hi,rfl⟩:=T.siz_ok _ _ h
 exact⟨by simp [sizeOf,typeInfo,hi],fun es=>by simp⟩
def silOp(g:Operand→Option Value):Op→Bool
 | .move _ | .assign _ | .pick .. | .nilCheck _ | .unOp .. | .convert .. | .fieldAddr ..=>true
 | .binOp _ _ x y _=>match g x,g y with|some (.int _ _),some (.int _ _)=>true|_,_=>false
 | _=>false
theorem binVal_pu{P:Program}{T:Tab P}{op:BinOp}{t:TypeId}{k k':IntKind}{a b:Int}{x:Value}{y z:Operand}(h:A6c T op t (.int k a) (.int k' b)=some x):Pu P (do eqGuard op t y z (.int k a) (.int k' b);binOp op t (.int k a) (.int k' b)) x:=by
 have heq:eqGuard op t y z (.int k a) (.int k' b)=pure ():=by unfold eqGuard;cases op<;>rfl
 rw [heq]
 refine Pu.bind (Pu.pure ()) ?_
 simp only [A6c]at h
 split at h
 ·split at h
  ·cases h
  ·rename_i hb;cases h;simp only [binOp,Op.shift,if_neg hb];exact Pu.pure _
 ·split at h
  ·cases h
  ·rename_i hb;cases h;simp only [binOp,Op.shift,if_neg hb];exact Pu.pure _
 ·split at h
  ·rename_i hkk
   subst hkk
   split at h
   ·cases h
   ·rename_i hb;cases h;simp only [binOp,ne_eq,not_true_eq_false,if_false,Op.intDiv,if_neg hb];exact Pu.pure _
  ·cases h
 ·split at h
  ·rename_i hkk
   subst hkk
   split at h
   ·cases h
   ·rename_i hb;cases h;simp only [binOp,ne_eq,not_true_eq_false,if_false,Op.intDiv,if_neg hb];exact Pu.pure _
  ·cases h
 ·split at h
  ·rename_i hkk
   subst hkk
   cases op<;>simp only [A8s]at h<;>first|(cases h;done)|(cases h;simp only [binOp,Op.intArith,Op.intCmp,Op.intBits,ne_eq,not_true_eq_false,if_false];first|exact Pu.pure _|exact Pu.bind (Pu.pure _) (Pu.pure _))
  ·cases h
theorem evalOp_pu{P:Program}{T:Tab P}{g:Operand→Option Value}{ρ:Operand→Value}(hg:∀x y,g x=some y→ρ x=y){o:Oper}{x:Value}(hs:silOp g o.op=true)(h:A1h T g o.op=some x):Pu P (execOp ρ o) (.value x):=by
 obtain⟨dst,op,ty,pos,af,gu⟩:=o
 cases op with
 | move y=>simp only [A1h]at h;simp only [execOp,hg _ _ h];exact Pu.pure _
 | assign y=>simp only [A1h]at h;simp only [execOp,hg _ _ h];exact Pu.pure _
 | pick c a b=>
  simp only [A1h]at h
  split at h
  ·rename_i hc;simp only [execOp,hg _ _ hc,hg _ _ h,asBool];exact Pu.bind (Pu.pure _) (Pu.pure _)
  ·rename_i hc;simp only [execOp,hg _ _ hc,hg _ _ h,asBool];exact Pu.bind (Pu.pure _) (Pu.pure _)
  ·cases h
 | nilCheck y=>
  simp only [A1h]at h
  split at h<;>first|(cases h;done)|(rename_i hy;cases h;simp only [execOp,hg _ _ hy];exact Pu.pure _)
 | binOp op t y z t'=>
  simp only [A1h]at h
  simp only [silOp]at hs
  split at hs
  ·rename_i h1 h2
   rw [h1,h2]at h
   simp only [execOp,hg _ _ h1,hg _ _ h2]
   exact Pu.bind (binVal_pu h) (Pu.pure _)
  ·cases hs
 | unOp op t y=>
  cases op<;>simp only [A1h]at h<;>first|(cases h;done)|(split at h<;>first|(cases h;done)|(rename_i hy;cases h;simp only [execOp,hg _ _ hy];exact Pu.bind (Pu.pure _) (Pu.pure _)))
 | convert s d y=>
  simp only [A1h]at h
  split at h
  ·rename_i ds k k' n h1 h2 h3
   cases h
   simp only [execOp,hg _ _ h3,convert]
   refine Pu.bind (Pu.bind (Pu.und (T.und_ok _ _ h1)) (Pu.bind (Pu.und (T.und_ok _ _ h2)) ?_)) (Pu.pure _)
   cases ds<;>exact Pu.pure _
  ·rename_i ds k n h1 h2 h3
   cases h
   simp only [execOp,hg _ _ h3,convert]
   refine Pu.bind (Pu.bind (Pu.und (T.und_ok _ _ h1)) (Pu.bind (Pu.und (T.und_ok _ _ h2)) ?_)) (Pu.pure _)
   cases ds<;>exact Pu.pure _
  ·cases h
 | fieldAddr s y f=>
  simp only [A1h]at h
  split at h
  ·rename_i fs b off h1 h2
   split at h
   ·rename_i fd hf
    split at h
    ·rename_i n hn
     cases h
     have hadd:(⟨b,off,none⟩:Addr).add fd.offset=⟨b,off+fd.offset,none⟩:=by unfold Addr.add;split<;>simp_all
     simp only [execOp,hg _ _ h2,Instr.fieldAt,Instr.sureAddr,fieldPlace]
     refine Pu.bind (Pu.bind (Pu.und (T.und_ok _ _ h1)) ?_) (Pu.pure _)
     simp only [hf]
     refine Pu.bind (Pu.pure _) (Pu.bind (Pu.bind (Pu.siz hn) ?_) (Pu.pure _))
     rw [if_neg oM,hadd]
     exact Pu.pure _
    ·cases h
   ·cases h
  ·cases h
 | _=>cases hs
theorem A1u{b:Frame}(hr:b.roundOf=none)(c:Act)(its:List Item):b.on c its=b.at c its:=by simp [Frame.on,Frame.at,hr]
def _root_.Go.Frame.out(b:Frame)(a:Act)(its:List Item):Frame:={b.on a its with mode:=.returning }
structure Ext(P:Program)(f:FuncId)(fn:Func)(e:Array Value→Sem Value):Prop where
 hf:P.funcs[f]?=some fn
 hname:(fn.name == "runtime.NumGoroutine")=false
 hb:fn.body.isNone=true
 hn:Extern.findNext fn=none
 he:Extern.find fn=some e
def XG(R:Goroutine→Prop)(n:Nat)(b:Frame)(its:List Item)(cs:List Frame)(ds:List Deferred)(ρ:Regs):Prop:=
 ∀a,Fits n ⟨ds,ρ,[]⟩ a→R (G (b.on a its) cs)
def XB(R:Goroutine→Prop)(n:Nat)(b:Frame)(its:List Item)(cs:List Frame)(ds:List Deferred)(ρ:Regs):Prop:=
 ∀a,Fits n ⟨ds,ρ,[]⟩ a→R (G (b.out a its) cs)
section
variable{P:Program}(T:Tab P){main:Bool}{R:Goroutine→Prop}[S:Sil P main R]{n:Nat}{b:Frame}{k:List Item}{cs:List Frame}{ρ:Regs}{ds:List Deferred}
include S
theorem A3i{x y:Code}(h:XG R n b (.code x::.code y::k) cs ds ρ):XG R n b (.code (.seq x y)::k) cs ds ρ:=fun a hf=>
 S.step rfl (fun w=>by simp [G,stepG,stepG.exec,Frame.on]) (h a hf)
theorem B2p(h:XG R n b k cs ds ρ):XG R n b (.code .skip::k) cs ds ρ:=fun a hf=>
 S.step rfl (fun w=>by simp [G,stepG,stepG.exec,Frame.on]) (h a hf)
theorem F_label{l:Nat}(h:XG R n b k cs ds ρ):XG R n b (.code (.label l)::k) cs ds ρ:=fun a hf=>
 S.step rfl (fun w=>by simp [G,stepG,stepG.exec,Frame.on]) (h a hf)
theorem B0b{id:Nat}{c:Code}(h:XG R n b (.code c::.inBlock id::k) cs ds ρ):XG R n b (.code (.block id c)::k) cs ds ρ:=fun a hf=>
 S.step rfl (fun w=>by simp [G,stepG,stepG.exec,Frame.on]) (h a hf)
theorem F_inBlock{id:Nat}(h:XG R n b k cs ds ρ):XG R n b (.inBlock id::k) cs ds ρ:=fun a hf=>
 S.step rfl (fun w=>by simp [G,stepG,stepG.exec,Frame.on]) (h a hf)
theorem F_exit{id:Nat}{k':List Item}(he:exitTo id k=some k')(h:XG R n b k' cs ds ρ):XG R n b (.code (.exit id)::k) cs ds ρ:=fun a hf=>
 S.step rfl (fun w=>by simp [G,stepG,stepG.exec,Frame.on,he]) (h a hf)
theorem F_scope{c:Code}(h:XG R n b (.code c::.inScope c::k) cs ds ρ):XG R n b (.code (.scope c)::k) cs ds ρ:=fun a hf=>
 S.step rfl (fun w=>by simp [G,stepG,stepG.exec,Frame.on]) (h a hf)
theorem F_loop{c:Code}(h:XG R n b (.code c::.inLoop c::k) cs ds ρ):XG R n b (.code (.loop c)::k) cs ds ρ:=fun a hf=>
 S.step rfl (fun w=>by simp [G,stepG,stepG.exec,Frame.on]) (h a hf)
theorem A5q{c:Code}(h:XG R n b (.code c::.inLoop c::k) cs ds ρ):XG R n b (.inLoop c::k) cs ds ρ:=fun a hf=>
 S.step rfl (fun w=>by simp [G,stepG,stepG.exec,Frame.on]) (h a hf)
theorem F_cond{c:Operand}{x y:Code}{t:Bool}(hc:ρ.val c=some (.bool t))(h:XG R n b (.code (if t then x else y)::k) cs ds ρ):XG R n b (.code (.cond c x y)::k) cs ds ρ:=fun a hf=>
 S.step rfl (g':=G (b.on a (.code (if t then x else y)::k)) cs) (fun w=>by
  have h':(b.on a (.code (.cond c x y)::k)).eval c = .bool t:=by rw [eval_on];exact A0k hf _ _ hc
  simp only [Frame.on]at h'
  simp [G,stepG,stepG.exec,Frame.on,h']) (h a hf)
theorem A7x{c:Operand}{x y:Code}(hc:ρ.val c=some (.bool true))(h:XG R n b (.code x::k) cs ds ρ):XG R n b (.code (.cond c x y)::k) cs ds ρ:=F_cond hc h
theorem B0a{c:Operand}{x y:Code}(hc:ρ.val c=some (.bool false))(h:XG R n b (.code y::k) cs ds ρ):XG R n b (.code (.cond c x y)::k) cs ds ρ:=F_cond hc h
theorem A0r{id:Nat}{ops:Array Oper}{l:List Nat}(hl:List.range ops.size=l)(h:XG R n b (.inRegion ops l::k) cs ds ρ):XG R n b (.code (.region id ops false)::k) cs ds ρ:=fun a hf=>
 S.step rfl (g':=G (b.on a (.inRegion ops (List.range ops.size)::k)) cs) (fun w=>by simp [G,stepG,stepG.exec,Frame.on]) (by rw [hl];exact h a hf)
theorem F_nil{ops:Array Oper}(h:XG R n b k cs ds ρ):XG R n b (.inRegion ops []::k) cs ds ρ:=fun a hf=>
 S.step rfl (fun w=>by simp [G,stepG,stepG.exec,Frame.on]) (h a hf)
variable{ops:Array Oper}{i:Nat}{rest:List Nat}{d:Nat}{op:Op}{ty:TypeId}{pos:String}{af:Array Edge}{gu:Option (Nat×Bool)}
theorem F_skipop(ho:ops[i]?=some ⟨some d,op,ty,pos,af,gu⟩)(hw:A0p ops gu ρ=some false)(hn:Nat.blt d n=true)(h:XG R n b (.inRegion ops rest::k) cs ds ((d,undef)::ρ)) :
  XG R n b (.inRegion ops (i::rest)::k) cs ds ρ:=fun a hf=>by
 refine S.step Y (g':=G (b.on (a.put (some d) undef) (.inRegion ops rest::k)) cs) (fun w=>?_) (h _ (A0x hf (show A2p n (some d)=true from hn)))
 have hw':=A0m (o:=⟨some d,op,ty,pos,af,gu⟩) hf (A0j hw)
 rw [←A2g b a ops i rest k _ undef ho]
 simp [G,stepG,stepG.exec,Frame.on,ho,hw']
theorem A0t{x:Value}(hk:b.kind≠.early)(hr:b.roundOf=none)(ho:ops[i]?=some ⟨some d,op,ty,pos,af,gu⟩)(hw:A0p ops gu ρ=some true)(hn:Nat.blt d n=true)(hs:silOp ρ.val op=true)(hx:A1h T ρ.val op=some x)(h:XG R n b (.inRegion ops rest::k) cs ds ((d,x)::ρ)) :
  XG R n b (.inRegion ops (i::rest)::k) cs ds ρ:=fun a hf=>by
 have hp:=evalOp_pu (T:=T) (o:=⟨some d,op,ty,pos,af,gu⟩) (A0k hf) hs hx
 refine S.step Y (g':=G (b.on (a.put (some d) x) (.inRegion ops rest::k)) cs) (fun w=>?_) (h _ (A0x hf (show A2p n (some d)=true from hn)))
 rw [A1u hr,A1u hr,stepG_value (v:=x) (w':=w) ho (A0m hf (A0j hw)) hk (hp w).1]
 unfold listed
 rw [(hp w).2]
 simp [seen_none]
def isMv:Op→Bool
 | .binOp .. | .convert ..=>false
 | _=>true
theorem F_mv{x:Value}(hk:b.kind≠.early)(hr:b.roundOf=none)(ho:ops[i]?=some ⟨some d,op,ty,pos,af,gu⟩)(hm:isMv op=true)(hw:A0p ops gu ρ=some true)(hn:Nat.blt d n=true)(hs:silOp ρ.val op=true)(hx:A1h T ρ.val op=some x)(h:XG R n b (.inRegion ops rest::k) cs ds ((d,x)::ρ)) :
  XG R n b (.inRegion ops (i::rest)::k) cs ds ρ:=A0t T hk hr ho hw hn hs hx h
theorem F_ext{f:FuncId}{fn:Func}{aS:Array Operand}{ats:Array TypeId}{e:Array Value→Sem Value}{x:Value}(hk:b.kind≠.early)(hr:b.roundOf=none)(ho:ops[i]?=some ⟨some d,.call {callee:=.value (.func f),args:=aS,argTypes:=ats },ty,pos,af,gu⟩)(hw:A0p ops gu ρ=some true)(hn:Nat.blt d n=true)
  (E:Ext P f fn e)(hp:∀l,Pu P (e l) x)(h:XG R n b (.inRegion ops rest::k) cs ds ((d,x)::ρ)):XG R n b (.inRegion ops (i::rest)::k) cs ds ρ:=fun a hf=>by
 refine S.step Y (g':=G (b.on (a.put (some d) x) (.inRegion ops rest::k)) cs) (fun w=>?_) (h _ (A0x hf (show A2p n (some d)=true from hn)))
 rw [A1u hr,A1u hr]
 exact stepG_entry ho (A0m hf (A0j hw)) hk Y E.hf E.hname E.hb E.hn E.he ((hp _) w).1 (by rw [((hp _) w).2];simp) sM
theorem F_defer{f:FuncId}{aS:Array Operand}{ats:Array TypeId}{xs:List Value}(hk:b.kind≠.early)(hr:b.roundOf=none)(ho:ops[i]?=some ⟨none,.defer {callee:=.value (.func f),args:=aS,argTypes:=ats },ty,pos,af,gu⟩)(hw:A0p ops gu ρ=some true)
  (hxs:A2s ρ.val aS.toList=some xs)(h:XG R n b (.inRegion ops rest::k) cs (dcall f xs.toArray::ds) ρ):XG R n b (.inRegion ops (i::rest)::k) cs ds ρ:=fun a hf=>by
 have ha:aS.map a.eval=xs.toArray:=Array.toList_inj.1 (by simpa using A2c (A0k hf) hxs)
 have hwt:=A0m (o:=⟨none,.defer {callee:=.value (.func f),args:=aS,argTypes:=ats },ty,pos,af,gu⟩) hf (A0j hw)
 refine S.step Y (g':=G (b.on ⟨a.tmps,dcall f xs.toArray::a.defers⟩ (.inRegion ops rest::k)) cs) (fun w=>?_) (h _ ⟨hf.size,by show _::_=_::_;rw [hf.defers],hf.get⟩)
 rw [A1u hr,A1u hr,stepG_defer ho hwt hk Y,ha]
 rfl
theorem A6o{f:Operand}{args:Array Operand}{ats:Array TypeId}{g:FuncId}{fn:Func}{c:Code}{first captured:Array Value}{xs ys:List Value}(hk:b.kind≠.early)(hr:b.roundOf=none)(ho:ops[i]?=some ⟨some d,.call {callee:=.value f,args:=args,argTypes:=ats },ty,pos,af,gu⟩)(hw:A0p ops gu ρ=some true)(hn:Nat.blt d n=true)
  (hf:ρ.val f=some (.func (.func g) first captured))(hxs:A2s ρ.val args.toList=some xs)(hfn:P.funcs[g]?=some fn)(hb:fn.body=some c)(hnm:fn.name≠ "runtime.NumGoroutine")(hys:first.toList++xs++captured.toList=ys)
  (h:∀cf:Frame,cf.mode = .run→(∀(R':Goroutine→Prop) (x:Value),XG R' n b (.inRegion ops rest::k) cs ds ((d,x)::ρ)→R' (G (cf.finish x) cs))→R (G (Frame.enter P g ys.toArray .normal) (cf::cs))) :
  XG R n b (.inRegion ops (i::rest)::k) cs ds ρ:=fun a hfit=>by
 have ha:args.map a.eval=xs.toArray:=Array.toList_inj.1 (by simpa using A2c (A0k hfit) hxs)
 have hwt:=A0m (o:=⟨some d,.call {callee:=.value f,args:=args,argTypes:=ats },ty,pos,af,gu⟩) hfit (A0j hw)
 have hst:=fun w=>A2a (P:=P) (mn:=⟨main,false⟩) (b:=b) (k:=k) (cs:=cs) (w:=w) (rest:=rest) ho hwt (.inl hr)
 have hk':((b.on a (.inRegion ops (i::rest)::k)).kind==CallKind.early)=false:=by simpa [Frame.on]using hk
 have hsem:∀w,(execOp a.eval ⟨some d,.call {callee:=.value f,args:=args,argTypes:=ats },ty,pos,af,gu⟩).runT P w #[]=(.ok (.enter g ys.toArray) w,#[]):=fun w=>by
  have e1:execOp a.eval ⟨some d,.call {callee:=.value f,args:=args,argTypes:=ats },ty,pos,af,gu⟩=callFunc g ys.toArray:=by
   have:(first++xs.toArray++captured:Array Value)=ys.toArray:=by rw [←hys];apply Array.ext';simp
   unfold execOp
   simp [resolve,Deferred.ofValue,invoke,A0k hfit _ _ hf,ha,←this]
  rw [e1]
  unfold callFunc
  show Sem.runT P (Sem.bind _ _) w #[]=_
  simp only [program,Sem.bind,Sem.runT,hfn]
  rw [if_neg (by simpa using hnm),if_neg (by simp [hb])]
  try rfl
 refine S.step Y (g':=G (Frame.enter P g ys.toArray .normal) (b.on a (.inRegion ops (i::rest)::k)::cs)) (fun w=>?_) (h _ Y fun R' x hx=>?_)
 ·have hst:=hst w
  dsimp only at hst
  rw [hst]
  unfold stepG.apply
  simp only [if_true,hsem w,hk',Bool.false_eq_true,if_false]
  rfl
 ·rw [A2g b a ops i rest k _ x ho]
  exact hx _ (A0x hfit (show A2p n (some d)=true from hn))
omit S in
theorem A2y{g:FuncId}{fn:Func}{c:Code}{ys:List Value}(hfn:P.funcs[g]?=some fn)(hb:fn.body=some c)(hle:ys.length≤fn.ntmps)
  {kd:CallKind}(h:∀bf:Frame,bf.kind=kd→bf.roundOf=none→bf.fn=g→XG R fn.ntmps bf [.code c] cs [] (A2l 0 ys)):R (G (Frame.enter P g ys.toArray kd) cs):=by
 let bf:Frame:={fn:=g,tmps:=#[],todo:=[],defers:=[],mode:=.run,kind:=kd }
 have henter:Frame.enter P g ys.toArray kd=bf.on {tmps:=ys.toArray++Array.replicate (fn.ntmps-ys.length) undef,defers:=[] } [.code c]:=by
  simp [Frame.enter,Frame.on,hfn,hb,bf]
 rw [henter]
 refine h bf Y Y Y _ ⟨?_,Y,?_⟩
 ·simp;omega
 ·have key:∀(l:List Value) (i t:Nat) (x:Value),(A2l i l).get t=some x→i≤t∧l[t-i]?=some x:=by
   intro l
   induction l with
   | nil=>intro i t x h;simp [A2l,Regs.get]at h
   | cons y l ih=>
    intro i t x h
    simp only [A2l,Regs.get]at h
    cases hb:Nat.beq i t with
    | true=>
     rw [hb]at h
     have:=Nat.eq_of_beq_eq_true hb
     subst this
     simp only [cond_true]at h
     exact⟨Nat.le_refl _,by simpa using h⟩
    | false=>
     rw [hb]at h
     obtain⟨h1,h2⟩:=ih (i+1) t x h
     refine⟨oM,?_⟩
     rw [show t-i=(t-(i+1))+1 by omega]
     simpa using h2
  intro t x hx
  obtain⟨_,h2⟩:=key ys 0 t x hx
  simp only [Nat.sub_zero]at h2
  obtain⟨hlt,_⟩:=List.getElem?_eq_some_iff.1 h2
  rw [Array.getElem?_append_left (by simpa using hlt)]
  simpa using h2
theorem F_end(hr:b.roundOf=none)(h:XB R n b [] cs ds ρ):XG R n b [] cs ds ρ:=fun a hf=>
 S.step rfl (g':=G (b.out a []) cs) (fun w=>by simp [G,stepG,stepG.exec,Frame.on,Frame.out,hr]) (h a hf)
theorem A6p(hr:b.roundOf=none)(h:XB R n b (.code .ret::k) cs ds ρ):XG R n b (.code .ret::k) cs ds ρ:=fun a hf=>
 S.step rfl (g':=G (b.out a (.code .ret::k)) cs) (fun w=>by simp [G,stepG,stepG.exec,Frame.on,Frame.out,hr]) (h a hf)
theorem B_ret{fn:Func}{cf:Frame}(hk:b.kind = .normal)(hfn:P.funcs[b.fn]?=some fn)(hres:fn.results=#[])(h:R (G (cf.finish (.tuple #[])) cs)):XB R n b k (cf::cs) [] ρ:=fun a hf=>
 S.step rfl (g':=G (cf.finish (.tuple #[])) cs) (fun w=>by
  have h1:=hf.defers
  simp only at h1
  simp [G,stepG,unwind,Frame.out,Frame.on,h1,hfn,results,hres,doReturn,hk,GStep.after,seen_none,Sem.runT,Sem.bind]) h
theorem A7e{fn:Func}{cf:Frame}{t:Nat}{x:Value}(hk:b.kind = .normal)(hfn:P.funcs[b.fn]?=some fn)(hres:fn.results=#[.tmp t])(hx:ρ.get t=some x)(h:R (G (cf.finish x) cs)):XB R n b k (cf::cs) [] ρ:=fun a hf=>
 S.step rfl (g':=G (cf.finish x) cs) (fun w=>by
  have h1:=hf.defers
  have h2:=hf.get t x hx
  simp only at h1
  simp [G,stepG,unwind,Frame.out,Frame.on,h1,hfn,results,hres,h2,doReturn,hk,GStep.after,seen_none,Sem.runT,Sem.bind]) h
theorem B_retD{fn:Func}{cf:Frame}(hk:b.kind = .deferred)(hfn:P.funcs[b.fn]?=some fn)(hres:fn.results=#[])(hc:cf.mode = .returning)(h:R (G cf cs)):XB R n b k (cf::cs) [] ρ:=fun a hf=>
 S.step rfl (g':=G cf cs) (fun w=>by
  have h1:=hf.defers
  simp only at h1
  simp [G,stepG,unwind,Frame.out,Frame.on,h1,hfn,results,hres,doReturn,hk,hc,GStep.after,seen_none,Sem.runT,Sem.bind]) h
theorem B_retG{fn:Func}{cf:Frame}(hk:b.kind = .deferred)(hfn:P.funcs[b.fn]?=some fn)(hres:fn.results=#[])(hc:cf.mode = .panicking [goexitEntry])(h:R (G cf cs)):XB R n b k (cf::cs) [] ρ:=fun a hf=>
 S.step rfl (g':=G cf cs) (fun w=>by
  have h1:=hf.defers
  simp only at h1
  simp [G,stepG,unwind,Frame.out,Frame.on,h1,hfn,results,hres,doReturn,hk,hc,goexitEntry,GStep.after,seen_none,Sem.runT,Sem.bind]) h
theorem B_enter{f:FuncId}{fn:Func}{c:Code}{args:Array Value}(hr:b.roundOf=none)(hf':P.funcs[f]?=some fn)(hname:(fn.name == "runtime.NumGoroutine")=false)(hb:fn.body=some c)
  (h:∀cf:Frame,cf.mode = .returning→(∀R':Goroutine→Prop,XB R' n b k cs ds ρ→R' (G cf cs))→R (G (Frame.enter P f args .deferred) (cf::cs))):XB R n b k cs (dcall f args::ds) ρ:=fun a hf=>by
 refine S.step Y (g':=G (Frame.enter P f args .deferred) (b.out ⟨a.tmps,ds⟩ k::cs)) (fun w=>?_) (h _ Y fun R' hx=>hx _ ⟨hf.size,Y,hf.get⟩)
 have:=stepG_unwind_enter (main:=main) (b:=b) (a:=a) (cs:=cs) (w:=w) (todo:=k) (ds:=ds) (args:=args) hf.defers hf' hname hb
 simp only [Frame.out,A1u hr]
 rw [this,enter_atD args hf' hb]
end
section
variable{P:Program}{mn:Who}{W:World→Prop}{Stop:View→Goroutine→Prop}{n:Nat}{b:Frame}{k:List Item}{cs:List Frame}{ρ:Regs}{v:View}{ds:List Deferred}
abbrev XF(P:Program)(main:Bool)(W:World→Prop)(Stop:View→Goroutine→Prop)(n:Nat)(b:Frame)(its:List Item)(cs:List Frame)(ds:List Deferred)(ρ:Regs)(v:View):Prop:=XG (RunW P main W Stop v) n b its cs ds ρ
variable{ops:Array Oper}{i:Nat}{rest:List Nat}{d:Nat}{op:Op}{ty:TypeId}{pos:String}{af:Array Edge}{gu:Option (Nat×Bool)}
variable(T:Tab P)
end
section
variable{P:Program}{mn:Who}{Stop:View→Goroutine→Prop}{v:View}
theorem run_defer{fr:Frame}{cs:List Frame}{k:FuncId}{fn:Func}{args:Array Value}{ds:List Deferred}(hm:fr.mode = .returning∨∃ch,fr.mode = .panicking ch)(hd:fr.defers=dcall k args::ds)
  (hf:P.funcs[k]?=some fn)(hname:fn.name≠ "runtime.NumGoroutine")(hb:¬fn.body=none)(h:Run P mn Stop v (G (Frame.enter P k args .deferred) ({fr with defers:=ds }::cs))):Run P mn Stop v (G fr cs):=by
 refine Run.ctl Y (fun w=>?_) h
 rcases hm with hm|⟨ch,hm⟩<;>simp [G,stepG,hm,unwind,hd,dcall,callDeferred,invoke,callFunc,hf,hname,hb,GStep.after,seen_none]
theorem A8j{fr:Frame}{cs:List Frame}{r:Nat}{ds:List Deferred}(hm:fr.mode = .returning)(hd:fr.defers={target:=.collected r,args:=#[] }::ds)(hr:v r=some (true,.deferred (some [])))
  (h:Run P mn Stop (v.set r true (.deferred none)) (G {fr with defers:=ds } cs)):Run P mn Stop v (G fr cs):=by
 refine A5s (m:=Instr.takeDeferred r) (K:=fun l u=>l=[]∧u=v.set r true (.deferred none)) (E:=fun _ _=>False) Y ?_ (fun l u hl=>?_) (fun x v' hx=>hx.elim)
 ·unfold Instr.takeDeferred
  rw [A0a]
  refine A9h hr Y Y ?_
  rw [A0a]
  exact A6t hr Y Y ⟨Y,Y⟩
 ·obtain⟨rfl,rfl⟩:=hl
  refine⟨G {fr with defers:=ds } cs,fun w w' es hrun=>⟨seen P fr.fn es++#[],?_,fun e he=>mem_seen (by simpa using he)⟩,h⟩
  have h1:stepG P mn.main (G fr cs) w=unwind P mn.main fr cs none w:=by simp [G,stepG,hm]
  rw [h1]
  unfold unwind
  simp only [hd,hrun]
  rfl
theorem B1y{fn:Func}{β:A0e}{args:List Value}(hn:args.length≤fn.ntmps):Fits fn.ntmps ⟨[],A2l 0 args,β⟩ {tmps:=args.toArray++Array.replicate (fn.ntmps-args.toArray.size) undef,defers:=[] }:=by
 refine⟨by simp;omega,Y,?_⟩
 have key:∀(l:List Value) (i t:Nat) (x:Value),(A2l i l).get t=some x→i≤t∧l[t-i]?=some x:=by
  intro l
  induction l with
  | nil=>intro i t x h;simp [A2l,Regs.get]at h
  | cons y l ih=>
   intro i t x h
   simp only [A2l,Regs.get]at h
   cases hb:Nat.beq i t with
   | true=>
    rw [hb]at h
    have:=Nat.eq_of_beq_eq_true hb
    subst this
    simp only [cond_true]at h
    exact⟨Nat.le_refl _,by simpa using h⟩
   | false=>
    rw [hb]at h
    obtain⟨h1,h2⟩:=ih (i+1) t x h
    refine⟨oM,?_⟩
    rw [show t-i=(t-(i+1))+1 by omega]
    simpa using h2
 intro t x hx
 obtain⟨_,h2⟩:=key args 0 t x hx
 simp only [Nat.sub_zero]at h2
 obtain⟨hlt,_⟩:=List.getElem?_eq_some_iff.1 h2
 rw [Array.getElem?_append_left (by simpa using hlt)]
 simpa using h2
variable(T:Tab P)
theorem B1j{n:Nat}{fn:Func}{R:End→A0e→Prop}{a:Act}{ds:List Deferred}{ρ:Regs}{β β'':A0e}{u w:View}{xs:List Value}(hf':Fits n ⟨ds,ρ,β⟩ a)(hb':Bok β u)(hl:(u.union (A0c β)).Le w)(hr:ResL T ρ β fn.results.toList xs)(hR:R (.ret (A3t xs)) β'')(hB:Back v β'' u β) :
  SemX P (results fn a.tmps) (fun x v'=>∃β',R (.ret x) β'∧Bok β' v∧(v.union (A0c β')).Le v') (fun _ _=>False) w:=by
 obtain⟨h1,h2⟩:=hB hb'
 unfold results
 rw [A0a,Array.mapM_eq_mapM_toList,sx_map]
 refine sx_resL T hf' hb' hl hr ?_
 rw [A0h]
 refine⟨β'',?_,h1,h2.trans hl⟩
 match xs,hR with
 | [],hR=>simpa [A3t]using hR
 | [x],hR=>simpa [A3t]using hR
 | x::y::r,hR=>simpa [A3t]using hR
end
section
variable{P:Program}{mn:Who}{v:View}
theorem RoundX.mono{l:Nat}{f:FuncId}{tmps:Array Value}{assign body:Code}{R R':End→View→Prop}(h:RoundX P mn l f tmps assign body R v)(hq:∀e v,R e v→∃u,u.Le v∧R' e u):RoundX P mn l f tmps assign body R' v:=fun Stop c cs hc hk=>
 h Stop c cs hc fun e v' hR=>by
  obtain⟨u,hl,hR'⟩:=hq e v' hR
  exact(hk e u hR').weaken hl
end
end Go.Pal
end
