/- Part 13. -/
import Derived.Conc.CrowdComm
import Derived.Conc.TokenTrace
import Derived.Test.YtclejblcnfaeaaaGreatDoorPal
set_option linter.all false
section
namespace Go.Proofs.YtclejblcnfaeaaaGreatDoor
open Go Go.Pal Go.Pal.To Go.Conc View
open Go.Proofs.Tryz
set_option maxHeartbeats 4000000
set_option maxRecDepth 20000
section
variable{mn:Who}{v:View}
theorem waysF_x{y1 y2 y3 y4:Value}(hd:∃p,y1 = .pointer p):CallsB prog mn 103 #[.agg (List.toArray [y1,y2,y3]),y4] (RetB fun r β'=>∃b2 b3,r = .func (.func 142) #[] (List.toArray [.pointer (some ⟨b2,0,none⟩),.pointer (some ⟨b3,0,none⟩)])∧β'=[(b3,y4.cells,22),(b2,List.toArray [y1,y2,y3],179)]) [] v:=by
 refine A0d tab func103 Y nB (args:=[_,_]) ?_
 refine sw fun bx=>?_;refine sw fun bx=>?_
 rename_i b2
 refine A0f tab [(bx,y4.cells,22),(b2,List.toArray [y1,y2,y3],179)] (by exact .tmp rfl .nil) (Back.here cntL) ?_
 exact⟨b2,bx,Y,Y⟩
end
section
variable{mn:Who}{R:List Wy→View→Goroutine→Prop}[hR:∀s,Abs prog mn (R s)]{V0:View}{l:Nat}{lp:Loop}{t:Bool}{bd bm dd:Nat}{a b:List MA}{g os:List Int}{H:Nat}
theorem Takes.le{V1:View}(h:Takes R V0 l lp t)(hl:V0.Le V1):Takes R V1 l lp t:=fun w s u β y cf cs h1 h2 h3 h4 h5=>h w s u β y cf cs (hl.trans h1) h2 h3 h4 h5
include hR in
theorem ways1_x(hd:∃p f aA cA aB cB,V0 bd=some (p,.cells (List.toArray [.pointer (some ⟨dd,0,none⟩),.slice aA a.length cA,.slice aB b.length cB]) 179 f)∧ActsAt V0 aA a∧ActsAt V0 aB b)
  (hday:∃p f x0 x1,V0 dd=some (p,.cells (owC x0 x1 os) 106 f))(hm:∃p f aG cG,V0 bm=some (p,.cells (List.toArray [.slice aG g.length cG]) 22 f)∧RowAt V0 aG (g.map intV))
  (hl0:V0 l=some (true,.loop lp))(hsz:lp.params.size=1)(hT:Takes R V0 l lp t)(hla:a.length+b.length<2^20)(hfa:FitW H a)(hfb:FitW H b)(hH:H≤3)(hos:os.length=H)
  {s:List Wy}{u:View}{cf:Frame}{fs:List Frame}(hu:V0.Le u)(hcf:cf.mode = .run)
  (hend:R (endS t (A3e g a b ⟨[],[],os⟩) s) (aft l lp (endB t (A3e g a b ⟨[],[],os⟩)) u) (G (cf.finish (.tuple #[])) fs)) :
  R (A3e g a b ⟨[],[],os⟩++s) u (G (Frame.enter prog 142 (List.toArray [.func (.yield l) #[] #[],.pointer (some ⟨bd,0,none⟩),.pointer (some ⟨bm,0,none⟩)]) .normal) (cf::fs)):=by
 refine A2y (ys:=[_,_,_]) func142 Y nB fun bb hbn hbr hbf=>?_
 have hbk:bb.kind≠.early:=by rw [hbn];simp
 refine gn ?_
 refine R_co0 hbk ?_
 refine sw fun bx=>?_
 refine A0y fun hβ1=>?_
 obtain⟨b3,rfl⟩:∃b:Nat,b=bx:=⟨bx,rfl⟩
 refine gn ?_
 refine R_co hbk hβ1 ?_
 refine sw fun bx=>?_
 refine A0y fun hβ2=>?_
 obtain⟨b4,rfl⟩:∃b:Nat,b=bx:=⟨bx,rfl⟩
 refine gn ?_
 refine R_co hbk hβ2 ?_
 refine su ?_
 refine A0y fun hβ3=>?_
 have hβ3':Bok [(b4,List.toArray [.func (.func 143) #[] (capA bd b3 bm b4)],247),(b3,List.toArray [.func (.yield l) #[] #[]],246)] u:=hβ3
 change XG (R _ (u.union (A0c [(b4,List.toArray [.func (.func 143) #[] (capA bd b3 bm b4)],247),(b3,List.toArray [.func (.yield l) #[] #[]],246)]))) _ _ _ _ _ _
 have hv3:=A0q hβ3' (b:=b3) (c:=List.toArray [.func (.yield l) #[] #[]]) (t:=246) ib
 have hv4:=A0q hβ3' (b:=b4) (c:=List.toArray [.func (.func 143) #[] (capA bd b3 bm b4)]) (t:=247) ib
 have hu1:=A0g u (A0c [(b4,List.toArray [.func (.func 143) #[] (capA bd b3 bm b4)],247),(b3,List.toArray [.func (.yield l) #[] #[]],246)])
 generalize u.union (A0c [(b4,List.toArray [.func (.func 143) #[] (capA bd b3 bm b4)],247),(b3,List.toArray [.func (.yield l) #[] #[]],246)])=u1 at *
 clear hβ1 hβ2 hβ3 hβ3'
 obtain⟨p1,f1,aA,cA,aB,cB,hd1,hda,hdb⟩:=hd
 obtain⟨p2,f2,x0,x1,hd2⟩:=hday
 obtain⟨p3,f3,aG,cG,hm1,hm2⟩:=hm
 have h01:=hu.trans hu1
 have hcap:Cap u1 bd b3 bm b4 l a b g:=⟨⟨p1,f1,dd,aA,cA,aB,cB,h01 _ _ hd1,hda.le h01,hdb.le h01⟩,⟨_,_,hv3⟩,⟨p3,f3,aG,cG,h01 _ _ hm1,hm2.le h01⟩,⟨_,_,hv4⟩⟩
 refine gn ?_
 have e0:u1.union (A0c [])=u1:=A1r _
 rw [←e0]
 refine R_drawJ 8 hbk (A4c _) A1e kR ?_
 change XL _ _ _ _ _ [_,_,_,_,_,_,_,_] _ _
 refine su ?_
 refine A4l tab Y Y Y hv4 (A0l tab Y Y Y Y) ?_
 refine su ?_
 refine A4l tab Y Y Y (h01 _ _ hd1) (A0l tab Y Y Y Y) ?_
 refine su ?_
 refine A4l tab Y Y Y (h01 _ _ hd2) (A1g tab (x:=[intV (ow os 0),intV (ow os 1),intV (ow os 2)]) Y Y Y ⟨Nat.le_of_ble_eq_true Y,Y⟩) ?_
 refine su ?_
 refine A0y fun _=>?_
 rw [e0]
 refine A6o (ys:=[_,_,_,_,_,_]) hbk hbr Y Y Y Y Y func143 Y dM Y fun cf' hcm' hfin'=>?_
 have hx:=from_x (R:=R) hcap (h01 _ _ hl0) hsz (hT.le h01) hla hfa hfb hH (a.length+b.length) 0 0 ⟨[],[],os⟩ s u1 [] (.agg (wyC none 0 none 0 ⟨[],[],os⟩).toArray) cf' (cf::fs) (Nat.zero_le _) (Nat.zero_le _) (Nat.le_refl _) Y (by simp;omega) hos (Le.refl _) (A4c _) ⟨[],[],none,0,none,0,Y,Y,.nil,.nil⟩ hcm'
 rw [e0]at hx
 refine hx (hfin' _ _ ?_)
 refine gn ?_
 refine F_end hbr (B_ret hbn (by rw [hbf];exact func142) Y ?_)
 exact Abs.le hend (aft_le hu1)
end
end Go.Proofs.YtclejblcnfaeaaaGreatDoor
end
section
namespace Go.Pal.K
open Go Go.Conc Go.Pal View
open Go.ConcN (sumTo upd sumTo_upd upd_ne upd_same)
inductive Pl where
 | own
 | at(a:Addr)
 | know(j:Nat)
 | shut
structure Proto where
 G:Type
 T:Type
 M:Type
 th:G→Nat→Option T
 ok:G→Prop
 size:G→Nat
 rank:G→Nat
 sh:G→View
 atb:G→Nat→Prop
 usr:G→Nat→Nat→Prop
 say:G→Nat→Nat
 lock:Nat→Addr
 deaf:T→Nat
 rel:T→Bool
 tok:G→Nat→Pl
 blocks:G→Nat→Prop
 wakes:T→Bool
 ch:Nat
 shut:G→Bool
 msg:M→Value→View→Prop
 snd:T→Option M
 rcv:T→Bool
 nxt:T→T
 got:T→M→T
 fin:T→T
 cmm:G→Nat→Nat→G
 fnd:G→Nat→G
 over:G→Prop
 tr:G→Nat→G→Prop
abbrev closeE(c:Nat):Array Event:=#[⟨.obj c,false,true⟩,⟨.obj c,true,true⟩]
def EvS(Pr:Proto)(γ:Pr.G)(i B:Nat)(e:Event):Prop:=
 match e with
 | ⟨.mark .disable,_,_⟩|⟨.mark .enable,_,_⟩=>True
 | ⟨.mark (.acquire a),_,_⟩|⟨.mark (.releaseMerge a),_,_⟩=>a.block<B
 | ⟨.mark (.read a),_,_⟩|⟨.mark (.write a),_,_⟩=>Pr.say γ a.block=i∧Pr.atb γ a.block∧Pr.usr γ a.block i∧a.block<B
 | ⟨.cell a,_,true⟩=>Pr.atb γ a.block∧Pr.usr γ a.block i∧a.block<B
 | ⟨.obj c,_,true⟩=>Pr.atb γ c∧Pr.usr γ c i∧c<B
 | _=>False
theorem evS_touch{Pr:Proto}{γ:Pr.G}{i B:Nat}{e:Event}{x:Touch}(h:EvS Pr γ i B e)(hx:(MemAct.ofEvent e).touch?=some x):Pr.atb γ (blk x.loc)∧Pr.usr γ (blk x.loc) i∧((∃a,x.loc = .cell a)∨∃c wr,e=⟨.obj c,wr,true⟩)∧(x.kind = .atomic∨(x.kind = .said∧Pr.say γ (blk x.loc)=i)):=by
 obtain⟨l,wr,sy⟩:=e
 cases l with
 | cell a=>
  cases sy
  ·exact h.elim
  ·have:MemAct.ofEvent ⟨.cell a,wr,true⟩ = .access ⟨.cell a,wr,true⟩:=rfl
   rw [this]at hx
   simp only [MemAct.touch?,Option.some.injEq]at hx
   subst hx
   exact⟨h.1,h.2.1,.inl ⟨a,Y⟩,.inl Y⟩
 | mark m=>
  cases m<;>simp only [MemAct.ofEvent,MemAct.touch?]at hx<;>first|(cases hx;done)|(simp only [Option.some.injEq]at hx;subst hx;exact⟨h.2.1,h.2.2.1,.inl ⟨_,rfl⟩,.inr ⟨rfl,h.1⟩⟩)
 | obj r=>
  cases sy
  ·exact h.elim
  ·cases wr
   ·have:MemAct.ofEvent ⟨.obj r,false,true⟩ = .access ⟨.obj r,false,true⟩:=rfl
    rw [this]at hx
    simp only [MemAct.touch?,Option.some.injEq]at hx
    subst hx
    exact⟨h.1,h.2.1,.inr ⟨r,false,Y⟩,.inl Y⟩
   ·have:MemAct.ofEvent ⟨.obj r,true,true⟩ = .close r:=rfl
    rw [this]at hx
    cases hx
 | output=>exact h.elim
 | goroutines=>exact h.elim
theorem evS_low{Pr:Proto}{γ:Pr.G}{i B:Nat}{e:Event}(h:EvS Pr γ i B e):(MemAct.ofEvent e).low B:=by
 obtain⟨l,wr,sy⟩:=e
 cases l with
 | cell a=>
  cases sy
  ·exact h.elim
  ·exact h.2.2
 | mark m=>cases m<;>first|trivial|exact h|exact h.2.2.2|exact h.elim
 | obj r=>
  cases sy
  ·exact h.elim
  ·cases wr
   ·exact h.2.2
   ·exact h.2.2
 | output=>exact h.elim
 | goroutines=>exact h.elim
theorem evS_norel{Pr:Proto}{γ:Pr.G}{i B:Nat}{e:Event}(h:EvS Pr γ i B e)(A:Addr):MemAct.ofEvent e≠.mark (.release A):=by
 obtain⟨l,wr,sy⟩:=e
 intro he
 cases l with
 | mark m=>simp only [MemAct.ofEvent,MemAct.mark.injEq]at he;subst he;exact h.elim
 | obj r=>
  cases sy
  ·exact h.elim
  ·cases wr<;>cases he
 | cell a=>
  cases sy
  ·exact h.elim
  ·have:MemAct.ofEvent ⟨.cell a,wr,true⟩ = .access ⟨.cell a,wr,true⟩:=rfl
   rw [this]at he;cases he
 | output=>exact h.elim
 | goroutines=>exact h.elim
def Ended(t:Trace)(i p:Nat):Prop:=∀k,t.g? k=some i→t.counts k→Before t k p
def TokOk(Pr:Proto)(γ:Pr.G)(t:Trace)(i:Nat):Pl→Prop
 | .own=>∃τ,Pr.th γ i=some τ∧Pr.rel τ=false
 | .at A=>∃p,t.act? p=some (.mark (.releaseMerge A))∧t.heard p∧Ended t i p
 | .know j=>∀k,t.g? k=some i→t.counts k→Knows t j k
 | .shut=>∃p,t.act? p=some (.close Pr.ch)∧t.heard p∧Ended t i p
structure TI(Pr:Proto)(base:Nat)(S:Nat→Prop)(γ:Pr.G)(vs:Nat→View)(B:Nat)(t:Trace):Prop where
 nr:∀said,¬Race said t
 own:∀i k a,touchAt t k=some a→a.loc.isMemory=true→(vs i).Owns (blk a.loc)→Knows t i k
 rd:∀i k a,touchAt t k=some a→a.loc.isMemory=true→vs i (blk a.loc)≠none→a.write=true→Knows t i k
 ato:∀k a,touchAt t k=some a→Pr.atb γ (blk a.loc)→a.loc.isMemory=true→a.kind = .atomic∨(a.kind = .said∧Knows t (Pr.say γ (blk a.loc)) k)∨∀i,Pr.usr γ (blk a.loc) i→Knows t i k
 gd:∀k a,touchAt t k=some a→a.loc.isMemory=true→Pr.sh γ (blk a.loc)≠none→¬Pr.atb γ (blk a.loc)→(∀i,Pr.usr γ (blk a.loc) i→Knows t i k)∨∃p,t.act? p=some (.mark (.releaseMerge (Pr.lock (blk a.loc))))∧t.heard p∧Before t k p
 norel:NoRel t
 low:∀op∈t,op.act.low B
 deaf:∀i τ,Pr.th γ i=some τ→Deaf t i=Pr.deaf τ
 f1:∀k a,touchAt t k=some a→a.loc.isMemory=true→Knows t 0 k∨(ShunL (fun b=>S b∨Pr.atb γ b) a.loc∧a.kind = .atomic)∨(∃i,base≤i∧i<Pr.size γ∧t.g? k=some i∧t.counts k)
 f2:∀k g,t.g? k=some g→g≠0→t.counts k→(∃j,t.g? j=some 0∧HappensBefore t k j)∨(base≤g∧g<Pr.size γ)
 tok:∀i,base≤i→i<Pr.size γ→TokOk Pr γ t i (Pr.tok γ i)
theorem nocount_mute{t:Trace}{k:Nat}{fn:FuncId}{pos:String}{es:Array Event}
  (hes:∀j e,es[j]?=some e→(MemAct.ofEvent e).touch?=none∨((∃ad wr,e=⟨.cell ad,wr,true⟩)∧0<deafBehind (Deaf t k) (es.extract 0 j))){i:Nat}(hi:t.size≤i):¬(t++MemOp.ofEvents k fn pos es).counts i:=by
 intro hc
 obtain⟨x,hx,_,hk⟩:=hc
 obtain⟨act,hact,hxt⟩:=Option.bind_eq_some_iff.1 hx
 obtain⟨op,ho,rfl⟩:=Option.map_eq_some_iff.1 hact
 have hj:(MemOp.ofEvents k fn pos es)[i-t.size]?=some op:=by
  rw [Array.getElem?_append]at ho
  simpa [Nat.not_lt.2 hi]using ho
 rw [ofEvents_eq,Array.getElem?_map]at hj
 obtain⟨e,he,rfl⟩:=Option.map_eq_some_iff.1 hj
 have hjs:i-t.size≤es.size:=by
  rcases Nat.lt_or_ge (i-t.size) es.size with h'|h'
  ·omega
  ·rw [Array.getElem?_eq_none h']at he;cases he
 rcases hes _ e he with h0|⟨⟨ad,wr,rfl⟩,hd⟩
 ·simp only at hxt;rw [h0]at hxt;cases hxt
 ·have hxk:x.kind = .atomic:=by
   cases wr<;>simp [MemAct.ofEvent,MemAct.touch?]at hxt<;>subst hxt<;>rfl
  rcases hk with hk|⟨g,hg,hdf⟩
  ·exact hk hxk
  ·have hg1:g=k:=by simp [Trace.g?,ho]at hg;exact hg.symm
   subst hg1
   have:=deaf_inside t g fn pos es (i-t.size) hjs
   rw [show t.size+(i-t.size)=i by omega,hdf]at this
   omega
theorem Ended.app{t u:Trace}{i p:Nat}(h:Ended t i p)(hu:∀k,t.size≤k→(t++u).g? k=some i→¬(t++u).counts k):Ended (t++u) i p:=fun k hk hc=>by
 rcases Nat.lt_or_ge k t.size with hlt|hge
 ·exact(h k (by rw [←g?_old (u:=u) hlt];exact hk) ((counts_old hlt).1 hc)).app u
 ·exact absurd hc (hu k hge hk)
theorem g_not{t u:Trace}{i j k:Nat}(hu:∀op∈u,op.g=i)(hne:j≠i)(hk:t.size≤k)(hg:(t++u).g? k=some j):False:=by
 rcases B1x hg with ⟨h1,_⟩|⟨_,op,h2,h3⟩
 ·omega
 ·exact hne (h3.symm.trans (hu op h2))
section
variable{Pr:Proto}{γ γ':Pr.G}{t u:Trace}{j:Nat}{pl:Pl}
theorem TokOk.app(h:TokOk Pr γ t j pl)(hth:pl = .own→∃σ,Pr.th γ' j=some σ∧Pr.rel σ=false)(hu:pl≠.own→∀k,t.size≤k→(t++u).g? k=some j→¬(t++u).counts k):TokOk Pr γ' (t++u) j pl:=by
 cases pl with
 | own=>exact hth rfl
 | «at» A=>
  obtain⟨p,h1,h2,h3⟩:=h
  have hp:=lt_of_act? h1
  exact⟨p,by rw [act?_old hp];exact h1,(heard_old hp).2 h2,h3.app (hu sM)⟩
 | know m=>
  intro k hk hc
  rcases Nat.lt_or_ge k t.size with hlt|hge
  ·exact(h k (by rw [←g?_old (u:=u) hlt];exact hk) ((counts_old hlt).1 hc)).app u
  ·exact absurd hc (hu sM k hge hk)
 | shut=>
  obtain⟨p,h1,h2,h3⟩:=h
  have hp:=lt_of_act? h1
  exact⟨p,by rw [act?_old hp];exact h1,(heard_old hp).2 h2,h3.app (hu sM)⟩
end
set_option maxHeartbeats 1000000
section
variable{Pr:Proto}{base:Nat}{S:Nat→Prop}{γ γ':Pr.G}{vs:Nat→View}{lo:Nat}{hi':Nat}{t:Trace}{i:Nat}{τ:Pr.T}{v':View}{fn:FuncId}{pos:String}{es:Array Event}
theorem TI.ownStep(h:TI Pr base S γ vs lo t)(hi:i=0∨(base≤i∧i<Pr.size γ))(hth:Pr.th γ i=some τ)(hrel:i≠0→Pr.rel τ=false)(htok:base≤i→i<Pr.size γ→Pr.tok γ i = .own)(hle:lo≤hi')
    (hev:∀e∈es,EvOk (vs i) lo hi' e)(hdom:∀b,v' b≠none→vs i b≠none∨lo≤b)(hown:∀b,v'.Owns b→(vs i).Owns b∨lo≤b)
    (hlow:∀j b,vs j b≠none→b<lo)(hex:∀j,j≠i→∀b,(vs i).Owns b→vs j b=none)(hex':∀j,j≠i→∀b,(vs j).Owns b→vs i b=none)
    (hsh:∀b,Pr.sh γ b≠none→vs i b=none∧b<lo)(hat:∀b,Pr.atb γ b→vs i b=none∧b<lo) :
    TI Pr base S γ (upd vs i v') hi' (t++MemOp.ofEvents i fn pos es):=by
  have hnew:∀op∈MemOp.ofEvents i fn pos es,∀x,op.act.touch?=some x→x.kind = .plain∧((lo≤blk x.loc∧blk x.loc<hi')∨((x.write=true→(vs i).Owns (blk x.loc))∧vs i (blk x.loc)≠none)):=fun op hop x hx=>by
    obtain⟨e,he,h1,_⟩:=A4w hop
    rw [h1]at hx
    exact evOk_touch (hev e he) hx
  have hg:∀op∈MemOp.ofEvents i fn pos es,op.g=i:=opsG
  have hvlo:∀b,vs i b≠none→b<lo:=hlow i
  have oldlow:∀k a,touchAt t k=some a→a.loc.isMemory=true→blk a.loc<lo:=fun k a ha hm=>touch_low h.low ha hm
  refine⟨fun said=>noRace_append (h.nr said) hg fun k a ha op hop b hb' hc=>?_,fun j k a ha hm hO=>?_,fun j k a ha hm hO hw=>?_,fun k a ha hA hm=>?_,fun k a ha hm hS hA=>?_,h.norel.app (norel_ok hev),fun op hop=>?_,fun j σ hj=>?_,fun k a ha hm=>?_,fun k g hk hg0 hc=>?_,fun j hj1 hj2=>?_⟩
  · obtain⟨hl,hm,hw,_⟩:=hc
    obtain⟨_,hcase⟩:=hnew op hop b hb'
    have hlt:=oldlow k a ha hm
    rw [hl]at hlt
    rcases hcase with ⟨x,_⟩|⟨x,y⟩
    · omega
    · rcases hw with hw|hw
      · exact h.rd i k a ha hm (by rw [hl];exact y) hw
      · exact h.own i k a ha hm (by rw [hl];exact x hw)
  · rcases A1x ha with ⟨_,ha'⟩|⟨_,op,hop,hoa,hok⟩
    · by_cases hj:j=i
      · subst hj
        rw [upd_same]at hO
        rcases hown _ hO with x|x
        · exact(h.own j k a ha' hm x).app _
        · exact absurd (oldlow k a ha' hm) oM
      · rw [upd_ne vs v' hj]at hO
        exact(h.own j k a ha' hm hO).app _
    · by_cases hj:j=i
      · have:=knows_own hok
        rw [hg op hop]at this
        rw [hj];exact this
      · rw [upd_ne vs v' hj]at hO
        obtain⟨o,ho⟩:=hO
        exfalso
        rcases (hnew op hop a hoa).2 with ⟨x,_⟩|⟨_,y⟩
        · have:=hlow j (blk a.loc) (by rw [ho];simp);omega
        · exact y (hex' j hj _ ⟨o,ho⟩)
  · rcases A1x ha with ⟨_,ha'⟩|⟨_,op,hop,hoa,hok⟩
    · by_cases hj:j=i
      · subst hj
        rw [upd_same]at hO
        rcases hdom _ hO with x|x
        · exact(h.rd j k a ha' hm x hw).app _
        · exact absurd (oldlow k a ha' hm) oM
      · rw [upd_ne vs v' hj]at hO
        exact(h.rd j k a ha' hm hO hw).app _
    · by_cases hj:j=i
      · have:=knows_own hok
        rw [hg op hop]at this
        rw [hj];exact this
      · rw [upd_ne vs v' hj]at hO
        exfalso
        rcases (hnew op hop a hoa).2 with ⟨x,_⟩|⟨x,_⟩
        · have:=hlow j (blk a.loc) hO;omega
        · exact hO (hex j hj _ (x hw))
  · rcases A1x ha with ⟨hk,ha'⟩|⟨_,op,hop,hoa,hok⟩
    · rcases h.ato k a ha' hA hm with x|⟨x,y⟩|x
      · exact .inl x
      · exact .inr (.inl ⟨x,y.app _⟩)
      · exact .inr (.inr fun j hj=>(x j hj).app _)
    · exfalso
      obtain⟨x,y⟩:=hat _ hA
      rcases (hnew op hop a hoa).2 with ⟨z,_⟩|⟨_,z⟩
      · omega
      · exact z x
  · rcases A1x ha with ⟨hk,ha'⟩|⟨_,op,hop,hoa,hok⟩
    · rcases h.gd k a ha' hm hS hA with x|⟨p,x,y,z⟩
      · exact .inl fun j hj=>(x j hj).app _
      · have hp:=lt_of_act? x
        exact .inr ⟨p,by rw [act?_old hp];exact x,(heard_old hp).2 y,z.app _⟩
    · exfalso
      obtain⟨x,y⟩:=hsh _ hS
      rcases (hnew op hop a hoa).2 with ⟨z,_⟩|⟨_,z⟩
      · omega
      · exact z x
  · rcases Array.mem_append.1 hop with x|x
    · exact MemAct.low_mono hle (h.low op x)
    · obtain⟨e,he,h1,_⟩:=A4w x
      rw [h1]
      exact evOk_low (fun b hb=>Nat.lt_of_lt_of_le (hvlo b hb) hle) (hev e he)
  · rw [A3o hev];exact h.deaf j σ hj
  · rcases A1x ha with ⟨hk,ha'⟩|⟨_,op,hop,hoa,hok⟩
    · rcases h.f1 k a ha' hm with x|x|⟨j,h1,h2,h3,h4⟩
      · exact .inl (x.app _)
      · exact .inr (.inl x)
      · exact .inr (.inr ⟨j,h1,h2,g_old _ h3,(counts_old hk).2 h4⟩)
    · rcases hi with rfl|⟨h1,h2⟩
      · have:=knows_own hok
        rw [hg op hop]at this
        exact .inl this
      · refine .inr (.inr ⟨i,h1,h2,by simp [Trace.g?,hok,hg op hop],⟨a,ha,hm,.inl ?_⟩⟩)
        rw [(hnew op hop a hoa).1];simp
  · rcases B1x hk with ⟨h1,h2⟩|⟨_,op,hop,hog⟩
    · rcases h.f2 k g h2 hg0 ((counts_old h1).1 hc)with ⟨j,x,y⟩|x
      · exact .inl ⟨j,g_old _ x,hb_app _ y⟩
      · exact .inr x
    · rw [hg op hop]at hog
      subst hog
      rcases hi with x|x
      · exact absurd x hg0
      · exact .inr x
  · have h0:=h.tok j hj1 hj2
    by_cases hj:j=i
    · subst hj
      rw [htok hj1 hj2]at h0⊢
      exact h0
    · refine h0.app (fun e=>?_) fun _ k hk hgk=>absurd (g_not hg hj hk hgk) id
      rw [e]at h0;exact h0
theorem norel_s{B:Nat}(h:∀e∈es,EvS Pr γ i B e):NoRel (MemOp.ofEvents i fn pos es):=fun op hop A=>by
 obtain⟨e,he,h1,_⟩:=A4w hop
 rw [h1]
 exact evS_norel (h e he) A
theorem Ended.now{p:Nat}{x:MemOp}{u:Trace}(hp:t.size≤p)(hx:(t++u)[p]?=some x)(hxg:x.g=i)(hu:∀k,p<k→(t++u).g? k=some i→¬(t++u).counts k):Ended (t++u) i p:=fun k hk hc=>by
 rcases Nat.lt_trichotomy k p with hlt|rfl|hgt
 ·obtain⟨y,hy,hyg⟩:=Option.map_eq_some_iff.1 hk
  exact .inr (hb_po hlt hy hx (hyg.trans hxg.symm))
 ·exact .inl Y
 ·exact absurd hc (hu k hgt hk)
theorem Ended.hand{j p:Nat}{x:MemOp}{u:Trace}(h:∀k,t.g? k=some j→t.counts k→Knows t i k)(hp:t.size≤p)(hx:(t++u)[p]?=some x)(hxg:x.g=i)(hu:∀k,t.size≤k→(t++u).g? k=some j→¬(t++u).counts k):Ended (t++u) j p:=fun k hk hc=>by
 rcases Nat.lt_or_ge k t.size with hlt|hge
 ·exact .inr ((h k (by rw [←g?_old (u:=u) hlt];exact hk) ((counts_old hlt).1 hc)).hb_new hp hx hxg)
 ·exact absurd hc (hu k hge hk)
def Move(Pr:Proto)(γ:Pr.G)(τ:Pr.T)(i:Nat)(es:Array Event)(γ':Pr.G)(j:Nat):Prop:=
 (Pr.tok γ' j=Pr.tok γ j∧(j=i→(Pr.tok γ i = .own∧∃σ,Pr.th γ' i=some σ∧Pr.rel σ=false)∨Pr.rel τ=true))∨
 (∃A,es=#[mkE (.releaseMerge A)]∧Pr.deaf τ=0∧Pr.tok γ' j = .at A∧(j=i∨Pr.tok γ j = .know i))∨
 (∃A,es=#[mkE (.acquire A)]∧Pr.deaf τ=0∧Pr.tok γ j = .at A∧Pr.tok γ' j = .know i∧j≠i)∨
 (es=closeE Pr.ch∧Pr.deaf τ=0∧Pr.tok γ' j = .shut∧(j=i∨Pr.tok γ j = .know i))
theorem close_heard{k c:Nat}(hk:k<(t++MemOp.ofEvents i fn pos (closeE c)).size)(hd:Deaf t i=0)(hge:t.size≤k):(t++MemOp.ofEvents i fn pos (closeE c)).deaf i k=0:=by
 have hsz2:(MemOp.ofEvents i fn pos (closeE c)).size=2:=by simp [ofEvents_eq]
 rw [Array.size_append,hsz2]at hk
 obtain⟨r,rfl⟩:∃r,k=t.size+r:=⟨k-t.size,oM⟩
 rw [deaf_inside t i fn pos (closeE c) r (by show r≤2;omega),hd]
 have hr:r<2:=oM
 match r,hr with
 | 0,_=>rfl
 | 1,_=>rfl
theorem TI.syncStep(h:TI Pr base S γ vs lo t)(hi:i=0∨(base≤i∧i<Pr.size γ))(hth:Pr.th γ i=some τ)(hoth:∀j,j≠i→Pr.th γ' j=Pr.th γ j)(hsz:Pr.size γ'=Pr.size γ)
    (hev:∀e∈es,EvS Pr γ i lo e)(hdeaf:∀σ,Pr.th γ' i=some σ→deafBehind (Pr.deaf τ) es=Pr.deaf σ)
    (hgain:∀b,v' b≠none→vs i b≠none∨(es=#[mkE (.acquire (Pr.lock b))]∧Pr.deaf τ=0∧Pr.sh γ b≠none∧Pr.usr γ b i))
    (hown:∀b,v'.Owns b→(vs i).Owns b∨(es=#[mkE (.acquire (Pr.lock b))]∧Pr.deaf τ=0∧Pr.sh γ b≠none∧Pr.usr γ b i))
    (hlose:∀b,Pr.sh γ' b≠none→¬Pr.atb γ' b→Pr.sh γ b≠none∨(es=#[mkE (.releaseMerge (Pr.lock b))]∧Pr.deaf τ=0∧(vs i).Owns b))
    (hatm:∀b,Pr.atb γ b→Pr.atb γ' b)(hatn:∀b,Pr.atb γ' b→Pr.atb γ b∨(vs i).Owns b)
    (husr:∀b j,Pr.usr γ' b j→Pr.usr γ b j∨((vs i).Owns b∧j=i))(hsay:∀b,Pr.atb γ b→Pr.say γ' b=Pr.say γ b)
    (hat:∀b,Pr.atb γ b→(∀j,vs j b=none)∧v' b=none)(hdj:∀b,vs i b=none∨Pr.sh γ b=none)(hus:∀b j,Pr.usr γ b j→Pr.sh γ b≠none)
    (hobj:(∀e∈es,∀c wr,e≠⟨.obj c,wr,true⟩)∨(es=closeE Pr.ch∧Pr.deaf τ=0∧base≤i∧i<Pr.size γ))
    (hmute:Pr.rel τ=true→∀j e,es[j]?=some e→(MemAct.ofEvent e).touch?=none∨((∃ad wr,e=⟨.cell ad,wr,true⟩)∧0<deafBehind (Pr.deaf τ) (es.extract 0 j)))
    (hmv:∀j,base≤j→j<Pr.size γ→Move Pr γ τ i es γ' j) :
    TI Pr base S γ' (upd vs i v') lo (t++MemOp.ofEvents i fn pos es):=by
  have hdt:Deaf t i=Pr.deaf τ:=h.deaf i τ hth
  have hnew:∀op∈MemOp.ofEvents i fn pos es,∀x,op.act.touch?=some x→Pr.atb γ (blk x.loc)∧Pr.usr γ (blk x.loc) i∧((∃a,x.loc = .cell a)∨es=closeE Pr.ch∧Pr.deaf τ=0∧base≤i∧i<Pr.size γ)∧(x.kind = .atomic∨(x.kind = .said∧Pr.say γ (blk x.loc)=i)):=fun op hop x hx=>by
    obtain⟨e,he,h1,_⟩:=A4w hop
    rw [h1]at hx
    obtain⟨a1,a2,a3,a4⟩:=evS_touch (hev e he) hx
    refine⟨a1,a2,?_,a4⟩
    rcases a3 with a3|⟨c,wr,a3⟩
    · exact .inl a3
    · exact .inr (hobj.resolve_left fun hno=>hno e he c wr a3)
  have hg:∀op∈MemOp.ofEvents i fn pos es,op.g=i:=opsG
  -- what is gained is known
  have hgk:∀k a,touchAt t k=some a→a.loc.isMemory=true→es=#[mkE (.acquire (Pr.lock (blk a.loc)))]→Pr.deaf τ=0→Pr.sh γ (blk a.loc)≠none→Pr.usr γ (blk a.loc) i→¬Pr.atb γ (blk a.loc)→Knows (t++MemOp.ofEvents i fn pos es) i k:=by
    intro k a ha hm he hd hs hu hna
    rcases h.gd k a ha hm hs hna with x|⟨p,x,y,z⟩
    · exact(x i hu).app _
    · rw [he]
      have:=acq_knows (i:=i) (fn:=fn) (pos:=pos) h.norel (hdt.trans hd) x y
      exact Knows.of_before (z.app _) this
  have hov:∀op∈MemOp.ofEvents i fn pos es,∀a,op.act.touch?=some a→∀j,upd vs i v' j (blk a.loc)=none:=fun op hop a hoa j=>by
    obtain⟨x,y⟩:=hat _ (hnew op hop a hoa).1
    by_cases hj:j=i
    · subst hj;rw [upd_same];exact y
    · rw [upd_ne vs v' hj];exact x j
  have hOn:∀b,(vs i).Owns b→vs i b≠none:=fun b ⟨o,ho⟩=>by rw [ho];simp
  refine⟨fun said=>noRace_append (h.nr said) hg fun k a ha op hop b hb' hc=>?_,fun j k a ha hm hO=>?_,fun j k a ha hm hO hw=>?_,fun k a ha hA hm=>?_,fun k a ha hm hS hA=>?_,h.norel.app (norel_s hev),fun op hop=>?_,fun j σ hj=>?_,fun k a ha hm=>?_,fun k g hk hg0 hc=>?_,fun j hj1 hj2=>?_⟩
  · obtain⟨hl,hm,hw,hkind⟩:=hc
    obtain⟨h1,h2,_,h3⟩:=hnew op hop b hb'
    rcases h.ato k a ha (by rw [hl];exact h1) hm with x|⟨x,y⟩|x
    · exfalso
      rcases h3 with h3|⟨h3,_⟩<;>rcases hkind with z|z|⟨_,z,_⟩<;>simp_all
    · rcases h3 with h3|⟨h3,h4⟩
      · exfalso;rcases hkind with z|z|⟨_,_,z⟩<;>simp_all
      · rw [hl,h4]at y
        exact y
    · exact x i (by rw [hl];exact h2)
  · rcases A1x ha with ⟨_,ha'⟩|⟨_,op,hop,hoa,hok⟩
    · by_cases hj:j=i
      · subst hj
        rw [upd_same]at hO
        rcases hown _ hO with x|⟨x,y,z,z'⟩
        · exact(h.own j k a ha' hm x).app _
        · refine hgk k a ha' hm x y z z' fun hA=>?_
          obtain⟨o,ho⟩:=hO
          rw [(hat _ hA).2]at ho;cases ho
      · rw [upd_ne vs v' hj]at hO
        exact(h.own j k a ha' hm hO).app _
    · obtain⟨o,ho⟩:=hO
      rw [hov op hop a hoa j]at ho;cases ho
  · rcases A1x ha with ⟨_,ha'⟩|⟨_,op,hop,hoa,hok⟩
    · by_cases hj:j=i
      · subst hj
        rw [upd_same]at hO
        rcases hgain _ hO with x|⟨x,y,z,z'⟩
        · exact(h.rd j k a ha' hm x hw).app _
        · exact hgk k a ha' hm x y z z' fun hA=>hO (hat _ hA).2
      · rw [upd_ne vs v' hj]at hO
        exact(h.rd j k a ha' hm hO hw).app _
    · exact absurd (hov op hop a hoa j) hO
  · rcases A1x ha with ⟨hk,ha'⟩|⟨_,op,hop,hoa,hok⟩
    · rcases hatn _ hA with hA'|hO
      · rcases h.ato k a ha' hA' hm with x|⟨x,y⟩|x
        · exact .inl x
        · exact .inr (.inl ⟨x,by rw [hsay _ hA'];exact y.app _⟩)
        · refine .inr (.inr fun j hj=>?_)
          rcases husr _ j hj with z|⟨z,rfl⟩
          · exact(x j z).app _
          · exact absurd ((hat _ hA').1 j) (hOn _ z)
      · refine .inr (.inr fun j hj=>?_)
        have hk':=(h.own i k a ha' hm hO).app (MemOp.ofEvents i fn pos es)
        rcases husr _ j hj with z|⟨_,rfl⟩
        · exact absurd ((hdj _).resolve_left (hOn _ hO)) (hus _ _ z)
        · exact hk'
    · obtain⟨h0,_,_,h3⟩:=hnew op hop a hoa
      rcases h3 with h3|⟨h3,h4⟩
      · exact .inl h3
      · refine .inr (.inl ⟨h3,?_⟩)
        rw [hsay _ h0,h4]
        have:=knows_own hok
        rwa [hg op hop]at this
  · rcases A1x ha with ⟨hk,ha'⟩|⟨_,op,hop,hoa,hok⟩
    · rcases hlose _ hS hA with hS'|⟨he,hd,hO⟩
      · have hnO:¬(vs i).Owns (blk a.loc):=fun hO=>hOn _ hO ((hdj _).resolve_right hS')
        rcases h.gd k a ha' hm hS' (fun hA'=>hA (hatm _ hA'))with x|⟨p,x,y,z⟩
        · exact .inl fun j hj=>(x j ((husr _ j hj).resolve_right fun e=>hnO e.1)).app _
        · have hp:=lt_of_act? x
          exact .inr ⟨p,by rw [act?_old hp];exact x,(heard_old hp).2 y,z.app _⟩
      · refine .inr ⟨t.size,?_,?_,?_⟩
        · rw [he,A4a];simp [Trace.act?]
        · rw [he,A4a]
          exact⟨i,by simp [Trace.g?],by rw [deaf_old (Nat.le_refl _)];exact hdt.trans hd⟩
        · rw [he,A4a]
          exact .inr ((h.own i k a ha' hm hO).hb_new (Nat.le_refl _) (y:={g:=i,fn,pos,act:=.mark (.releaseMerge (Pr.lock (blk a.loc))) }) sM Y)
    · exact absurd (hatm _ (hnew op hop a hoa).1) hA
  · rcases Array.mem_append.1 hop with x|x
    · exact h.low op x
    · obtain⟨e,he,h1,_⟩:=A4w x
      rw [h1]
      exact evS_low (hev e he)
  · by_cases e:j=i
    · subst e
      rw [Deaf_own,hdt]
      exact hdeaf σ hj
    · rw [Deaf_other t (g':=i) (Ne.symm e) _ opsG]
      exact h.deaf j σ (by rw [←hoth j e];exact hj)
  · rcases A1x ha with ⟨hk,ha'⟩|⟨hnk,op,hop,hoa,hok⟩
    · rcases h.f1 k a ha' hm with x|⟨x,y⟩|⟨j,h1,h2,h3,h4⟩
      · exact .inl (x.app _)
      · refine .inr (.inl ⟨?_,y⟩)
        revert x
        cases a.loc with
        | cell c=>exact fun x=>x.imp id (hatm _)
        | _=>exact id
      · exact .inr (.inr ⟨j,h1,by rw [hsz];exact h2,g_old _ h3,(counts_old hk).2 h4⟩)
    · obtain⟨h1,_,h2,h3⟩:=hnew op hop a hoa
      have hkk:=knows_own hok
      rw [hg op hop]at hkk
      rcases h3 with h3|⟨h3,h4⟩
      · rcases h2 with ⟨c,h2⟩|⟨he,hd,hb1,hb2⟩
        · refine .inr (.inl ⟨?_,h3⟩)
          rw [h2]at h1⊢
          exact .inr (hatm _ h1)
        · refine .inr (.inr ⟨i,hb1,by rw [hsz];exact hb2,by simp [Trace.g?,hok,hg op hop],⟨a,ha,hm,.inr ⟨i,by simp [Trace.g?,hok,hg op hop],?_⟩⟩⟩)
          have hk1:=touchAt_lt ha
          rw [he]at hk1⊢
          exact close_heard hk1 (hdt.trans hd) hnk
      · rcases hi with rfl|⟨hb1,hb2⟩
        · exact .inl hkk
        · exact .inr (.inr ⟨i,hb1,by rw [hsz];exact hb2,by simp [Trace.g?,hok,hg op hop],⟨a,ha,hm,.inl (by rw [h3];simp)⟩⟩)
  · rcases B1x hk with ⟨h1,h2⟩|⟨_,op,hop,hog⟩
    · rcases h.f2 k g h2 hg0 ((counts_old h1).1 hc)with ⟨j,x,y⟩|x
      · exact .inl ⟨j,g_old _ x,hb_app _ y⟩
      · exact .inr (by rw [hsz];exact x)
    · rw [hg op hop]at hog
      subst hog
      rcases hi with x|x
      · exact absurd x hg0
      · exact .inr (by rw [hsz];exact x)
  · rw [hsz]at hj2
    have h0:=h.tok j hj1 hj2
    have hnot:j≠i→∀k,t.size≤k→(t++MemOp.ofEvents i fn pos es).g? k=some j→¬(t++MemOp.ofEvents i fn pos es).counts k:=fun hj k hk hgk=>absurd (g_not hg hj hk hgk) id
    have hpi:Pr.tok γ j = .know i→∀k,t.g? k=some j→t.counts k→Knows t i k:=fun e=>by rw [e]at h0;exact h0
    rcases hmv j hj1 hj2 with ⟨e,hn⟩|⟨A,he,hd,e,hor⟩|⟨A,he,hd,e1,e,hne⟩|⟨he,hd,e,hor⟩<;>rw [e]
    · refine h0.app (fun ho=>?_) fun hno k hk hgk=>?_
      · by_cases hj:j=i
        · rcases hn hj with ⟨_,x⟩|x
          · rw [hj];exact x
          · exfalso
            rw [ho]at h0
            obtain⟨σ,x1,x2⟩:=h0
            rw [hj,hth]at x1;cases x1;rw [x]at x2;cases x2
        · rw [ho]at h0
          obtain⟨σ,x1,x2⟩:=h0
          exact⟨σ,by rw [hoth j hj];exact x1,x2⟩
      · by_cases hj:j=i
        · rcases hn hj with ⟨x,_⟩|x
          · exact absurd (by rw [hj];exact x) hno
          · exact nocount_mute (by rw [hdt];exact hmute x) hk
        · exact hnot hj k hk hgk
    · have hx:(t++MemOp.ofEvents i fn pos es)[t.size]?=some {g:=i,fn,pos,act:=.mark (.releaseMerge A) }:=by rw [he,A4a];simp
      refine⟨t.size,by rw [act?_of hx],⟨i,by simp [Trace.g?,hx],by rw [deaf_old (Nat.le_refl _)];exact hdt.trans hd⟩,?_⟩
      by_cases hj:j=i
      · subst hj
        refine Ended.now (Nat.le_refl _) hx Y fun k hk hgk=>?_
        have:=lt_of_g hgk
        rw [he,A4a]at this
        simp at this
        omega
      · exact Ended.hand (hpi (hor.resolve_left hj)) (Nat.le_refl _) hx Y (hnot hj)
    · rw [e1]at h0
      obtain⟨p,x,y,z⟩:=h0
      intro k hk hc
      rcases Nat.lt_or_ge k t.size with hlt|hge
      · have hb:=z k (by rw [←g?_old (u:=MemOp.ofEvents i fn pos es) hlt];exact hk) ((counts_old hlt).1 hc)
        have:=acq_knows (i:=i) (fn:=fn) (pos:=pos) h.norel (hdt.trans hd) x y
        rw [←he]at this
        exact Knows.of_before (hb.app _) this
      · exact absurd hc (hnot hne k hge hk)
    · have hx:(t++MemOp.ofEvents i fn pos es)[t.size+1]?=some {g:=i,fn,pos,act:=.close Pr.ch }:=by
        rw [he,ofEvents_eq]
        rw [Array.getElem?_append_right oM]
        simp
        rfl
      refine⟨t.size+1,by rw [act?_of hx],⟨i,by simp [Trace.g?,hx],?_⟩,?_⟩
      · rw [he,deaf_inside t i fn pos (closeE Pr.ch) 1 sM,hdt,hd];rfl
      · by_cases hj:j=i
        · subst hj
          refine Ended.now oM hx Y fun k hk hgk=>?_
          have:=lt_of_g hgk
          rw [he,ofEvents_eq]at this
          simp at this
          omega
        · exact Ended.hand (hpi (hor.resolve_left hj)) oM hx Y (hnot hj)
theorem TI.slip(h:TI Pr base S γ vs lo t)(hth:Pr.th γ i=none)(hi0:i≠0)(hm:∀e∈es,e.mute=true):TI Pr base S γ vs lo (t++MemOp.ofEvents i fn pos es):=by
 have hg:∀op∈MemOp.ofEvents i fn pos es,op.g=i:=opsG
 have hnt:∀op∈MemOp.ofEvents i fn pos es,op.act.touch?=none:=fun op hop=>by
  obtain⟨e,he,h1,_⟩:=A4w hop
  rw [h1];exact touch_mute (hm e he)
 have told:∀{k a},touchAt (t++MemOp.ofEvents i fn pos es) k=some a→k<t.size∧touchAt t k=some a:=fun ha=>by
  rcases A1x ha with h1|⟨_,op,hop,hoa,_⟩
  ·exact h1
  ·rw [hnt op hop]at hoa;cases hoa
 have nocount:∀k,t.size≤k→¬(t++MemOp.ofEvents i fn pos es).counts k:=fun k hk ⟨z,hz,_⟩=>by
  have:=(told (show touchAt (t++MemOp.ofEvents i fn pos es) k=some z from hz)).1;omega
 refine⟨fun said=>?_,fun j k a ha hm hO=>?_,fun j k a ha hm hO hw=>?_,fun k a ha hA hm=>?_,fun k a ha hm hS hA=>?_,h.norel.app (norel_mute hm),fun op hop=>?_,fun j σ hj=>?_,fun k a ha hm=>?_,fun k g hk hg0 hct=>?_,fun j hj1 hj2=>?_⟩
 ·rintro⟨i,j,hij,⟨a,b,ha,hb,hc'⟩,n1,n2⟩
  exact h.nr said ⟨i,j,hij,⟨a,b,(told ha).2,(told hb).2,hc'⟩,fun e=>n1 (hb_app _ e),fun e=>n2 (hb_app _ e)⟩
 ·exact(h.own j k a (told ha).2 hm hO).app _
 ·exact(h.rd j k a (told ha).2 hm hO hw).app _
 ·rcases h.ato k a (told ha).2 hA hm with x'|⟨x',y'⟩|x'
  ·exact .inl x'
  ·exact .inr (.inl ⟨x',y'.app _⟩)
  ·exact .inr (.inr fun j hj=>(x' j hj).app _)
 ·rcases h.gd k a (told ha).2 hm hS hA with x'|⟨p,x',y',z'⟩
  ·exact .inl fun j hj=>(x' j hj).app _
  ·have hp:=lt_of_act? x'
   exact .inr ⟨p,by rw [act?_old hp];exact x',(heard_old hp).2 y',z'.app _⟩
 ·rcases Array.mem_append.1 hop with z|z
  ·exact h.low op z
  ·obtain⟨e,he,h1,_⟩:=A4w z
   rw [h1];exact low_mute (hm e he) lo
 ·rw [Deaf_other t (g':=i) (fun e=>by rw [e,hj]at hth;cases hth) _ opsG]
  exact h.deaf j σ hj
 ·rcases h.f1 k a (told ha).2 hm with x'|x'|⟨j,h1,h2,h3,h4⟩
  ·exact .inl (x'.app _)
  ·exact .inr (.inl x')
  ·exact .inr (.inr ⟨j,h1,h2,g_old _ h3,(counts_old (told ha).1).2 h4⟩)
 ·rcases B1x hk with ⟨h1,h2⟩|⟨h1,_⟩
  ·rcases h.f2 k g h2 hg0 ((counts_old h1).1 hct)with ⟨j,x',y'⟩|x'
   ·exact .inl ⟨j,g_old _ x',hb_app _ y'⟩
   ·exact .inr x'
  ·exact absurd hct (nocount k h1)
 ·have h0:=h.tok j hj1 hj2
  refine h0.app (fun e=>?_) fun _ k hk _=>nocount k hk
  rw [e]at h0;exact h0
end
theorem fork_knows{t:Trace}{i k:Nat}{x y:MemOp}(hx:x.g=i∧x.act = .go k)(hy:y.g=k∧y.act = .start)(h0:Deaf t i=0)(hk:Deaf t k=0){q:Nat}(h:Knows t i q):Knows (t++#[x,y]) k q:=by
 have hxp:(t++#[x,y])[t.size]?=some x:=by rw [Array.getElem?_append_right (Nat.le_refl _)];simp
 have hyp:(t++#[x,y])[t.size+1]?=some y:=by rw [Array.getElem?_append_right oM];simp
 have h1:HappensBefore (t++#[x,y]) q t.size:=h.hb_new (Nat.le_refl _) hxp hx.1
 have e0:(t++#[x,y]).heard t.size:=⟨i,by simp [Trace.g?,hx.1],by rw [deaf_old (Nat.le_refl _)];exact h0⟩
 have e1:(t++#[x,y]).heard (t.size+1):=⟨k,by simp [Trace.g?,hy.1],by rw [deaf_succ hxp,deaf_old (Nat.le_refl _)];simp only [deafStep,hx.2];exact hk⟩
 exact⟨t.size+1,y,hyp,hy.1,.inr (h1.trans (.single (.inr ⟨.spawn (child:=k) (by rw [act?_of hxp,hx.2]) (by rw [act?_of hyp,hy.2]) (by simp [Trace.g?,hy.1]),e0,e1⟩)))⟩
section
variable{Pr:Proto}{base:Nat}{S:Nat→Prop}{γ γ':Pr.G}{vs:Nat→View}{lo:Nat}{t u:Trace}{i:Nat}{τ:Pr.T}
theorem TI.quiet{vs':Nat→View}(h:TI Pr base S γ vs lo t)(hn:∀op∈u,op.act.touch?=none)(hq:∀g,Deaf (t++u) g=Deaf t g)(hnr:NoRel u)(hlow:∀op∈u,op.act.low lo)
  (hsz:Pr.size γ≤Pr.size γ')(hatb:∀b,Pr.atb γ' b↔Pr.atb γ b)
  (hth:∀j σ,Pr.th γ' j=some σ→Deaf t j=Pr.deaf σ)
  (hvo:∀j b,(vs' j).Owns b→(∀k a,touchAt t k=some a→a.loc.isMemory=true→blk a.loc=b→Knows (t++u) j k))
  (hvd:∀j b,vs' j b≠none→(∀k a,touchAt t k=some a→a.loc.isMemory=true→blk a.loc=b→a.write=true→Knows (t++u) j k))
  (hus:∀b j,Pr.usr γ' b j→Pr.usr γ b j∨∃m,Pr.usr γ b m∧∀k,Knows t m k→Knows (t++u) j k)
  (hsay:∀b,Pr.say γ' b=Pr.say γ b∨∀k,Knows t (Pr.say γ b) k→Knows (t++u) (Pr.say γ' b) k)
  (hsh:∀b,Pr.sh γ' b≠none→Pr.sh γ b≠none)
  (htok:∀j,base≤j→j<Pr.size γ'→TokOk Pr γ' (t++u) j (Pr.tok γ' j)):TI Pr base S γ' vs' lo (t++u):=by
 have told:∀{k a},touchAt (t++u) k=some a→k<t.size∧touchAt t k=some a:=fun ha=>by
  rcases A1x ha with h1|⟨_,op,hop,hoa,_⟩
  ·exact h1
  ·rw [hn op hop]at hoa;cases hoa
 have nocount:∀k,t.size≤k→¬(t++u).counts k:=fun k hk ⟨z,hz,_⟩=>by
  have:=(told (show touchAt (t++u) k=some z from hz)).1;omega
 have hkn:∀b k,(∀j,Pr.usr γ b j→Knows t j k)→∀j,Pr.usr γ' b j→Knows (t++u) j k:=fun b k hk j hj=>by
  rcases hus b j hj with x|⟨m,x,y⟩
  ·exact(hk j x).app _
  ·exact y k (hk m x)
 refine⟨fun said=>noRace_appendMute (h.nr said) hn,fun j k a ha hm hO=>?_,fun j k a ha hm hO hw=>?_,fun k a ha hA hm=>?_,fun k a ha hm hS hA=>?_,h.norel.app hnr,fun op hop=>?_,fun j σ hj=>(hq j).trans (hth j σ hj),fun k a ha hm=>?_,fun k g hk hg0 hct=>?_,htok⟩
 ·exact hvo j _ hO k a (told ha).2 hm Y
 ·exact hvd j _ hO k a (told ha).2 hm Y hw
 ·rcases h.ato k a (told ha).2 ((hatb _).1 hA) hm with x'|⟨x',y'⟩|x'
  ·exact .inl x'
  ·refine .inr (.inl ⟨x',?_⟩)
   rcases hsay (blk a.loc)with e|e
   ·rw [e];exact y'.app _
   ·exact e k y'
  ·exact .inr (.inr (hkn _ k x'))
 ·rcases h.gd k a (told ha).2 hm (hsh _ hS) (fun e=>hA ((hatb _).2 e))with x'|⟨p,x',y',z'⟩
  ·exact .inl (hkn _ k x')
  ·have hp:=lt_of_act? x'
   exact .inr ⟨p,by rw [act?_old hp];exact x',(heard_old hp).2 y',z'.app _⟩
 ·exact(Array.mem_append.1 hop).elim (h.low op) (hlow op)
 ·rcases h.f1 k a (told ha).2 hm with x'|⟨x',y'⟩|⟨j,h1,h2,h3,h4⟩
  ·exact .inl (x'.app _)
  ·refine .inr (.inl ⟨?_,y'⟩)
   revert x'
   cases a.loc with
   | cell c=>exact fun x=>x.imp id (hatb _).2
   | _=>exact id
  ·exact .inr (.inr ⟨j,h1,Nat.lt_of_lt_of_le h2 hsz,g_old _ h3,(counts_old (told ha).1).2 h4⟩)
 ·rcases B1x hk with ⟨h1,h2⟩|⟨h1,_⟩
  ·rcases h.f2 k g h2 hg0 ((counts_old h1).1 hct)with ⟨j,x',y'⟩|x'
   ·exact .inl ⟨j,g_old _ x',hb_app _ y'⟩
   ·exact .inr ⟨x'.1,Nat.lt_of_lt_of_le x'.2 hsz⟩
  ·exact absurd hct (nocount k h1)
theorem A4n(hn:∀op∈u,op.act.touch?=none):∀k,t.size≤k→¬(t++u).counts k:=fun k hk ⟨z,hz,_⟩=>by
 rcases A1x (show touchAt (t++u) k=some z from hz)with ⟨h1,_⟩|⟨_,op,hop,hoa,_⟩
 ·omega
 ·rw [hn op hop]at hoa;cases hoa
theorem TI.spawn(h:TI Pr base S γ vs lo t)(hc:base≤Pr.size γ)(hi:i≠Pr.size γ)(hth:Pr.th γ i=some τ)(hd:Pr.deaf τ=0)(habove:Deaf t (Pr.size γ)=0)(hvn:vs (Pr.size γ)=noView)
    {σ0 σc:Pr.T}(h0:Pr.th γ' i=some σ0)(hcth:Pr.th γ' (Pr.size γ)=some σc)(hoth:∀j,j≠i→j≠Pr.size γ→Pr.th γ' j=Pr.th γ j)(hsz:Pr.size γ'=Pr.size γ+1)(hd0:Pr.deaf σ0=0)(hdc:Pr.deaf σc=0)(hrel:Pr.rel σc=false)
    (hsh:∀b,Pr.sh γ' b≠none→Pr.sh γ b≠none)(hatb:∀b,Pr.atb γ' b↔Pr.atb γ b)
    (hus:∀b j,Pr.usr γ' b j→Pr.usr γ b j∨(j=Pr.size γ∧Pr.usr γ b i))(hsay:∀b,Pr.say γ' b=Pr.say γ b∨(Pr.say γ b=i∧Pr.say γ' b=Pr.size γ))
    (htk:∀j,j≠Pr.size γ→Pr.tok γ' j=Pr.tok γ j)(htc:Pr.tok γ' (Pr.size γ) = .own)(hri:Pr.rel σ0=Pr.rel τ)
    {v' vc:View}(hu:∀b,v' b≠none→vs i b≠none)(hu':∀b,v'.Owns b→(vs i).Owns b)(huc:∀b,vc b≠none→vs i b≠none)(huc':∀b,vc.Owns b→(vs i).Owns b)(fn₁ fn₂:FuncId)(pos₁ pos₂:String) :
    TI Pr base S γ' (upd (upd vs i v') (Pr.size γ) vc) lo (t++#[{g:=i,fn:=fn₁,pos:=pos₁,act:=.go (Pr.size γ) },{g:=Pr.size γ,fn:=fn₂,pos:=pos₂,act:=.start }]):=by
  generalize hx:({g:=i,fn:=fn₁,pos:=pos₁,act:=.go (Pr.size γ) }:MemOp)=x
  generalize hy:({g:=Pr.size γ,fn:=fn₂,pos:=pos₂,act:=.start }:MemOp)=y
  have hx1:x.g=i∧x.act = .go (Pr.size γ):=by rw [←hx];exact⟨Y,Y⟩
  have hy1:y.g=Pr.size γ∧y.act = .start:=by rw [←hy];exact⟨Y,Y⟩
  have hdt:Deaf t i=0:=(h.deaf i τ hth).trans hd
  have hck:∀k,Knows t i k→Knows (t++#[x,y]) (Pr.size γ) k:=fun k hk=>fork_knows hx1 hy1 hdt habove hk
  have hops:∀op∈#[x,y],op=x∨op=y:=fun op hop=>by simpa using hop
  have hnt:∀op∈#[x,y],op.act.touch?=none:=fun op hop=>by
    rcases hops op hop with rfl|rfl
    · rw [hx1.2];rfl
    · rw [hy1.2];rfl
  have hdeaf:∀j,Deaf (t++#[x,y]) j=Deaf t j:=fun j=>by
    have:t++#[x,y]=(t++#[x])++#[y]:=by apply Array.ext';simp
    rw [this,Deaf_push,Deaf_push]
    simp only [deafStep,hx1.2,hy1.2]
  refine h.quiet hnt hdeaf (fun op hop A=>?_) (fun op hop=>?_) oM hatb (fun j σ hj=>?_) (fun j b hO k a ha hm e=>?_) (fun j b hO k a ha hm e hw=>?_) (fun b j hj=>?_) (fun b=>?_) hsh (fun j hj1 hj2=>?_)
  · rcases hops op hop with rfl|rfl
    · rw [hx1.2];simp
    · rw [hy1.2];simp
  · rcases hops op hop with rfl|rfl
    · rw [hx1.2];trivial
    · rw [hy1.2];trivial
  · by_cases e:j=Pr.size γ
    · rw [e,hcth]at hj;cases hj;rw [e,habove,hdc]
    · by_cases e0:j=i
      · rw [e0,h0]at hj;cases hj;rw [e0,hdt,hd0]
      · exact h.deaf j σ (by rw [←hoth j e0 e];exact hj)
  · subst e
    by_cases e:j=Pr.size γ
    · rw [e,upd_same]at hO
      rw [e]
      exact hck k (h.own i k a ha hm (huc' _ hO))
    · rw [upd_ne _ _ e]at hO
      by_cases e0:j=i
      · rw [e0,upd_same]at hO
        rw [e0]
        exact(h.own i k a ha hm (hu' _ hO)).app _
      · rw [upd_ne _ _ e0]at hO
        exact(h.own j k a ha hm hO).app _
  · subst e
    by_cases e:j=Pr.size γ
    · rw [e,upd_same]at hO
      rw [e]
      exact hck k (h.rd i k a ha hm (huc _ hO) hw)
    · rw [upd_ne _ _ e]at hO
      by_cases e0:j=i
      · rw [e0,upd_same]at hO
        rw [e0]
        exact(h.rd i k a ha hm (hu _ hO) hw).app _
      · rw [upd_ne _ _ e0]at hO
        exact(h.rd j k a ha hm hO hw).app _
  · rcases hus b j hj with z|⟨rfl,z⟩
    · exact .inl z
    · exact .inr ⟨i,z,hck⟩
  · rcases hsay b with z|⟨z,z'⟩
    · exact .inl z
    · exact .inr fun k hk=>by rw [z'];rw [z]at hk;exact hck k hk
  · by_cases e:j=Pr.size γ
    · rw [e,htc];exact⟨σc,hcth,hrel⟩
    · rw [htk j e]
      have hk:=h.tok j hj1 oM
      refine hk.app (fun ho=>?_) fun _ k hk' _=>A4n hnt k hk'
      rw [ho]at hk
      obtain⟨σ,z,z'⟩:=hk
      by_cases e0:j=i
      · subst e0
        rw [hth]at z;cases z
        exact⟨σ0,h0,hri.trans z'⟩
      · exact⟨σ,by rw [hoth j e0 e];exact z,z'⟩
theorem TI.comm(h:TI Pr base S γ vs lo t){a b:Nat}{τa τb σa σb:Pr.T}(hab:a≠b)(hta:Pr.th γ a=some τa)(htb:Pr.th γ b=some τb)(hda:Pr.deaf τa=0)(hdb:Pr.deaf τb=0)
    (hta':Pr.th γ' a=some σa)(htb':Pr.th γ' b=some σb)(hda':Pr.deaf σa=0)(hdb':Pr.deaf σb=0)(hra:Pr.rel σa=false)(hrb:Pr.rel σb=false)(hoth:∀j,j≠a→j≠b→Pr.th γ' j=Pr.th γ j)(hsz:Pr.size γ'=Pr.size γ)
    (hsh:∀b,Pr.sh γ' b≠none→Pr.sh γ b≠none)(hatb:Pr.atb γ'=Pr.atb γ)(hus:Pr.usr γ'=Pr.usr γ)(hsay:Pr.say γ'=Pr.say γ)(htk:Pr.tok γ'=Pr.tok γ)
    {va ux vb:View}(hua:va.Le (vs a))(hux:ux.Le (vs a))(hub:vb.Le (vs b))(fa:FuncId)(pa:String)(fb:FuncId)(pb:String){k cap:Nat}(hlo:Pr.ch<lo) :
    TI Pr base S γ' (upd (upd vs a va) b (vb.union ux)) lo (t++met a b fa pa fb pb Pr.ch k cap):=by
  have hn:=met_mute a b fa pa fb pb Pr.ch k cap
  have hq:=fun g=>Deaf_quiet (t:=t) (met_quiet a b fa pa fb pb Pr.ch k cap g)
  have ea:Deaf t a=0:=(h.deaf a τa hta).trans hda
  have eb:Deaf t b=0:=(h.deaf b τb htb).trans hdb
  have e0:(t++met a b fa pa fb pb Pr.ch k cap)[t.size]?=some {g:=a,fn:=fa,pos:=pa,act:=.send Pr.ch k }:=by simp [met]
  have e3:(t++met a b fa pa fb pb Pr.ch k cap)[t.size+3]?=some {g:=b,fn:=fb,pos:=pb,act:=.recvDone Pr.ch k }:=by simp [met]
  have edge:HappensBefore (t++met a b fa pa fb pb Pr.ch k cap) t.size (t.size+3):=
    Relation.TransGen.single (.inr ⟨.handOver (act?_of e0) (act?_of e3),⟨a,g?_of e0,by rw [deaf_old (Nat.le_refl _)];exact ea⟩,⟨b,g?_of e3,by rw [deaf_quiet (met_quiet a b fa pa fb pb Pr.ch k cap b) 3 (by simp [met])];exact eb⟩⟩)
  have hk:∀q,Knows t a q→Knows (t++met a b fa pa fb pb Pr.ch k cap) b q:=fun q hq=>⟨t.size+3,_,e3,Y,.inr ((hq.hb_new (Nat.le_refl _) e0 Y).trans edge)⟩
  have hvb:∀c x,(vb.union ux) c=some x→vs b c=some x∨vs a c=some x:=fun c x e=>by
    unfold View.union at e
    split at e
    · rename_i y hy;cases e;exact .inl (hub _ _ hy)
    · exact .inr (hux _ _ e)
  refine h.quiet hn hq (fun op hop A=>?_) (fun op hop=>?_) oM (fun c=>by rw [hatb]) (fun j σ hj=>?_) (fun j c hO q x hx hm e=>?_) (fun j c hO q x hx hm e hw=>?_) (fun c j hj=>?_) (fun c=>.inl (by rw [hsay])) hsh (fun j hj1 hj2=>?_)
  · simp only [met,List.mem_toArray,List.mem_cons,List.not_mem_nil,or_false]at hop
    rcases hop with rfl|rfl|rfl|rfl<;>simp
  · simp only [met,List.mem_toArray,List.mem_cons,List.not_mem_nil,or_false]at hop
    rcases hop with rfl|rfl|rfl|rfl<;>exact hlo
  · by_cases e:j=a
    · rw [e,hta']at hj;cases hj;rw [e,ea,hda']
    · by_cases e0:j=b
      · rw [e0,htb']at hj;cases hj;rw [e0,eb,hdb']
      · exact h.deaf j σ (by rw [←hoth j e e0];exact hj)
  · subst e
    obtain⟨o,hO⟩:=hO
    by_cases e:j=b
    · rw [e,upd_same]at hO
      rw [e]
      rcases hvb _ _ hO with y|y
      · exact(h.own b q x hx hm ⟨o,y⟩).app _
      · exact hk q (h.own a q x hx hm ⟨o,y⟩)
    · rw [upd_ne _ _ e]at hO
      by_cases e0:j=a
      · rw [e0,upd_same]at hO
        rw [e0]
        exact(h.own a q x hx hm ⟨o,hua _ _ hO⟩).app _
      · rw [upd_ne _ _ e0]at hO
        exact(h.own j q x hx hm ⟨o,hO⟩).app _
  · subst e
    by_cases e:j=b
    · rw [e,upd_same]at hO
      rw [e]
      cases hz:(vb.union ux) (blk x.loc)with
      | none=>exact absurd hz hO
      | some z=>
        rcases hvb _ _ hz with y|y
        · exact(h.rd b q x hx hm (by rw [y];simp) hw).app _
        · exact hk q (h.rd a q x hx hm (by rw [y];simp) hw)
    · rw [upd_ne _ _ e]at hO
      by_cases e0:j=a
      · rw [e0,upd_same]at hO
        rw [e0]
        cases hz:va (blk x.loc)with
        | none=>exact absurd hz hO
        | some z=>exact(h.rd a q x hx hm (by rw [hua _ _ hz];simp) hw).app _
      · rw [upd_ne _ _ e0]at hO
        exact(h.rd j q x hx hm hO hw).app _
  · rw [hus]at hj;exact .inl hj
  · rw [htk]
    have hkk:=h.tok j hj1 oM
    refine hkk.app (fun ho=>?_) fun _ q hq' _=>A4n hn q hq'
    rw [ho]at hkk
    obtain⟨σ,z,z'⟩:=hkk
    by_cases e:j=a
    · rw [e];exact⟨σa,hta',hra⟩
    · by_cases e0:j=b
      · rw [e0];exact⟨σb,htb',hrb⟩
      · exact⟨σ,by rw [hoth j e e0];exact z,z'⟩
theorem TI.found(h:TI Pr base S γ vs lo t){τ':Pr.T}(hth:Pr.th γ i=some τ)(hd:Pr.deaf τ=0)(hth':Pr.th γ' i=some τ')(hd':Pr.deaf τ'=0)(hr':Pr.rel τ'=false)(hoth:∀j,j≠i→Pr.th γ' j=Pr.th γ j)(hsz:Pr.size γ'=Pr.size γ)
  (hsh:∀b,Pr.sh γ' b≠none→Pr.sh γ b≠none)(hatb:Pr.atb γ'=Pr.atb γ)(hus:Pr.usr γ'=Pr.usr γ)(hsay:Pr.say γ'=Pr.say γ)
  (htk:∀j,Pr.tok γ' j=Pr.tok γ j∨(j≠i∧Pr.tok γ j = .shut∧Pr.tok γ' j = .know i)){v':View}(hu:v'.Le (vs i))(fn:FuncId)(pos:String)(hlo:Pr.ch<lo) :
  TI Pr base S γ' (upd vs i v') lo (t++#[{g:=i,fn:=fn,pos:=pos,act:=.recvClosed Pr.ch }]):=by
 generalize hx:(#[{g:=i,fn:=fn,pos:=pos,act:=.recvClosed Pr.ch }]:Trace)=u
 have hn:∀op∈u,op.act.touch?=none:=by
  intro op hop
  subst hx
  simp only [List.mem_toArray,List.mem_cons,List.not_mem_nil,or_false]at hop
  subst hop;rfl
 have hq:∀g,∀op∈u,∀d,deafStep g d op=d:=by
  intro g op hop d
  subst hx
  simp only [List.mem_toArray,List.mem_cons,List.not_mem_nil,or_false]at hop
  subst hop;rfl
 have e0:(t++u)[t.size]?=some {g:=i,fn:=fn,pos:=pos,act:=.recvClosed Pr.ch }:=by subst hx;simp
 have ei:Deaf t i=0:=(h.deaf i τ hth).trans hd
 refine h.quiet hn (fun g=>Deaf_quiet (hq g)) (fun op hop A=>?_) (fun op hop=>?_) oM (fun c=>by rw [hatb]) (fun j σ hj=>?_) (fun j c hO q x hx hm e=>?_) (fun j c hO q x hx hm e hw=>?_) (fun c j hj=>?_) (fun c=>.inl (by rw [hsay])) hsh (fun j hj1 hj2=>?_)
 ·subst hx
  simp only [List.mem_toArray,List.mem_cons,List.not_mem_nil,or_false]at hop
  subst hop;simp
 ·subst hx
  simp only [List.mem_toArray,List.mem_cons,List.not_mem_nil,or_false]at hop
  subst hop;exact hlo
 ·by_cases e:j=i
  ·rw [e,hth']at hj;cases hj;rw [e,ei,hd']
  ·exact h.deaf j σ (by rw [←hoth j e];exact hj)
 ·subst e
  obtain⟨o,hO⟩:=hO
  by_cases e:j=i
  ·rw [e,upd_same]at hO
   rw [e]
   exact(h.own i q x hx hm ⟨o,hu _ _ hO⟩).app _
  ·rw [upd_ne _ _ e]at hO
   exact(h.own j q x hx hm ⟨o,hO⟩).app _
 ·subst e
  by_cases e:j=i
  ·rw [e,upd_same]at hO
   rw [e]
   cases hz:v' (blk x.loc)with
   | none=>exact absurd hz hO
   | some z=>exact(h.rd i q x hx hm (by rw [hu _ _ hz];simp) hw).app _
  ·rw [upd_ne _ _ e]at hO
   exact(h.rd j q x hx hm hO hw).app _
 ·rw [hus]at hj;exact .inl hj
 ·have hkk:=h.tok j hj1 oM
  rcases htk j with e|⟨hne,e1,e2⟩
  ·rw [e]
   refine hkk.app (fun ho=>?_) fun _ q hq' _=>A4n hn q hq'
   rw [ho]at hkk
   obtain⟨σ,z,z'⟩:=hkk
   by_cases e:j=i
   ·rw [e];exact⟨τ',hth',hr'⟩
   ·exact⟨σ,by rw [hoth j e];exact z,z'⟩
  ·rw [e1]at hkk
   rw [e2]
   obtain⟨p,h1,h2,h3⟩:=hkk
   intro k hk hc
   rcases Nat.lt_or_ge k t.size with hlt|hge
   ·have hp:=lt_of_act? h1
    have edge:HappensBefore (t++u) p t.size:=
     Relation.TransGen.single (.inr ⟨.closed (by rw [act?_old hp];exact h1) (act?_of e0),(heard_old hp).2 h2,⟨i,g?_of e0,by rw [deaf_old (Nat.le_refl _)];exact ei⟩⟩)
    exact⟨t.size,_,e0,Y,.inr (((h3 k (by rw [←g?_old (u:=u) hlt];exact hk) ((counts_old hlt).1 hc)).app u).hb edge)⟩
   ·exact absurd hc (A4n hn k hge)
theorem TI.past(h:TI Pr base S γ vs lo t)(hb:0<base)(hth:Pr.th γ 0=some τ)(hd:Pr.deaf τ=0)(ht:∀j,base≤j→j<Pr.size γ→Pr.tok γ j = .know 0):Past (ShunL (fun b=>S b∨Pr.atb γ b)) lo t:=by
 have key:∀i,base≤i→i<Pr.size γ→∀k,t.g? k=some i→t.counts k→Knows t 0 k:=fun i hi1 hi2=>by
  have:=h.tok i hi1 hi2
  rw [ht i hi1 hi2]at this
  exact this
 refine⟨h.nr,fun k a hka hm=>?_,fun k g hg hne hc=>?_,(h.deaf 0 τ hth).trans hd,h.low⟩
 ·rcases h.f1 k a hka hm with x|x|⟨i,hi1,hi2,hg,hc⟩
  ·exact .inl x
  ·exact .inr x
  ·exact .inl (key i hi1 hi2 k hg hc)
 ·rcases h.f2 k g hg hne hc with x|x
  ·exact x
  ·obtain⟨q,z,hq,hz,hbf⟩:=key g x.1 x.2 k hg hc
   refine⟨q,by simp [Trace.g?,hq,hz],?_⟩
   rcases hbf with rfl|hbf
   ·simp [Trace.g?,hq,hz]at hg
    omega
   ·exact hbf
end
end Go.Pal.K
end
section
namespace Go.Pal.K
open Go Go.Conc Go.Pal View
open Go.ConcN (upd upd_ne upd_same)
section
variable(P:Program)(Pr:Proto)(base:Nat)
structure SS(i:Nat)(γ:Pr.G)(τ:Pr.T)(u:View)(w:World)(γ':Pr.G)(u':View)(w':World)(es:Array Event):Prop where
 tr:Pr.tr γ i γ'
 size:Pr.size γ'=Pr.size γ
 tape:w'.tape=w.tape
 output:w'.output=w.output
 os:SameOs w.os w'.os
 heap:w'.heap.size=w.heap.size
 agree:u'.Agree w'
 agreeS:(Pr.sh γ').Agree w'
 keep:∀b,¬u.Owns b→Pr.sh γ b=none→w'.heap[b]?=w.heap[b]?
 disj:Disj u' (Pr.sh γ')
 ev:∀e∈es,EvS Pr γ i w.heap.size e
 deaf:∀σ,Pr.th γ' i=some σ→deafBehind (Pr.deaf τ) es=Pr.deaf σ
 gain:∀b,u' b≠none→u b≠none∨(es=#[mkE (.acquire (Pr.lock b))]∧Pr.deaf τ=0∧Pr.sh γ b≠none∧Pr.usr γ b i)
 own:∀b,u'.Owns b→u.Owns b∨(es=#[mkE (.acquire (Pr.lock b))]∧Pr.deaf τ=0∧Pr.sh γ b≠none∧Pr.usr γ b i)
 lose:∀b,Pr.sh γ' b≠none→Pr.sh γ b≠none∨(u.Owns b∧(Pr.atb γ' b∨(es=#[mkE (.releaseMerge (Pr.lock b))]∧Pr.deaf τ=0)))
 atm:∀b,Pr.atb γ b→Pr.atb γ' b
 atn:∀b,Pr.atb γ' b→Pr.atb γ b∨u.Owns b
 usr:∀b j,Pr.usr γ' b j→Pr.usr γ b j∨(u.Owns b∧j=i)
 say:∀b,Pr.atb γ b→Pr.say γ' b=Pr.say γ b
 obj:(∀e∈es,∀c wr,e≠⟨.obj c,wr,true⟩)∨(es=closeE Pr.ch∧Pr.deaf τ=0∧base≤i∧i<Pr.size γ)
 mute:Pr.rel τ=true→∀j e,es[j]?=some e→(MemAct.ofEvent e).touch?=none∨((∃ad wr,e=⟨.cell ad,wr,true⟩)∧0<deafBehind (Pr.deaf τ) (es.extract 0 j))
 mv:∀j,base≤j→j<Pr.size γ→Move Pr γ τ i es γ' j
noncomputable def Proto.rest (γ:Pr.G):View:=fun b=>by classical exact if Pr.atb γ b then none else Pr.sh γ b
variable(K:View→Goroutine→Prop)(X:Nat→Pr.T→View→Goroutine→Prop)
inductive AtOut(i:Nat)(τ:Pr.T)(u:View)(g:Goroutine)(γ:Pr.G)(w:World):Prop
 | on (γ':Pr.G) (τ':Pr.T) (u':View) (g':Goroutine) (w':World) (es:Array Event) (h:stepG P (i==0) g w = .go g' w' es) (hS:SS Pr base i γ τ u w γ' u' w' es) (ht:Pr.th γ' i=some τ') (hr:Pr.rel τ'=true→u'=noView) (hx:X i τ' u' g')
 | quit (γ':Pr.G) (g':Goroutine) (w':World) (es:Array Event) (q:Nat) (hi:i≠0) (h:stepG P false g w = .go g' w' es) (hs:g'.status = .running) (hS:SS Pr base i γ τ u w γ' noView w' es) (ht:Pr.th γ' i=none) (hq:QuitsD P q (deafBehind (Pr.deaf τ) es) g')
 | spawn (γ':Pr.G) (τ' τc:Pr.T) (u' uc:View) (g' child:Goroutine) (h:stepG P (i==0) g w = .spawn g' child w #[]) (htr:Pr.tr γ i γ') (hsz:Pr.size γ'=Pr.size γ+1) (ht:Pr.th γ' i=some τ') (hc:Pr.th γ' (Pr.size γ)=some τc)
   (hd:Pr.deaf τ=0) (hd':Pr.deaf τ'=0) (hdc:Pr.deaf τc=0) (hr:Pr.rel τ=false) (hr':Pr.rel τ'=false) (hrel:Pr.rel τc=false) (hsh:Pr.sh γ'=Pr.sh γ) (hatb:Pr.atb γ'=Pr.atb γ)
   (hus:∀b j,Pr.usr γ' b j→Pr.usr γ b j∨(j=Pr.size γ∧Pr.usr γ b i)) (hsay:∀b,Pr.say γ' b=Pr.say γ b∨(Pr.say γ b=i∧Pr.say γ' b=Pr.size γ))
   (htk:∀j,j≠Pr.size γ→Pr.tok γ' j=Pr.tok γ j) (htc:Pr.tok γ' (Pr.size γ) = .own)
   (hu:u'.Le u) (huc:∀b x,uc b=some x→∃p,u b=some (p,x.2)∧(x.1=true→p=true)) (hex:∀b,(u'.Owns b→uc b=none)∧(uc.Owns b→u' b=none)) (hx:X i τ' u' g') (hxc:X (Pr.size γ) τc uc child)
 | over (hi:i=0) (h:Pr.over γ) (hk:K (u.union (Proto.rest Pr γ)) g)
def AtF(i:Nat)(τ:Pr.T)(u:View)(g:Goroutine):Prop:=
 g.status = .running∧g.offers=none∧(Pr.wakes τ=true→mayWake P g=true)∧
 ∀ γ w,Pr.ok γ→Pr.th γ i=some τ→u.Agree w→(Pr.sh γ).Agree w→Disj u (Pr.sh γ)→Mild w.tape→
  (Pr.blocks γ i→stepG P (i==0) g w = .go {g with status:=.blocked } w #[])∧(¬Pr.blocks γ i→AtOut P Pr base K X i τ u g γ w)
def AtS(i:Nat)(τ:Pr.T)(u:View)(g:Goroutine)(x z:Value):Prop:=
 ∃ (m:Pr.M) (u0 ux:View),Pr.snd τ=some m∧Pr.msg m x ux∧(∀b,ux b≠none→ux.Owns b∧u0 b=none)∧u0.Le u∧ux.Le u∧
  (∀w,u.Agree w→stepG P (i==0) g w = .comm (core g) #[scase Pr.ch x z] true .send w #[])∧X i (Pr.nxt τ) u0 (Go.Conc.served g undef)
def AtR(i:Nat)(τ:Pr.T)(u:View)(g:Goroutine)(z:Value):Prop:=
 Pr.rcv τ=true∧(∀w,u.Agree w→stepG P (i==0) g w = .comm (core g) #[rcase Pr.ch z] true (.recv true) w #[])∧
  (∀m x ux,Pr.msg m x ux→(∃γ,Pr.ok γ∧Pr.th γ i=some (Pr.got τ m))→(∀b,ux b≠none→ux.Owns b)→Disj u ux→X i (Pr.got τ m) (u.union ux) (Go.Conc.served g (.tuple #[x,.bool true])))∧X i (Pr.fin τ) u (Go.Conc.served g (.tuple #[z,.bool false]))
def AtX(i:Nat)(τ:Pr.T)(u:View)(g:Goroutine):Prop:=
 (Pr.snd τ=none∧Pr.rcv τ=false∧AtF P Pr base K X i τ u g)∨(g.status = .running∧∃x z,AtS P Pr X i τ u g x z)∨(g.status = .running∧∃z,AtR P Pr X i τ u g z)
def Proto.Wd(Pr:Proto)(w:World):Prop:=∃γ,Pr.ok γ∧(Pr.sh γ).Agree w
def Job:Nat→Nat→Pr.T→View→Goroutine→Prop
 | 0,_,_,_,_=>True
 | n+1,i,τ,v,g=>(Pr.rel τ=false∧RunW P (i==0) (Proto.Wd Pr) (AtX P Pr base K (Job n) i τ) v g)∨(Pr.rel τ=true∧v=noView∧MRun P (AtF P Pr base K (Job n) i τ noView) g)
end
structure Laws(Pr:Proto)(base:Nat):Prop where
 ok:∀{γ i γ'},Pr.ok γ→Pr.tr γ i γ'→Pr.ok γ'
 rank:∀{γ i γ'},Pr.ok γ→Pr.tr γ i γ'→Pr.rank γ'<Pr.rank γ
 oth:∀{γ i γ'},Pr.ok γ→Pr.tr γ i γ'→∀j,j≠i→j≠Pr.size γ→Pr.th γ' j=Pr.th γ j
 lt:∀{γ j τ},Pr.ok γ→Pr.th γ j=some τ→j=0∨(base≤j∧j<Pr.size γ)
 baseLe:∀{γ},Pr.ok γ→base≤Pr.size γ
 live:∀{γ},Pr.ok γ→∃i τ,Pr.th γ i=some τ∧((Pr.snd τ=none∧Pr.rcv τ=false∧¬Pr.blocks γ i)∨(Pr.rcv τ=true∧(Pr.shut γ=true∨∃j σ,Pr.th γ j=some σ∧Pr.snd σ≠none)))
 wake:∀{γ i γ' τ j},Pr.ok γ→Pr.th γ i=some τ→Pr.tr γ i γ'→j≠i→Pr.blocks γ j→¬Pr.blocks γ' j→Pr.wakes τ=true
 main:∀{γ},Pr.ok γ→∃τ,Pr.th γ 0=some τ∧Pr.rel τ=false
 over:∀{γ},Pr.ok γ→Pr.over γ→(∀j,j≠0→Pr.th γ j=none)∧(∀j,base≤j→j<Pr.size γ→Pr.tok γ j = .know 0)∧∀τ,Pr.th γ 0=some τ→Pr.deaf τ=0
 atbS:∀{γ b},Pr.ok γ→Pr.atb γ b→Pr.sh γ b≠none
 usrS:∀{γ b j},Pr.ok γ→Pr.usr γ b j→Pr.sh γ b≠none
 tokR:∀{γ i τ},Pr.ok γ→Pr.th γ i=some τ→base≤i→Pr.tok γ i = .own∨Pr.rel τ=true
 chS:∀{γ},Pr.ok γ→∃s,Pr.sh γ Pr.ch=some (true,.chan 0 #[] (Pr.shut γ) s s false)
 sndR:∀{γ i τ},Pr.ok γ→Pr.th γ i=some τ→Pr.snd τ≠none→Pr.rcv τ=false∧Pr.rel τ=false∧Pr.deaf τ=0
 rcvR:∀{γ i τ},Pr.ok γ→Pr.th γ i=some τ→Pr.rcv τ=true→Pr.rel τ=false∧Pr.deaf τ=0
 noSnd:∀{γ i τ},Pr.ok γ→Pr.shut γ=true→Pr.th γ i=some τ→Pr.snd τ=none
 shutW:∀{γ i γ' τ},Pr.ok γ→Pr.th γ i=some τ→Pr.tr γ i γ'→Pr.shut γ=false→Pr.shut γ'=true→Pr.wakes τ=true
 cm:∀{γ i h τ σ m},Pr.ok γ→Pr.th γ i=some τ→Pr.snd τ=some m→Pr.th γ h=some σ→Pr.rcv σ=true→∀{s},Pr.sh γ Pr.ch=some (true,.chan 0 #[] false s s false)→
  Pr.ok (Pr.cmm γ i h)∧Pr.rank (Pr.cmm γ i h)<Pr.rank γ∧Pr.size (Pr.cmm γ i h)=Pr.size γ∧Pr.th (Pr.cmm γ i h) i=some (Pr.nxt τ)∧Pr.th (Pr.cmm γ i h) h=some (Pr.got σ m)∧(∀j,j≠i→j≠h→Pr.th (Pr.cmm γ i h) j=Pr.th γ j)∧
  Pr.sh (Pr.cmm γ i h)=(Pr.sh γ).set Pr.ch true (.chan 0 #[] false (s+1) (s+1) false)∧Pr.atb (Pr.cmm γ i h)=Pr.atb γ∧Pr.usr (Pr.cmm γ i h)=Pr.usr γ∧Pr.say (Pr.cmm γ i h)=Pr.say γ∧Pr.tok (Pr.cmm γ i h)=Pr.tok γ∧(∀j,Pr.blocks γ j→Pr.blocks (Pr.cmm γ i h) j)
 cmR:∀{γ i h τ σ m},Pr.ok γ→Pr.th γ i=some τ→Pr.snd τ=some m→Pr.th γ h=some σ→Pr.rcv σ=true→Pr.rel (Pr.nxt τ)=false∧Pr.deaf (Pr.nxt τ)=0∧Pr.rel (Pr.got σ m)=false∧Pr.deaf (Pr.got σ m)=0
 fd:∀{γ h σ},Pr.ok γ→Pr.th γ h=some σ→Pr.rcv σ=true→Pr.shut γ=true→
  Pr.ok (Pr.fnd γ h)∧Pr.rank (Pr.fnd γ h)<Pr.rank γ∧Pr.size (Pr.fnd γ h)=Pr.size γ∧Pr.th (Pr.fnd γ h) h=some (Pr.fin σ)∧(∀j,j≠h→Pr.th (Pr.fnd γ h) j=Pr.th γ j)∧
  Pr.sh (Pr.fnd γ h)=Pr.sh γ∧Pr.atb (Pr.fnd γ h)=Pr.atb γ∧Pr.usr (Pr.fnd γ h)=Pr.usr γ∧Pr.say (Pr.fnd γ h)=Pr.say γ∧(∀j,Pr.tok (Pr.fnd γ h) j=Pr.tok γ j∨(j≠h∧Pr.tok γ j = .shut∧Pr.tok (Pr.fnd γ h) j = .know h))∧(∀j,Pr.blocks γ j→Pr.blocks (Pr.fnd γ h) j)∧Pr.shut (Pr.fnd γ h)=true
 fdR:∀{γ h σ},Pr.ok γ→Pr.th γ h=some σ→Pr.rcv σ=true→Pr.rel (Pr.fin σ)=false∧Pr.deaf (Pr.fin σ)=0
section
variable(P:Program)(Pr:Proto)(base:Nat)(K:View→Goroutine→Prop)
inductive Sit(j:Nat)(τ:Pr.T)(n:Nat)(T:Tree)(v:View)(g:Goroutine)(γ:Pr.G):Prop
 | run (h:Pr.rel τ=false) (h2:RunT P (j==0) (Proto.Wd Pr) (AtX P Pr base K (Job P Pr base K n) j τ) T v g)
 | still (h:Pr.rel τ=true) (hv:v=noView) (h2:RunM P (AtF P Pr base K (Job P Pr base K n) j τ noView) T g)
 | wait (hT:T = .leaf) (hb:Pr.blocks γ j) (u:View) (g₀:Goroutine) (hu:View.Le u v) (hg:g={g₀ with status:=.blocked }) (hs:Pr.snd τ=none) (hr:Pr.rcv τ=false) (hA:AtF P Pr base K (Job P Pr base K n) j τ u g₀) (hv:Pr.rel τ=true→v=noView)
 | put (hT:T = .leaf) (u:View) (g₀:Goroutine) (x z:Value) (hu:View.Le u v) (hg:g=parked g₀ #[scase Pr.ch x z] .send) (hA:AtS P Pr (Job P Pr base K n) j τ u g₀ x z)
 | take (hT:T = .leaf) (u:View) (g₀:Goroutine) (z:Value) (hu:View.Le u v) (hg:g=parked g₀ #[rcase Pr.ch z] (.recv true)) (ho:Pr.shut γ=false) (hA:AtR P Pr (Job P Pr base K n) j τ u g₀ z)
structure PInv(S:Nat→Prop)(v0:View)(w0:World)(γ:Pr.G)(vs:Nat→View)(Ts:Nat→Tree)(ns:Nat→Nat)(gs:Array Goroutine)(w:World)(t:Trace):Prop where
 size:gs.size=Pr.size γ
 ok:Pr.ok γ
 lev:∀j,Pr.rank γ≤ns j
 sit:∀j g τ,gs[j]?=some g→Pr.th γ j=some τ→Sit P Pr base K j τ (ns j) (Ts j) (vs j) g γ
 gone:∀j g,gs[j]?=some g→Pr.th γ j=none→∃q,Ts j=Tree.ofNat q∧QuitsD P q (Deaf t j) g
 meet:∀(i:Nat) (g:Goroutine),gs[i]?=some g→offersAt g Pr.ch true≠[]→∀(j:Nat) (g':Goroutine),gs[j]?=some g'→offersAt g' Pr.ch false=[]
 above:∀j,gs.size≤j→Deaf t j=0
 agree:∀j,(vs j).Agree w
 agreeS:(Pr.sh γ).Agree w
 excl:∀i j,i≠j→∀b,(vs i).Owns b→vs j b=none
 disj:∀j,Disj (vs j) (Pr.sh γ)
 nov:∀j,Pr.th γ j=none→vs j=noView
 shun:∀b,S b→(∀j,vs j b=none)∧Pr.sh γ b=none∧b<w.heap.size
 ti:TI Pr base S γ vs w.heap.size t
 calm:Mild w.tape
 tape:w.tape=w0.tape
 output:w.output=w0.output
 os:SameOs w0.os w.os
 heap:w0.heap.size≤w.heap.size
 keep:∀b,b<w0.heap.size→¬v0.Owns b→w.heap[b]?=w0.heap[b]?
 dom:∀j b,vs j b≠none→v0 b≠none∨w0.heap.size≤b
 own:∀j b,(vs j).Owns b→v0.Owns b∨w0.heap.size≤b
 ownS:∀b,Pr.sh γ b≠none→v0.Owns b∨w0.heap.size≤b
end
end Go.Pal.K
end
