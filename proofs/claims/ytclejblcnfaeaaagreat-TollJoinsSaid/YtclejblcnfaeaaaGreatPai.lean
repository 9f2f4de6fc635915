/- Part 9. -/
import Derived.Test.YtclejblcnfaeaaaGreatPah
set_option linter.all false
section
namespace Go.Pal
open Go Go.Conc View
class Abs(P:outParam Program)(mn:outParam Who)(R:View→Goroutine→Prop):Prop where
 run:∀{v:View} {g:Goroutine},Run P mn R v g→R v g
theorem Abs.le{P:Program}{mn:Who}{R:View→Goroutine→Prop}[A:Abs P mn R]{u v:View}{g:Goroutine}(h:R u g)(hl:u.Le v):R v g:=A.run (.stop hl h)
instance Abs.sil {P:Program} {mn:Who} {R:View→Goroutine→Prop} [A:Abs P mn R] {v:View}:Sil P mn.main (R v):=⟨fun hs h r=>A.run (Run.ctl hs h (.stop (Le.refl _) r))⟩
instance {P:Program} {mn:Who} {Stop:View→Goroutine→Prop}:Abs P mn (Run P mn Stop):=⟨fun h=>h.mono fun _ _ h=>h⟩
section
variable{P:Program}{mn:Who}{R:View→Goroutine→Prop}[A:Abs P mn R]{n:Nat}{b:Frame}{k:List Item}{cs:List Frame}{ρ:Regs}{v:View}{ds:List Deferred}{β:A0f}
variable{ops:Array Oper}{i:Nat}{rest:List Nat}{d:Nat}{op:Op}{ty:TypeId}{pos:String}{af:Array Edge}{gu:Option (Nat×Bool)}
include A
theorem R_code{c:Code}{Q:Exit→St→View→Prop}(hk:b.kind≠.early)(hb:Bok β v)(h:XC P mn b.roundOf n c Q ⟨ds,ρ,β⟩ v)
  (hq:∀e σ u,Q e σ u→Bok σ.β u→e = .normal∧XG (R (u.union (A0c σ.β))) n b k cs σ.ds σ.ρ):XG (R (v.union (A0c β))) n b (.code c::k) cs ds ρ:=fun a hf=>by
 refine A.run (h a ⟨hf.size,hf.defers,hf.get⟩ hb R b k cs hk Y fun e a' w hQ=>?_)
 obtain⟨σ,u,h1,h2,h3,h4⟩:=hQ
 obtain⟨rfl,h5⟩:=hq e σ u h1 h3
 exact .stop h4 (h5 a' ⟨h2.size,h2.defers,h2.get⟩)
theorem R_xop(hk:b.kind≠.early)(hb:Bok β v)(h:XOp P mn b.roundOf n ops i (fun _ _ _=>False) (fun σ u=>Bok σ.β u→XG (R (u.union (A0c σ.β))) n b (.inRegion ops rest::k) cs σ.ds σ.ρ) ⟨ds,ρ,β⟩ v) :
  XG (R (v.union (A0c β))) n b (.inRegion ops (i::rest)::k) cs ds ρ:=fun a hf=>by
 refine A.run ?_
 obtain⟨o,ho,hw,hd,hs⟩:=h a ⟨hf.size,hf.defers,hf.get⟩ hb
 have key:∀{a' w},KP n (fun σ u=>Bok σ.β u→XG (R (u.union (A0c σ.β))) n b (.inRegion ops rest::k) cs σ.ds σ.ρ) a' w→Run P mn R w (G (b.on a' (.inRegion ops rest::k)) cs):=fun⟨σ,u,hx,h2,h3,h4⟩=>
  .stop h4 (hx h3 _ ⟨h2.size,h2.defers,h2.get⟩)
 have hst:=fun w=>A2f (P:=P) (mn:=mn) (b:=b) (k:=k) (cs:=cs) (w:=w) (rest:=rest) ho hw hd
 have hk':((b.on a (.inRegion ops (i::rest)::k)).kind==CallKind.early)=false:=by simpa [Frame.on]using hk
 have hfin:∀x,(b.on a (.inRegion ops (i::rest)::k)).finish x=b.on (a.put o.dst x) (.inRegion ops rest::k):=fun x=>A2o b a ops i rest k o x ho
 refine A6b (m:=execOp a.eval o) Y hs (fun nx v' hK=>?_) (fun x v' hE=>by obtain⟨_,_,h,_⟩:=hE;exact h.elim)
 cases nx with
 | value x=>
  refine⟨G (b.on (a.put o.dst x) (.inRegion ops rest::k)) cs,fun w w' es hrun=>⟨seen P b.fn es++#[],?_,fun e he=>mem_seen (by simpa using he)⟩,key hK⟩
  rw [hst w,←hfin x]
  unfold stepG.apply
  simp only [if_true,hrun,hk',Bool.false_eq_true,if_false]
  rfl
 | skip=>
  refine⟨G (b.on (a.put o.dst undef) (.inRegion ops rest::k)) cs,fun w w' es hrun=>⟨seen P b.fn es++#[],?_,fun e he=>mem_seen (by simpa using he)⟩,key hK⟩
  rw [hst w,←hfin undef]
  unfold stepG.apply
  simp only [if_true,hrun,hk',Bool.false_eq_true,if_false]
  rfl
 | enter f args=>
  refine⟨G (Frame.enter P f args .normal) (b.on a (.inRegion ops (i::rest)::k)::cs),fun w w' es hrun=>⟨seen P b.fn es++#[],?_,fun e he=>mem_seen (by simpa using he)⟩,?_⟩
  ·rw [hst w]
   unfold stepG.apply
   simp only [if_true,hrun,hk',Bool.false_eq_true,if_false]
   rfl
  ·refine hK _ _ cs Y fun e v'' hR=>?_
   cases e with
   | ret x=>show Run _ _ _ _ (G (Frame.finish _ _) _);rw [hfin x];exact key hR
   | pan ch=>obtain⟨_,_,h,_⟩:=hR;exact h.elim
 | round l f tmps assign body=>
  refine⟨G (Frame.round l f tmps assign body .normal) (b.on a (.inRegion ops (i::rest)::k)::cs),fun w w' es hrun=>⟨seen P b.fn es++#[],?_,fun e he=>mem_seen (by simpa using he)⟩,?_⟩
  ·rw [hst w]
   unfold stepG.apply
   simp only [if_true,hrun,hk',Bool.false_eq_true,if_false]
   rfl
  ·refine hK.2 _ _ cs Y fun e v'' hR=>?_
   cases e with
   | ret x=>show Run _ _ _ _ (G (Frame.finish _ _) _);rw [hfin x];exact key hR
   | pan ch=>obtain⟨_,_,h,_⟩:=hR;exact h.elim
 | defer d=>
  obtain⟨hrd,hK⟩:=hK
  refine⟨G (b.on ({a with defers:=d::a.defers }.put o.dst undef) (.inRegion ops rest::k)) cs,fun w w' es hrun=>⟨seen P b.fn es++#[],?_,fun e he=>mem_seen (by simpa using he)⟩,key hK⟩
  have hf2:=A2o b {a with defers:=d::a.defers } ops i rest k o undef ho
  rw [hst w,←hf2]
  unfold stepG.apply
  simp only [if_true,hrun,hk',Bool.false_eq_true,if_false]
  rfl
 | _=>exact hK.elim
theorem R_rangeFunc{fop:Operand}{params:Array Tmp}{assign body:Code}{kf:FuncId}{first captured:Array Value}(hk:b.kind≠.early)(hr:b.roundOf=none)(hf:ρ.val fop=some (.func (.func kf) first captured))(hB:A0i P kf)
  (h:∀a r l,Fits n ⟨ds,ρ,[]⟩ a→v r=none→v l=none→r≠l→∀c:Frame,c.mode = .run→
   (∀(R':View→Goroutine→Prop) (_:Abs P mn R') x u lp,u l=some (true,.loop lp)→lp.state≠.busy→XG (R' (u.set l true (.loop {lp with state:=.exhausted }))) n b ((lp.pending.map Item.code).toList++k) cs ({target:=.collected r,args:=#[] }::ds) ρ→R' u (G (c.finish x) cs))→
   R ((v.set r true (.deferred (some []))).set l true (.loop {state:=.ready,pending:=none,fn:=b.fn,tmps:=a.tmps,params:=params,assign:=assign,body:=body,defers:=r })) (G (Frame.enter P kf (first++#[.func (.yield l) #[] #[]]++captured) .normal) (c::cs))) :
  XG (R v) n b (.code (.rangeFunc fop params assign body)::k) cs ds ρ:=fun a hfit=>by
 refine A.run (A8y hk hr (A0m hfit _ _ hf) hB fun r l h1 h2 h3 c hc hend=>.stop (Le.refl _) (h a r l hfit h1 h2 h3 c hc fun R' A' x u lp hu hs hx=>?_))
 exact A'.run (hend R' x u lp hu hs (.stop (Le.refl _) (hx _ ⟨hfit.size,by show _::_=_::_;rw [hfit.defers],hfit.get⟩)))
theorem R_yield{f:Operand}{args:Array Operand}{ats:Array TypeId}{l:Nat}{xs:List Value}{lp:Loop}(hk:b.kind≠.early)(ho:ops[i]?=some ⟨some d,.call {callee:=.value f,args:=args,argTypes:=ats },ty,pos,af,gu⟩)(hw:A0r ops gu ρ=some true)(hn:Nat.blt d n=true)
  (hf:ρ.val f=some (.func (.yield l) #[] #[]))(hxs:A2y ρ.val args.toList=some xs)(hl:v l=some (true,.loop lp))(hz:xs.length=lp.params.size)
  (h:∀c:Frame,c.mode = .run→(∀(R':Goroutine→Prop) x,XG R' n b (.inRegion ops rest::k) cs ds ((d,x)::ρ)→R' (G (c.finish x) cs))→
   R v (G (Frame.round l lp.fn ((lp.params.zip xs.toArray).foldl (fun tmps (t,a)=>tmps.setIfInBounds t a) lp.tmps) lp.assign lp.body .normal) (c::cs))) :
  XG (R v) n b (.inRegion ops (i::rest)::k) cs ds ρ:=fun a hfit=>by
 have ha:args.map a.eval=xs.toArray:=Array.toList_inj.1 (by simpa using A2h (A0m hfit) hxs)
 refine A.run (run_yield hk ho (A0n (o:=⟨some d,.call {callee:=.value f,args:=args,argTypes:=ats },ty,pos,af,gu⟩) hfit (A0l hw)) (A0m hfit _ _ hf) ha hl hz fun c hc hfin=>.stop (Le.refl _) (h c hc fun R' x hx=>?_))
 rw [hfin x]
 exact hx _ (A0z hfit (show A2u n (some d)=true from hn))
theorem R_round{l:Nat}{f:FuncId}{tmps:Array Value}{assign body:Code}{lp:Loop}(hl:v l=some (true,.loop lp))(hs:lp.state = .ready){c:Frame}{m:Nat}{Q:Exit→St→View→Prop}(hb:Bok β v)
  (hfit:Fits m ⟨[],ρ,β⟩ ⟨tmps,[]⟩)(ha:XC P mn (some l) m assign Q ⟨[],ρ,β⟩ v)
  (h:∀e σ u,Q e σ u→Bok σ.β u→e = .normal∧σ.ds=[]∧u l=some (true,.loop lp)∧
   ((∀(R':View→Goroutine→Prop) (_:Abs P mn R') ds' ρ' u',u' l=some (true,.loop {lp with state:=.busy })→R' (u'.set l true (.loop {lp with state:=.ready,pending:=none })) (G (c.finish (.bool true)) cs)→XG (R' u') m (rdF f l) [] (c::cs) ds' ρ')→
   (∀(R':View→Goroutine→Prop) (_:Abs P mn R') ds' ρ' its u',u' l=some (true,.loop {lp with state:=.busy })→R' (u'.set l true (.loop {lp with state:=.done,pending:=some .ret })) (G (c.finish (.bool false)) cs)→XG (R' u') m (rdF f l) (.code .ret::its) (c::cs) ds' ρ')→
    XG (R ((u.union (A0c σ.β)).set l true (.loop {lp with state:=.busy }))) m (rdF f l) [.code body] (c::cs) [] σ.ρ)) :
  R (v.union (A0c β)) (G (Frame.round l f tmps assign body .normal) (c::cs)):=by
 refine A.run (run_round (M:=fun a w=>∃e σ u,Q e σ u∧Fits m σ a∧Bok σ.β u∧(u.union (A0c σ.β)).Le w) (lp:=lp) ?_ hs (A4t (ha _ hfit hb) fun e a w ⟨σ,u,h1,h2,h3,h4⟩=>?_) fun a w hw ⟨e,σ,u,h1,h2,h3,h4⟩ k1 k2=>?_)
 ·exact A2m hl
 ·obtain⟨rfl,_,h5,_⟩:=h e σ u h1 h3
  exact⟨w,Le.refl _,Y,h4 _ _ (A2m h5),.normal,σ,u,h1,h2,h3,h4⟩
 ·obtain⟨rfl,h5,h6,h7⟩:=h e σ u h1 h3
  have h8:=h7 (fun R' A' ds' ρ' u' hu hr a' _=>A'.run (k1 R' a' u' hu (.stop (Le.refl _) hr))) (fun R' A' ds' ρ' its u' hu hr a' _=>A'.run (k2 R' a' its u' hu (.stop (Le.refl _) hr)))
  refine .stop (u:=(u.union (A0c σ.β)).set l true (.loop {lp with state:=.busy })) (fun b' z hz=>?_) (h8 a ⟨h2.size,by rw [h2.defers,h5],h2.get⟩)
  unfold View.set at hz⊢
  split
  ·rename_i e;rw [if_pos e]at hz;exact hz
  ·rename_i e;rw [if_neg e]at hz;exact h4 _ _ hz
theorem R_collected{r:Nat}(hr:v r=some (true,.deferred (some [])))(h:XB (R (v.set r true (.deferred none))) n b k cs ds ρ):XB (R v) n b k cs ({target:=.collected r,args:=#[] }::ds) ρ:=fun a hf=>by
 refine A.run (A8z (r:=r) (ds:=ds) Y hf.defers hr (.stop (Le.refl _) ?_))
 exact h ⟨a.tmps,ds⟩ ⟨hf.size,Y,hf.get⟩
end
section
variable{P:Program}{mn:Who}(T:Tab P){rd:Option Nat}{n:Nat}{Q:Exit→St→View→Prop}{ds:List Deferred}{ρ:Regs}{β:A0f}{v:View}{K:St→View→Prop}
 {ops:Array Oper}{i:Nat}{d:Nat}{ty:TypeId}{pos:String}{af:Array Edge}{gu:Option (Nat×Bool)}
theorem A_clear{t t' e:TypeId}{y:Operand}{b off len cap:Nat}{z:Value}{c:Array Value}{β':A0f}(ho:ops[i]?=some ⟨none,.call {callee:=.builtin .clear,args:=#[y],argTypes:=#[t] },ty,pos,af,gu⟩)(hw:A0r ops gu ρ=some true)
  (hy:ρ.val y=some (.slice (some ⟨b,off,none⟩) (len+1) cap))(ht:T.und t=some (.slice e))(hz:T.zer e=some z)(hone:z.cells.toList.all A2k=true)(hb:InB b c t' β)(hoff:off+(len+1)*z.cells.size≤c.size)
  (hset:SetB b (A0x c off (Builtin.zeroCells z.cells (len+1)).toList) β β')(h:K ⟨ds,ρ,β'⟩ v):XOp P mn rd n ops i Q K ⟨ds,ρ,β⟩ v:=by
 refine A1u ho (A0l hw) (.inr Y) Y fun ev hev hbk=>?_
 obtain⟨hbk',c₀,t₀,hin,hv⟩:=A8w hbk hset
 have hcc:c₀=c∧t₀=t':=by
  have h1:=A0p (v:=v) hbk hin
  have h2:=A0p (v:=v) hbk hb
  rw [h1]at h2
  simp only [Option.some.injEq,Prod.mk.injEq,Obj.cells.injEq]at h2
  exact⟨h2.2.1,h2.2.2.1⟩
 obtain⟨rfl,rfl⟩:=hcc
 have hall:(Builtin.zeroCells z.cells (len+1)).toList.all A2k=true:=by
  refine List.all_eq_true.2 fun x hx=>?_
  rw [Array.mem_toList_iff]at hx
  unfold Builtin.zeroCells at hx
  obtain⟨j,hj,rfl⟩:=Array.mem_map.1 hx
  have hlt:j<(len+1)*z.cells.size:=by simpa using hj
  have hpos:0<z.cells.size:=by
   rcases Nat.eq_zero_or_pos z.cells.size with h0|h0
   ·rw [h0]at hlt;simp at hlt
   ·exact h0
  have hm:j % z.cells.size<z.cells.size:=Nat.mod_lt _ hpos
  rw [getElem!_pos z.cells _ hm]
  exact List.all_eq_true.1 hone _ sM
 unfold execOp
 simp only [resolve,A0b,A0h,invoke,builtin]
 have h0:(#[y]:Array Operand).map ev=#[.slice (some ⟨b,off,none⟩) (len+1) cap]:=by simp [hev _ _ hy]
 rw [h0]
 unfold Builtin.clear_
 simp only [List.getElem?_toArray,List.getElem?_cons_zero,A0b,A1h T ht,A8h T hz]
 refine A4a (off:=off) (c:=c₀) (e:=t₀) (j:=0) hall (A0p hbk hin) (by rw [Array.length_toList,A8g];omega) ?_
 refine⟨β',v,⟨hbk',?_⟩,h⟩
 rw [hv]
 exact Le.refl _
end
section
variable{P:Program}{mn:Who}(T:Tab P){rd:Option Nat}{n:Nat}{Q:Exit→St→View→Prop}{ds:List Deferred}{ρ:Regs}{β:A0f}{v:View}{K:St→View→Prop}
 {ops:Array Oper}{i:Nat}{d:Nat}{ty:TypeId}{pos:String}{af:Array Edge}{gu:Option (Nat×Bool)}
section
variable{S:List Rec}{done:List Nat}{ms:List Nat}{v0:View}{todo:List Nat}
theorem S_slice_hm{t e:TypeId}{y z1 z2:Operand}{a:Option Addr}{len cap h' m sz:Nat}{k1 k2:IntKind}(ho:ops[i]?=some ⟨some d,.slice t y none (some z1) (some z2),ty,pos,af,gu⟩)(hw:A0r ops gu ρ=some true)(hn:Nat.blt d n=true)(hB:B0c ops ms done i=true)
  (hy:ρ.val y=some (.slice a len cap))(ht:T.und t=some (.slice e))(hs:T.siz e=some sz)(hhi:ρ.val z1=some (.int k1 h'))(hmx:ρ.val z2=some (.int k2 m))(h3:m≤cap)(h2:h'≤m)
  (h:XS P mn n ops ms v0 Q todo S (i::done) ⟨ds,(d,.slice (if m=0 then a else a.map (·.add (0*sz))) (h'-0) (m-0))::ρ,β⟩ v):XS P mn n ops ms v0 Q (i::todo) S done ⟨ds,ρ,β⟩ v:=
 A5m (vq:=fun _=>none) (x:=.slice (if m=0 then a else a.map (·.add (0*sz))) (h'-0) (m-0)) ho hn hB (fun a hf=>.inl ⟨A0n hf (A0l hw),fun u _=>by
  unfold QAt execOp
  simp only [Option.map_none,Option.map_some,Instr.sliceAt,Instr.slice,Instr.sliceBounds,A0m hf _ _ hy,A0m hf _ _ hhi,A0m hf _ _ hmx,A0b,A0h,A1h T ht]
  refine A7v h3 ?_
  refine A7v h2 ?_
  simp only [A3p T hs]
  exact⟨Le.refl _,trivial⟩⟩) (fun _ _ b x e=>by cases e) (B2l fun b x e=>by cases e) h
end
theorem row_cell{a:Option Addr}{xs:List Value}{j:Nat}{x:Value}(h:RowAt v a xs)(hx:xs[j]?=some x):∃b off p c e f,a=some ⟨b,off,none⟩∧v b=some (p,.cells c e f)∧c[off+j]?=some x:=by
 rcases h with rfl|⟨b,off,p,c,e,f,h1,h2,_,h4⟩
 ·simp at hx
 ·exact⟨b,off,p,c,e,f,h1,h2,h4 _ _ hx⟩
end
section
variable{P:Program}{mn:Who}(T:Tab P){rd:Option Nat}{n:Nat}{Q:Exit→St→View→Prop}{ds:List Deferred}{ρ:Regs}{β:A0f}{v:View}{K:St→View→Prop}
 {ops:Array Oper}{i:Nat}{d:Nat}{ty:TypeId}{pos:String}{af:Array Edge}{gu:Option (Nat×Bool)}
theorem A_appendB{t t' e e':TypeId}{k by_ m len cap cap2:Nat}{y y2:Operand}{z:Value}{a a2:Option Addr}{cs xs:List Value}(ho:ops[i]?=some ⟨some d,.call {callee:=.builtin .append,args:=#[y,y2],argTypes:=#[t,t'] },ty,pos,af,gu⟩)(hw:A0r ops gu ρ=some true)(hn:Nat.blt d n=true)
  (hy:ρ.val y=some (.slice a len cap))(hy2:ρ.val y2=some (.slice a2 m cap2))
  (ht:T.und t=some (.slice e))(ht':T.und t'=some (.slice e'))(hs:T.siz e=some k)(hby:T.byt e=some by_)(hz:T.zer e=some z)(hzs:z.cells.size=k)
  (hr1:Bok β v→RowAt (v.union (A0c β)) a cs)(hl1:cs.length=len*k)(hr2:Bok β v→RowAt (v.union (A0c β)) a2 xs)(hxl:xs.length=m*k)(hc:cap<len+m)
  (hb:(2*(len+m)+768)*by_≤2^48)(hp:0<by_)
  (h:∀b c cap',OwnS e k [(b,c,e)] (some ⟨b,0,none⟩) (len+m) cap' (cs++xs)→K ⟨ds,(d,.slice (some ⟨b,0,none⟩) (len+m) cap')::ρ,(b,c,e)::β⟩ v):XOp P mn rd n ops i Q K ⟨ds,ρ,β⟩ v:=by
 refine A1u ho (A0l hw) (.inr Y) hn fun ev hev hbk=>?_
 simp only [execOp,resolve,show(#[y,y2]:Array Operand).map ev=#[ev y,ev y2]from by simp,hev _ _ hy,hev _ _ hy2,A0b,A0h,invoke,builtin]
 refine A8v T ht ht' hs hby hz hzs (hr1 hbk) hl1 (hr2 hbk) hxl hc hb hp fun r cap' c hr hc1 hc2 hc3=>?_
 obtain⟨h5,h6⟩:=A8b (c:=c) (t:=e) hbk hr
 exact⟨(r,c,e)::β,v,⟨h5,h6⟩,h r c cap' (.box (by rw [List.length_append,hl1,hxl,Nat.add_mul]) hc1 hc2 hc3)⟩
end
end Go.Pal
end
section
namespace Go.Pal.Mu
open Go Go.Conc Go.Pal View
open Go.ConcN (sumTo upd sumTo_upd upd_ne upd_same sumTo_congr le_sumTo)
structure OnB(B:Nat)(o:Obj)(w w':World):Prop where
 tape:w'.tape=w.tape
 output:w'.output=w.output
 os:SameOs w.os w'.os
 size:w'.heap.size=w.heap.size
 here:w'.heap[B]?=some o
 else_:∀b,b≠B→w'.heap[b]?=w.heap[b]?
theorem OnB.same{B:Nat}{o:Obj}{w:World}(h:w.heap[B]?=some o):OnB B o w w:=⟨Y,Y,SameOs.refl _,Y,h,fun _ _=>rfl⟩
theorem OnB.set{B off:Nat}{c:Array Value}{t:TypeId}{fr:Nat×Nat}{w:World}(v:Value)(h:w.heap[B]?=some (.cells c t fr)):OnB B (.cells (c.setIfInBounds off v) t fr) w (w.setCell ⟨B,off,none⟩ v):=by
 refine⟨Y,Y,.refl _,?_,?_,fun b hb=>?_⟩
 ·simp [World.setCell]
 ·simp only [World.setCell,Array.getElem?_modify,if_true,h]
  rfl
 ·simp only [World.setCell,Array.getElem?_modify]
  rw [if_neg (Ne.symm hb)]
theorem cell_of{w:World}{B off:Nat}{c:Array Value}{t:TypeId}{fr:Nat×Nat}(h:w.heap[B]?=some (.cells c t fr)):w.cell? ⟨B,off,none⟩=c[off]?:=by simp [World.cell?,h]
theorem thaw_of{w:World}{B off:Nat}{c:Array Value}{t:TypeId}(h:w.heap[B]?=some (.cells c t (0,0))):w.frozen? ⟨B,off,none⟩=false:=by simp [World.frozen?,h]
def BkE(B:Nat)(e:Event):Prop:=e=mkE .disable∨e=mkE .enable∨∃off wr,e=⟨.cell ⟨B,off,none⟩,wr,true⟩
theorem bk_dis{B:Nat}:∀e∈(#[mkE .disable]:Array Event),BkE B e:=by intro e he;simp at he;exact .inl he
theorem bk_en{B:Nat}:∀e∈(#[mkE .enable]:Array Event),BkE B e:=by intro e he;simp at he;exact .inr (.inl he)
theorem bk_r{B off:Nat}:∀e∈(#[⟨.cell ⟨B,off,none⟩,false,true⟩]:Array Event),BkE B e:=by intro e he;simp at he;exact .inr (.inr ⟨_,_,he⟩)
theorem bk_w{B off:Nat}:∀e∈(#[⟨.cell ⟨B,off,none⟩,true,true⟩]:Array Event),BkE B e:=by intro e he;simp at he;exact .inr (.inr ⟨_,_,he⟩)
theorem bk_rw{B off:Nat}:∀e∈(#[⟨.cell ⟨B,off,none⟩,false,true⟩,⟨.cell ⟨B,off,none⟩,true,true⟩]:Array Event),BkE B e:=by intro e he;simp at he;rcases he with rfl|rfl<;>exact .inr (.inr ⟨_,_,Y⟩)
theorem bk_sem{B off:Nat}:∀e∈semEvents ⟨B,off,none⟩,BkE B e:=by
 intro e he
 simp [semEvents]at he
 rcases he with rfl|rfl|rfl|rfl
 ·exact .inl Y
 ·exact .inr (.inr ⟨_,_,Y⟩)
 ·exact .inr (.inr ⟨_,_,Y⟩)
 ·exact .inr (.inl Y)
theorem deaf_sem{a:Addr}{d:Nat}:deafBehind d (semEvents a)=d:=by simp [deafBehind,semEvents]
theorem deaf_rw{B off d:Nat}:deafBehind d #[⟨.cell ⟨B,off,none⟩,false,true⟩,⟨.cell ⟨B,off,none⟩,true,true⟩]=d:=by simp [deafBehind]
theorem deaf_r{B off d:Nat}{wr:Bool}:deafBehind d #[⟨.cell ⟨B,off,none⟩,wr,true⟩]=d:=by simp [deafBehind]
theorem deaf_nil{d:Nat}:deafBehind d #[]=d:=by simp [deafBehind]
theorem deaf_dis{d:Nat}:deafBehind d #[mkE .disable]=d+1:=by simp [deafBehind]
theorem deaf_en{d:Nat}:deafBehind d #[mkE .enable]=d-1:=by simp [deafBehind]
section
variable{P:Program}{A:Par}{base:Nat}{K:View→Goroutine→Prop}
variable{n j:Nat}{q:Wk}{N:Nat}{b:Frame}{its:List Item}{cs:List Frame}{ds:List Deferred}{ρ:Regs}{v:View}
theorem F_sub{R:Goroutine→Prop}{ρ0:Regs}(h:XG R N b its cs ds ρ0)(hs:∀t x,ρ0.get t=some x→ρ.get t=some x):XG R N b its cs ds ρ:=fun a hf=>h a ⟨hf.size,hf.defers,fun t x e=>hf.get t x (hs t x e)⟩
def RIn(ρ:Regs):Regs→Prop
 | []=>True
 | (t,x)::l=>ρ.get t=some x∧RIn ρ l
theorem rin_get{ρ:Regs}:∀{l:Regs},RIn ρ l→∀t x,Regs.get l t=some x→ρ.get t=some x
 | [],_,_,_,h=>by simp [Regs.get]at h
 | (t',y)::l,⟨h1,h2⟩,t,x,h=>by
  simp only [Regs.get]at h
  cases hb:Nat.beq t' t with
  | true=>
   rw [hb]at h
   have:=Nat.eq_of_beq_eq_true hb
   subst this
   simp only [cond_true,Option.some.injEq]at h
   subst h;exact h1
  | false=>rw [hb]at h;exact rin_get h2 t x h
theorem F_in{R:Goroutine→Prop}(ρ0:Regs)(h:XG R N b its cs ds ρ0)(hs:RIn ρ ρ0):XG R N b its cs ds ρ:=F_sub h (rin_get hs)
theorem vB{e:Option Value}{a b:Bool}(h:a=b)(he:e=some (.bool a)):e=some (.bool b):=by rw [←h];exact he
theorem vI{e:Option Value}{k:IntKind}{a b:Int}(h:a=b)(he:e=some (.int k a)):e=some (.int k b):=by rw [←h];exact he
variable{k:List Item}{ops:Array Oper}{i:Nat}{rest:List Nat}{d:Nat}{op:Op}{ty:TypeId}{pos:String}{af:Array Edge}{gu:Option (Nat×Bool)}{a:Nat}{L:List Nat}{p p':Mp}
theorem mayWake_on{o:Oper}{f:FuncId}{fn:Func}{xs:Array Operand}{ats:Array TypeId}{c:Act}
  (ho:ops[i]?=some o)(hop:o.op = .call {callee:=.value (.func f),args:=xs,argTypes:=ats })(hf:P.funcs[f]?=some fn)(hb:fn.body.isNone=true):mayWake P (G (b.on c (.inRegion ops (i::rest)::k)) cs)=true:=by
 have h2:fn.body=none:=by simpa using hb
 have ef:(b.on c (.inRegion ops (i::rest)::k)).eval (.func f) = .func (.func f) #[] #[]:=rfl
 simp [mayWake,G,Frame.on,ho,hop]at ef⊢
 simp [ef,hf,h2]
end
end Go.Pal.Mu
end
section
namespace Go.Pal
open Go Go.Conc View
section
variable{P:Program}{mn:Who}(T:Tab P){R:View→Goroutine→Prop}[A:Abs P mn R]{n:Nat}{b:Frame}{k:List Item}{cs:List Frame}{ρ:Regs}{v:View}{ds:List Deferred}{β:A0f}
def Then(R:View→Goroutine→Prop)(n:Nat)(b:Frame)(k:List Item)(cs:List Frame)(e:Exit)(σ:St)(u:View):Prop:=e = .normal∧(Bok σ.β u→XG (R (u.union (A0c σ.β))) n b k cs σ.ds σ.ρ)
theorem A1b{R:View→Goroutine→Prop}{n:Nat}{b:Frame}{k:List Item}{cs:List Frame}{ds:List Deferred}{ρ:Regs}{β:A0f}{v:View}(h:Bok β v→XG (R (v.union (A0c β))) n b k cs ds ρ):Then R n b k cs .normal ⟨ds,ρ,β⟩ v:=⟨Y,h⟩
theorem R_co{c:Code}(hk:b.kind≠.early)(hb:Bok β v)(h:XC P mn b.roundOf n c (Then R n b k cs) ⟨ds,ρ,β⟩ v):XG (R (v.union (A0c β))) n b (.code c::k) cs ds ρ:=
 R_code hk hb h fun _ _ _ hQ hB=>⟨hQ.1,hQ.2 hB⟩
theorem R_co0{c:Code}(hk:b.kind≠.early)(h:XC P mn b.roundOf n c (Then R n b k cs) ⟨ds,ρ,[]⟩ v):XG (R v) n b (.code c::k) cs ds ρ:=by
 have:=R_co (R:=R) hk (A4h v) h
 rwa [show v.union (A0c [])=v from by funext x;unfold View.union;cases v x<;>rfl]at this
theorem R_mid{c:Code}(ρ0:Regs)(hk:b.kind≠.early)(h:XC P mn b.roundOf n c (fun e σ u=>e = .normal∧u=v∧σ.ds=ds∧Mu.RIn σ.ρ ρ0) ⟨ds,ρ,[]⟩ v)(hq:XG (R v) n b k cs ds ρ0):XG (R v) n b (.code c::k) cs ds ρ:=by
 have e0:v.union (A0c [])=v:=by funext x;unfold View.union;cases v x<;>rfl
 have:=R_code (R:=R) (β:=[]) (k:=k) (cs:=cs) hk (A4h v) h fun e σ u hQ hB=>?_
 ·rwa [e0]at this
 ·obtain⟨h1,rfl,h3,h4⟩:=hQ
  refine⟨h1,?_⟩
  rw [h3]
  exact Mu.F_in ρ0 (fun a hf=>Abs.le (hq a hf) (A0e _ _)) h4
include A in
theorem R_less{its:List Item}(h:XG (R v) n b its cs ds ρ):XG (R (v.union (A0c β))) n b its cs ds ρ:=fun a hf=>Abs.le (h a hf) (A0e _ _)
include A in
theorem R_leV{u:View}{its:List Item}(hl:u.Le v)(h:XG (R u) n b its cs ds ρ):XG (R v) n b its cs ds ρ:=fun a hf=>Abs.le (h a hf) hl
def ThenO(R:View→Goroutine→Prop)(n:Nat)(b:Frame)(k:List Item)(cs:List Frame)(σ:St)(u:View):Prop:=Bok σ.β u→XG (R (u.union (A0c σ.β))) n b k cs σ.ds σ.ρ
theorem A2s{R:View→Goroutine→Prop}{n:Nat}{b:Frame}{k:List Item}{cs:List Frame}{ds:List Deferred}{ρ:Regs}{β:A0f}{v:View}(h:Bok β v→XG (R (v.union (A0c β))) n b k cs ds ρ):ThenO R n b k cs ⟨ds,ρ,β⟩ v:=h
theorem R_xo{ops:Array Oper}{i:Nat}{rest:List Nat}(hk:b.kind≠.early)(hb:Bok β v)(h:XOp P mn b.roundOf n ops i (fun _ _ _=>False) (ThenO R n b (.inRegion ops rest::k) cs) ⟨ds,ρ,β⟩ v):XG (R (v.union (A0c β))) n b (.inRegion ops (i::rest)::k) cs ds ρ:=R_xop hk hb h
theorem F_iter{S:Type}{R':S→Goroutine→Prop}{C:Code}{ρ':S→Regs}(μ:S→Nat)(Ok:S→Prop)
  (h:∀x,Ok x→(∀y,μ y<μ x→Ok y→XG (R' y) n b (.code C::.inLoop C::k) cs ds (ρ' y))→XG (R' x) n b (.code C::.inLoop C::k) cs ds (ρ' x)) :
  ∀x,Ok x→XG (R' x) n b (.code C::.inLoop C::k) cs ds (ρ' x):=by
 have key:∀m x,μ x<m→Ok x→XG (R' x) n b (.code C::.inLoop C::k) cs ds (ρ' x):=by
  intro m
  induction m with
  | zero=>intro x hx;omega
  | succ m ih=>intro x hx ho;exact h x ho fun y hy hoy=>ih y oM hoy
 exact fun x=>key (μ x+1) x (Nat.lt_succ_self _)
end
section
variable{P:Program}{mn:Who}(T:Tab P){rd:Option Nat}{n:Nat}{Q:Exit→St→View→Prop}{ds:List Deferred}{ρ:Regs}{β:A0f}{v:View}{K:St→View→Prop}
 {ops:Array Oper}{i:Nat}{d:Nat}{ty:TypeId}{pos:String}{af:Array Edge}{gu:Option (Nat×Bool)}
theorem A_ld{t e:TypeId}{y:Operand}{b off:Nat}{p:Bool}{c:Array Value}{f:Nat×Nat}{x:Value}(ho:ops[i]?=some ⟨some d,.load t y,ty,pos,af,gu⟩)(hw:A0r ops gu ρ=some true)(hn:Nat.blt d n=true)
  (hy:ρ.val y=some (.pointer (some ⟨b,off,none⟩)))(hb:v b=some (p,.cells c e f))(hx:A4n T t c off=some x)
  (h:K ⟨ds,(d,x)::ρ,β⟩ v):XOp P mn rd n ops i Q K ⟨ds,ρ,β⟩ v:=by
 refine A1u ho (A0l hw) (.inr Y) hn fun ev hev hbk=>?_
 unfold execOp
 simp only [Instr.loadAt,Instr.sureAddr,hev _ _ hy,A0b,A0h]
 exact A3j T (A0e _ _ _ _ hb) hx ⟨β,v,⟨hbk,Le.refl _⟩,h⟩
theorem A9u{t:TypeId}{z:Value}(ho:ops[i]?=some ⟨some d,.alloc t,ty,pos,af,gu⟩)(hw:A0r ops gu ρ=some true)(hn:Nat.blt d n=true)(hz:T.zer t=some z)
  (h:∀b,K ⟨ds,(d,.pointer (some ⟨b,0,none⟩))::ρ,(b,z.cells,t)::β⟩ v):XOp P mn rd n ops i Q K ⟨ds,ρ,β⟩ v:=by
 refine A1u ho (A0l hw) (.inr Y) hn fun ev hev hbk=>?_
 simp only [execOp,Instr.alloc,A0b,A8h T hz]
 refine B2j fun b hb'=>?_
 obtain⟨h1,h2⟩:=A8b (c:=z.cells) (t:=t) hbk hb'
 exact⟨_,v,⟨h1,h2⟩,h b⟩
theorem A_mk{op:Op}{x:Value}(ho:ops[i]?=some ⟨some d,op,ty,pos,af,gu⟩)(hw:A0r ops gu ρ=some true)(hn:Nat.blt d n=true)(hx:A1n T ρ.val op=some x)(h:K ⟨ds,(d,x)::ρ,β⟩ v)(hnd:A1y op=false:=by rfl):XOp P mn rd n ops i Q K ⟨ds,ρ,β⟩ v:=by
 refine A1u ho (A0l hw) (.inr hnd) hn fun ev hev hbk=>?_
 exact A5r T hev hx ⟨β,v,⟨hbk,Le.refl _⟩,h⟩
theorem A_ldB{t t':TypeId}{y:Operand}{b off:Nat}{c:Array Value}{x:Value}(ho:ops[i]?=some ⟨some d,.load t y,ty,pos,af,gu⟩)(hw:A0r ops gu ρ=some true)(hn:Nat.blt d n=true)
  (hy:ρ.val y=some (.pointer (some ⟨b,off,none⟩)))(hb:InB b c t' β)(hx:A4n T t c off=some x)
  (h:K ⟨ds,(d,x)::ρ,β⟩ v):XOp P mn rd n ops i Q K ⟨ds,ρ,β⟩ v:=by
 refine A1u ho (A0l hw) (.inr Y) hn fun ev hev hbk=>?_
 unfold execOp
 simp only [Instr.loadAt,Instr.sureAddr,hev _ _ hy,A0b,A0h]
 exact A3j T (A0p hbk hb) hx ⟨β,v,⟨hbk,Le.refl _⟩,h⟩
end
section
variable{P:Program}{mn:Who}{R:View→Goroutine→Prop}[A:Abs P mn R]{v:View}{g:Goroutine}{β β':A0f}
include A in
theorem Abs.drop(hs:Subm β' β)(hb:Bok β v)(h:R (v.union (A0c β')) g):R (v.union (A0c β)) g:=
 Abs.le h fun b x hx=>by
  unfold View.union at hx⊢
  cases hv:v b with
  | some y=>rw [hv]at hx;exact hx
  | none=>rw [hv]at hx;exact(A6n hs hb.nodup).2 b x hx
theorem row_same{v:View}{a:Option Addr}{xs:List Value}{n k:Nat}(h:RowAt v a xs)(hn:n≠0→xs≠[]):(if n=0 then a else a.map (·.add (0*k)))=a:=by
 split
 ·rfl
 ·rename_i h0
  rcases h with h|⟨b,off,p,c,e,f,rfl,_⟩
  ·exact absurd h (hn h0)
  ·rw [Option.map_some,A5w];simp
theorem OwnS.cap{e:TypeId}{k:Nat}{seg:A0f}{a:Option Addr}{len cap:Nat}{xs:List Value}(h:OwnS e k seg a len cap xs):len≤cap:=by
 cases h with
 | nil=>exact Nat.le_refl _
 | box _ h _ _=>exact h
theorem A5f{v:View}{β β1 β2:A0f}(hb:Bok β v)(hp:∀p,cnt p β=cnt p (β1++β2)):Bok β1 v∧Bok β2 (v.union (A0c β1))∧v.union (A0c β)=(v.union (A0c β1)).union (A0c β2):=by
 obtain⟨hb1,he⟩:=A3u (A2e (l:=β) (m:=β2++β1) fun p=>by rw [hp p,A0o,A0o];omega) hb
 obtain⟨hb2,hb3⟩:=bok_append.1 hb1
 exact⟨hb2,hb3,by rw [←he,A0v hb1]⟩
end
section
variable{P:Program}{mn:Who}{rd:Option Nat}{ops:Array Oper}{J:Nat}
def AnyJ(P:Program)(mn:Who)(ops:Array Oper)(J:Nat)(K:Act→View→Prop):Nat→Array Bool→Act→View→Prop
 | 0,listed,a,v=>Region.ready .any ops listed=[J]∧K a v
 | fuel+1,listed,a,v=>Region.ready .any ops listed≠[]∧∀i∈Region.ready .any ops listed,i≠J∧OpM P mn ops i (AnyJ P mn ops J K fuel (listed.setIfInBounds i true)) a v
theorem B3j{K:Act→View→Prop}(hK:∀a u v,View.Le u v→K a u→K a v):∀(fuel:Nat) (listed:Array Bool) (a:Act) (u v:View),View.Le u v→AnyJ P mn ops J K fuel listed a u→AnyJ P mn ops J K fuel listed a v
 | 0,_,_,_,_,hl,h=>⟨h.1,hK _ _ _ hl h.2⟩
 | fuel+1,listed,a,u,v,hl,h=>⟨h.1,fun i hi=>⟨(h.2 i hi).1,opM_weaken (fun a u v hl' hA=>B3j hK fuel _ a u v hl' hA) hl (h.2 i hi).2⟩⟩
theorem anyJ_first{K:Act→View→Prop}(hK:∀a u v,View.Le u v→K a u→K a v){i:Nat}{oi:Oper}{x:Value}(hi:ops[i]?=some oi)(hsel:∀(j:Nat) (o:Oper) cs b,ops[j]?=some o→o.op≠.select cs b)(hJ:depB ops i ops.size J=true)(hiJ:i≠J) :
  ∀ (fuel:Nat) (listed:Array Bool) (a:Act) (v:View),B1m ops listed→listed.size=ops.size→
   (∀j oj,ops[j]?=some oj→j≠i→listed.getD j true=false→(∀e∈oj.after,Region.binds .any e=true→e.on≠i)→oi.apart ops oj=true)→
   i∈Region.ready .any ops listed→YieldsX P mn ops oi x a v→
   AnyJ P mn ops J K fuel (listed.setIfInBounds i true) (a.put oi.dst x) v→AnyJ P mn ops J K (fuel+1) listed a v:=by
 have notJ:∀{listed:Array Bool} {j:Nat},B1m ops listed→listed.size=ops.size→i∈Region.ready .any ops listed→j∈Region.ready .any ops listed→j≠J:=fun {listed j} hc hsz hr hj e=>by
  subst e
  obtain⟨_,oj,hoj,hall⟩:=mem_ready.1 hj
  have h1:=dep_listed hc hsz _ j oj hoj hall hJ
  have h0:=(mem_ready.1 hr).1
  rcases Nat.lt_or_ge i listed.size with h'|h'
  ·simp [h']at h0 h1;rw [h0]at h1;cases h1
  ·simp [Array.getElem?_eq_none h']at h1
 have hKK:=fun fuel listed a u v hl hA=>B3j (P:=P) (mn:=mn) (ops:=ops) (J:=J) hK fuel listed a u v hl hA
 intro fuel
 induction fuel with
 | zero=>
  intro listed a v hc hsz _ hr hy H
  refine⟨fun h=>(by rw [h]at hr;cases hr),fun j hj=>⟨notJ hc hsz hr hj,?_⟩⟩
  by_cases hji:j=i
  ·subst hji;exact hy.opM hi (hKK 0 _) H
  ·have:=ready_mono hj hji
   rw [H.1]at this
   exact absurd (List.mem_singleton.1 this) (notJ hc hsz hr hj)
 | succ fuel ih=>
  intro listed a v hc hsz hfree hr hy H
  refine⟨fun h=>(by rw [h]at hr;cases hr),fun j hj=>⟨notJ hc hsz hr hj,?_⟩⟩
  by_cases hji:j=i
  ·subst hji;exact hy.opM hi (hKK _ _) H
  ·have h1:=(H.2 j (ready_mono hj hji)).2
   obtain⟨hjun,oj,hoj,hall⟩:=mem_ready.1 hj
   have hnot:∀e∈oj.after,Region.binds .any e=true→e.on≠i:=fun e he hb heq=>by
    have h1:=hall e he hb
    have h0:=(mem_ready.1 hr).1
    rw [heq]at h1
    rcases Nat.lt_or_ge i listed.size with h'|h'
    ·simp [h']at h0 h1;rw [h0]at h1;cases h1
    ·simp [Array.getElem?_eq_none h']at h1
   have h2:=opM_put hoj (hfree j oj hoj hji hjun hnot) (fun cs b=>hsel i oi cs b hi) (fun cs b=>hsel j oj cs b hoj) hy h1
   have hfree':∀k ok,ops[k]?=some ok→k≠i→(listed.setIfInBounds j true).getD k true=false→
     (∀e∈ok.after,Region.binds .any e=true→e.on≠i)→oi.apart ops ok=true:=fun k ok hk hki hun hno=>by
    refine hfree k ok hk hki ?_ hno
    by_cases hjk:j=k
    ·subst hjk;exact hjun
    ·rw [getD_set_ne true hjk]at hun;exact hun
   refine B1t (fun a' u _ h3=>ih (listed.setIfInBounds j true) a' u (A4z hc hj hsz) (by simp [hsz]) hfree' (ready_mono hr (Ne.symm hji)) h3.1 ?_) h2
   rw [Array.setIfInBounds_comm _ _ hji]
   exact h3.2
def lexJB(ops:Array Oper)(J:Nat):Nat→Nat→Array Bool→Bool
 | 0,_,listed=>(Region.ready .any ops listed) == [J]
 | n+1,k,listed=>(Region.ready .any ops listed).contains k&&Region.free .any ops listed k&&depB ops k ops.size J && !Nat.beq k J&&lexJB ops J n (k+1) (listed.setIfInBounds k true)
theorem anyJ_lex{K:Act→View→Prop}(hK:∀a u v,View.Le u v→K a u→K a v)(hs:Region.noSelect ops=true):∀(l:List Oper) (k:Nat) (listed:Array Bool) (a:Act) (v:View),B1m ops listed→listed.size=ops.size→(∀j,j<l.length→l[j]?=ops[k+j]?)→
  lexJB ops J l.length k listed=true→LexX P mn ops K l a v→AnyJ P mn ops J K l.length listed a v
 | [],_,_,_,_,_,_,_,hB,h=>⟨by simpa [lexJB]using hB,h⟩
 | o::l,k,listed,a,v,hc,hsz,hl,hB,h=>by
  have h0:ops[k]?=some o:=by simpa using (hl 0 sM).symm
  simp only [List.length_cons,lexJB,Bool.and_eq_true]at hB
  obtain⟨⟨⟨⟨hr,hf⟩,hd⟩,hkJ⟩,hB'⟩:=hB
  have hr':k∈Region.ready .any ops listed:=by simpa using hr
  obtain⟨x,hy,hA⟩:=h
  exact anyJ_first hK h0 (Region.noSelect_spec hs) hd (fun e=>by subst e;simp at hkJ) l.length listed a v hc hsz (Region.free_spec h0 hf) hr' hy
   (anyJ_lex hK hs l (k+1) _ _ _ (A4z hc hr' hsz) (by simp [hsz]) (fun j hj=>by have:=hl (j+1) (by simp;omega);simpa [Nat.add_assoc,Nat.add_comm 1 j]using this) hB' hA)
section
variable{R:View→Goroutine→Prop}{b:Frame}{k:List Item}{cs:List Frame}
theorem opM_run{i:Nat}{rest:List Nat}{a:Act}{v:View}(hk:b.kind≠.early)(hd:∀o,ops[i]?=some o→A1y o.op=false)(h:OpM P mn ops i (fun a' u=>Run P mn R u (G (b.on a' (.inRegion ops rest::k)) cs)) a v):Run P mn R v (G (b.on a (.inRegion ops (i::rest)::k)) cs):=by
 unfold OpM at h
 split at h
 ·rename_i ho
  refine Run.ctl Y (g':=G (b.on a (.inRegion ops rest::k)) cs) (fun w=>?_) h
  simp [G,stepG,stepG.exec,Frame.on,ho,Frame.finish]
 ·rename_i o ho
  split at h
  ·rename_i hw
   have hst:=fun w=>A2f (P:=P) (mn:=mn) (b:=b) (k:=k) (cs:=cs) (w:=w) (rest:=rest) ho hw (.inr (hd o ho))
   have hk':((b.on a (.inRegion ops (i::rest)::k)).kind==CallKind.early)=false:=by simpa [Frame.on]using hk
   have hfin:∀x,(b.on a (.inRegion ops (i::rest)::k)).finish x=b.on (a.put o.dst x) (.inRegion ops rest::k):=fun x=>A2o b a ops i rest k o x ho
   refine A6b (m:=execOp a.eval o) Y h (fun nx v' hK=>?_) (fun x v' hE=>hE.elim)
   cases nx with
   | value x=>
    refine⟨G (b.on (a.put o.dst x) (.inRegion ops rest::k)) cs,fun w w' es hrun=>⟨seen P b.fn es++#[],?_,fun e he=>mem_seen (by simpa using he)⟩,hK.2⟩
    rw [hst w,←hfin x]
    unfold stepG.apply
    simp only [if_true,hrun,hk',Bool.false_eq_true,if_false]
    rfl
   | skip=>
    refine⟨G (b.on (a.put o.dst undef) (.inRegion ops rest::k)) cs,fun w w' es hrun=>⟨seen P b.fn es++#[],?_,fun e he=>mem_seen (by simpa using he)⟩,hK.2⟩
    rw [hst w,←hfin undef]
    unfold stepG.apply
    simp only [if_true,hrun,hk',Bool.false_eq_true,if_false]
    rfl
   | enter f args=>
    refine⟨G (Frame.enter P f args .normal) (b.on a (.inRegion ops (i::rest)::k)::cs),fun w w' es hrun=>⟨seen P b.fn es++#[],?_,fun e he=>mem_seen (by simpa using he)⟩,?_⟩
    ·rw [hst w]
     unfold stepG.apply
     simp only [if_true,hrun,hk',Bool.false_eq_true,if_false]
     rfl
    ·refine hK _ _ cs Y fun e v'' hR=>?_
     cases e with
     | ret x=>show Run _ _ _ _ (G (Frame.finish _ _) _);rw [hfin x];exact hR.2
     | pan ch=>exact hR.2.elim
   | _=>exact hK.elim
  ·rename_i hw
   refine Run.ctl Y (g':=G (b.on (a.put o.dst undef) (.inRegion ops rest::k)) cs) (fun w=>?_) h
   rw [←A2o b a ops i rest k o undef ho]
   simp [G,stepG,stepG.exec,Frame.on,ho,hw]
theorem anyJ_run{K:Act→View→Prop}(hk:b.kind≠.early)(hd:∀(i:Nat) o,ops[i]?=some o→A1y o.op=false)(hK:∀a u,K a u→Run P mn R u (G (b.on a (.inRegion ops [J]::k)) cs)):∀(fuel t:Nat) (listed:Array Bool) (a:Act) (v:View),AnyJ P mn ops J K fuel listed a v→
  Run P mn R v (G (b.on a (.inRegion ops (Region.linearise.go .any ops (fuel+1) t listed [])::k)) cs):=by
 intro fuel
 induction fuel with
 | zero=>
  intro t listed a v h
  have e:Region.linearise.go .any ops (0+1) t listed []=[J]:=by
   simp only [Region.linearise.go]
   change (match (Region.ready .any ops listed)[t % (Region.ready .any ops listed).length]? with
    | some i=>Region.linearise.go .any ops 0 (t / (Region.ready .any ops listed).length) (listed.setIfInBounds i true) [i]
    | none=>[].reverse)=[J]
   rw [h.1]
   simp [Nat.mod_one,Region.linearise.go]
  rw [e]
  exact hK _ _ h.2
 | succ fuel ih=>
  intro t listed a v h
  obtain⟨h₀,h₁⟩:=h
  rw [show Region.linearise.go .any ops (fuel+1+1) t listed []=(match (Region.ready .any ops listed)[t % (Region.ready .any ops listed).length]? with
   | some i=>Region.linearise.go .any ops (fuel+1) (t / (Region.ready .any ops listed).length) (listed.setIfInBounds i true) [i]
   | none=>[].reverse)from by simp only [Region.linearise.go];rfl]
  cases hi:(Region.ready .any ops listed)[t % (Region.ready .any ops listed).length]? with
  | none=>
   exfalso
   cases hr:Region.ready .any ops listed with
   | nil=>exact h₀ hr
   | cons x xs=>
    rw [hr]at hi
    have hlt:t % (x::xs).length<(x::xs).length:=Nat.mod_lt _ sM
    rw [List.getElem?_eq_getElem hlt]at hi
    cases hi
  | some i=>
   simp only []
   rw [linearise_go_acc,List.reverse_singleton,List.singleton_append]
   exact opM_run hk (hd i) (B1t (fun a u _ hA=>ih _ _ a u hA) (h₁ i (List.mem_of_getElem? hi)).2)
end
section
variable{R:View→Goroutine→Prop}[A:Abs P mn R]{n:Nat}{b:Frame}{k:List Item}{cs:List Frame}{ρ:Regs}{v:View}{ds:List Deferred}{β:A0f}
def drawJB(ops:Array Oper)(J m:Nat):Bool:=Region.noSelect ops&&lexJB ops J m 0 (Array.replicate ops.size false)&&Nat.beq (m+1) ops.size&&ops.all (fun o=>!A1y o.op)
theorem R_drawJ{id:Nat}(J:Nat)(hk:b.kind≠.early)(hb:Bok β v)(hm:P.follows .mixedOrders=true)(hB:drawJB ops J J=true)
  (h:XL P mn n ops (Then R n b (.inRegion ops [J]::k) cs) (ops.toList.take J) ⟨ds,ρ,β⟩ v):XG (R (v.union (A0c β))) n b (.code (.region id ops true)::k) cs ds ρ:=fun a hf=>by
 obtain⟨l,hl0⟩:∃l,l=ops.toList.take J:=⟨_,rfl⟩
 have hlJ:l.length=J:=by
  simp only [drawJB,Bool.and_eq_true]at hB
  have:=Nat.eq_of_beq_eq_true hB.1.2
  rw [hl0,List.length_take,Array.length_toList];omega
 have hl:ops.toList.take l.length=l:=by rw [hlJ,←hl0]
 rw [←hl0]at h
 have hB:drawJB ops J l.length=true:=by rw [hlJ];exact hB
 simp only [drawJB,Bool.and_eq_true]at hB
 obtain⟨⟨⟨hb1,hb2⟩,hb3⟩,hb4⟩:=hB
 have hsz:l.length+1=ops.size:=Nat.eq_of_beq_eq_true hb3
 have hd:∀(i:Nat) o,ops[i]?=some o→A1y o.op=false:=fun i o ho=>by
  have:=Array.all_eq_true_iff_forall_mem.1 hb4 o (Array.mem_of_getElem? ho)
  simpa using this
 have hx:=h a ⟨hf.size,hf.defers,hf.get⟩ hb
 have hJ:=anyJ_lex (P:=P) (ops:=ops) (J:=J) (K:=fun a u=>Post n (Then R n b (.inRegion ops [J]::k) cs) .normal a u) (fun a u v hl hp=>by obtain⟨σ,u',h1,h2,h3,h4⟩:=hp;exact⟨σ,u',h1,h2,h3,h4.trans hl⟩) hb1 l 0 (Array.replicate ops.size false) a (v.union (A0c β))
  (fun j o ho hj=>by
   simp only [Array.getD_eq_getD_getElem?,Array.getElem?_replicate]at hj
   rw [if_pos (Array.getElem?_eq_some_iff.1 ho).1]at hj
   cases hj) sM (fun j hj=>by
   rw [←Array.getElem?_toList,Nat.zero_add]
   conv=>{lhs;rw [←hl] }
   rw [List.getElem?_take,if_pos hj]) hb2 hx
 refine A.run ?_
 refine Run.mk Y fun w hw=>?_
 refine⟨G (b.on a (.inRegion ops (Region.schedule (P.follows .mixedOrders) ops (w.tape w.drawn (.order b.fn id)))::k)) cs,{w with drawn:=w.drawn+1 },#[],v.union (A0c β),?_,?_,?_⟩
 ·simp [G,stepG,stepG.exec,Frame.on,choose,Sem.run,Question.forced,Question.cut]
 ·exact⟨hw,Y,Y,Y,Nat.le_refl _,fun _ _ _=>rfl,fun _ h=>.inl h,fun _ h=>.inl h,by simp⟩
 ·simp only [Region.schedule,hm,Bool.true_or,if_true]
  show Run _ _ _ _ (G (b.on a (.inRegion ops (Region.linearise.go .any ops ops.size _ (Array.replicate ops.size false) [])::k)) cs)
  rw [←hsz]
  rw [hsz]
  have:=anyJ_run (R:=R) (b:=b) (k:=k) (cs:=cs) hk hd (fun a u hp=>by
   obtain⟨σ,u',h1,h2,h3,h4⟩:=hp
   exact .stop h4 (h1.2 h3 a ⟨h2.size,h2.defers,h2.get⟩)) l.length (w.tape w.drawn (.order b.fn id)) _ a _ hJ
  rw [hsz]at this
  exact this
end
end
section
variable{P:Program}{mn:Who}(T:Tab P){rd:Option Nat}{n:Nat}{Q:Exit→St→View→Prop}{ds:List Deferred}{ρ:Regs}{β:A0f}{v:View}{K:St→View→Prop}
 {ops:Array Oper}{i:Nat}{d:Nat}{ty:TypeId}{pos:String}{af:Array Edge}{gu:Option (Nat×Bool)}
theorem A_clear0{t e:TypeId}{y:Operand}{a:Option Addr}{cap:Nat}(ho:ops[i]?=some ⟨none,.call {callee:=.builtin .clear,args:=#[y],argTypes:=#[t] },ty,pos,af,gu⟩)(hw:A0r ops gu ρ=some true)
  (hy:ρ.val y=some (.slice a 0 cap))(ht:T.und t=some (.slice e))(h:K ⟨ds,ρ,β⟩ v):XOp P mn rd n ops i Q K ⟨ds,ρ,β⟩ v:=by
 refine A1u ho (A0l hw) (.inr Y) Y fun ev hev hbk=>?_
 unfold execOp
 simp only [resolve,A0b,A0h,invoke,builtin]
 have h0:(#[y]:Array Operand).map ev=#[.slice a 0 cap]:=by simp [hev _ _ hy]
 rw [h0]
 unfold Builtin.clear_
 cases a<;>(simp only [List.getElem?_toArray,List.getElem?_cons_zero,A0b,A1h T ht,A0h];exact⟨β,v,⟨hbk,Le.refl _⟩,h⟩)
theorem A_clearS{t e:TypeId}{y:Operand}{a:Option Addr}{len cap k:Nat}{z:Value}{cs:List Value}{seg rest:A0f}(ho:ops[i]?=some ⟨none,.call {callee:=.builtin .clear,args:=#[y],argTypes:=#[t] },ty,pos,af,gu⟩)(hw:A0r ops gu ρ=some true)
  (hy:ρ.val y=some (.slice a len cap))(ht:T.und t=some (.slice e))(hz:T.zer e=some z)(hzs:z.cells.size=k)(hone:z.cells.toList.all A2k=true)(hS:OwnS e k seg a len cap cs)
  (h:∀seg',OwnS e k seg' a 0 cap []→K ⟨ds,ρ,seg'++rest⟩ v):XOp P mn rd n ops i Q K ⟨ds,ρ,seg++rest⟩ v:=by
 cases hS with
 | nil=>exact A_clear0 T ho hw hy ht (h [] .nil)
 | @box b c _ _ _ h1 h2 h3 h4=>
  cases len with
  | zero=>exact A_clear0 T ho hw hy ht (h [(b,c,e)] (.box sM (Nat.zero_le _) h3 (fun i x hx=>by simp at hx)))
  | succ len=>
   subst hzs
   refine A_clear T ho hw hy ht hz hone (InB.head (t:=e)) ?_ SetB.head (h [(b,_,e)] (.box sM (Nat.zero_le _) ?_ (fun i x hx=>by simp at hx)))
   ·rw [h3,Nat.zero_add];exact Nat.mul_le_mul_right _ h2
   ·rw [A3e,h3]
end
theorem A1m{bin rest:A0f}:∀p,cnt p (bin++rest)=cnt p (bin++rest):=fun _=>rfl
theorem A6f{bin:A0f}:∀p,cnt p bin=cnt p (bin++[]):=fun p=>by rw [List.append_nil]
theorem B0d{x:Nat×Array Value×TypeId}{β bin rest:A0f}(h:∀p,cnt p β=cnt p (bin++rest)):∀p,cnt p (x::β)=cnt p (bin++x::rest):=fun p=>by
 have:=h p
 simp only [A0o,A4g]at this⊢
 omega
section
variable{P:Program}{mn:Who}{rd:Option Nat}{n:Nat}{ops:Array Oper}{i:Nat}{l:List Oper}{c:Code}{Q:Exit→St→View→Prop}{ds:List Deferred}{ρ:Regs}{β:A0f}{v:View}
theorem B0u{bin rest:A0f}(hp:∀p,cnt p β=cnt p (bin++rest))(h:XR P mn rd n ops i l Q ⟨ds,ρ,bin++rest⟩ v):XR P mn rd n ops i l Q ⟨ds,ρ,β⟩ v:=fun hd a hf hb=>by
 obtain⟨hb1,he⟩:=A3u (A2e hp) hb
 rw [←he]
 exact h hd a ⟨hf.size,hf.defers,hf.get⟩ hb1
end
end Go.Pal
namespace Go.Pal
open Go Go.Conc View
section
variable{P:Program}{mn:Who}(T:Tab P){n:Nat}{Q:Exit→St→View→Prop}{ds:List Deferred}{ρ:Regs}{β:A0f}{v:View}{ops:Array Oper}{i:Nat}{d:Nat}{ty:TypeId}{pos:String}{af:Array Edge}{gu:Option (Nat×Bool)}
 {S:List Rec}{done:List Nat}{ms:List Nat}{v0:View}{todo:List Nat}
theorem S_slice_h{t e:TypeId}{y z1:Operand}{a:Option Addr}{len cap h' sz:Nat}{k1:IntKind}(ho:ops[i]?=some ⟨some d,.slice t y none (some z1) none,ty,pos,af,gu⟩)(hw:A0r ops gu ρ=some true)(hn:Nat.blt d n=true)(hB:B0c ops ms done i=true)
  (hy:ρ.val y=some (.slice a len cap))(ht:T.und t=some (.slice e))(hs:T.siz e=some sz)(hhi:ρ.val z1=some (.int k1 h'))(h2:h'≤cap)
  (h:XS P mn n ops ms v0 Q todo S (i::done) ⟨ds,(d,.slice (if cap=0 then a else a.map (·.add (0*sz))) (h'-0) (cap-0))::ρ,β⟩ v):XS P mn n ops ms v0 Q (i::todo) S done ⟨ds,ρ,β⟩ v:=
 A5m (vq:=fun _=>none) (x:=.slice (if cap=0 then a else a.map (·.add (0*sz))) (h'-0) (cap-0)) ho hn hB (fun a hf=>.inl ⟨A0n hf (A0l hw),fun u _=>by
  unfold QAt execOp
  simp only [Option.map_none,Option.map_some,Instr.sliceAt,Instr.slice,Instr.sliceBounds,A0m hf _ _ hy,A0m hf _ _ hhi,A0b,A0h,A1h T ht]
  refine A7v h2 ?_
  simp only [A3p T hs]
  exact⟨Le.refl _,trivial⟩⟩) (fun _ _ b x e=>by cases e) (B2l fun b x e=>by cases e) h
end
section
variable{P:Program}{mn:Who}{rd:Option Nat}{n:Nat}{ops:Array Oper}{i:Nat}{Q:Exit→St→View→Prop}{K:St→View→Prop}{σ:St}{v:View}
theorem A_bok(h:Bok σ.β v→XOp P mn rd n ops i Q K σ v):XOp P mn rd n ops i Q K σ v:=fun a hf hb=>h hb a hf hb
end
section
variable{P:Program}{mn:Who}{rd:Option Nat}{n:Nat}{Q:Exit→St→View→Prop}{ds:List Deferred}{ρ:Regs}{β:A0f}{v:View}{K:St→View→Prop}
 {ops:Array Oper}{i:Nat}{d:Nat}{ty:TypeId}{pos:String}{af:Array Edge}{gu:Option (Nat×Bool)}
theorem A_callP{f:Operand}{args:Array Operand}{ats:Array TypeId}{k:FuncId}{first captured:Array Value}{xs ys:List Value}{R:End→A0f→Prop}(bin rest:A0f)(ho:ops[i]?=some ⟨some d,.call {callee:=.value f,args:=args,argTypes:=ats },ty,pos,af,gu⟩)(hk:A0i P k)(hw:A0r ops gu ρ=some true)(hn:Nat.blt d n=true)
  (hf:ρ.val f=some (.func (.func k) first captured))(hxs:A2y ρ.val args.toList=some xs)(hys:first.toList++(xs++captured.toList)=ys)
  (hsplit:∀p,cnt p β=cnt p (bin++rest))(hc:CallsB P mn k ys.toArray R bin (v.union (A0c rest)))
  (hr:∀x β',R (.ret x) β'→K ⟨ds,(d,x)::ρ,β'++rest⟩ v)(hp:∀ch β',R (.pan ch) β'→Q (.panic ch) ⟨ds,ρ,β'++rest⟩ v):XOp P mn rd n ops i Q K ⟨ds,ρ,β⟩ v:=
 A_call bin rest ho hw hn hf hxs hk hsplit (by
  have:first++xs.toArray++captured=ys.toArray:=by rw [←hys];apply Array.ext';simp
  rw [this];exact hc) hr hp
end
section
variable{P:Program}{mn:Who}
theorem disj_le{u v F:View}(h:Disj v F)(hl:u.Le v):Disj u F:=fun b=>(h b).imp (fun e=>by
 cases hu:u b with
 | none=>rfl
 | some x=>rw [hl b x hu]at e;cases e) id
end
section
variable{P:Program}{mn:Who}{rd:Option Nat}{n:Nat}{Q:Exit→St→View→Prop}{ds:List Deferred}{ρ:Regs}{β:A0f}{v:View}{K:St→View→Prop}
 {ops:Array Oper}{i:Nat}{d:Nat}{ty:TypeId}{pos:String}{af:Array Edge}{gu:Option (Nat×Bool)}
theorem A_callX{f:Operand}{args:Array Operand}{ats:Array TypeId}{k:FuncId}{first captured:Array Value}{xs ys:List Value}{R:Value→View→Prop}(bin rest:A0f)(ho:ops[i]?=some ⟨some d,.call {callee:=.value f,args:=args,argTypes:=ats },ty,pos,af,gu⟩)(hk:A0i P k)(hw:A0r ops gu ρ=some true)(hn:Nat.blt d n=true)
  (hf:ρ.val f=some (.func (.func k) first captured))(hxs:A2y ρ.val args.toList=some xs)(hys:first.toList++(xs++captured.toList)=ys)
  (hsplit:∀p,cnt p β=cnt p (rest++bin))(hc:Bok bin v→CallsX P mn k ys.toArray (fun e u=>∃x,e = .ret x∧R x u) (v.union (A0c bin)))
  (hr:∀x u,R x u→K ⟨ds,(d,x)::ρ,rest⟩ u):XOp P mn rd n ops i Q K ⟨ds,ρ,β⟩ v:=by
 refine A1u ho (A0l hw) (.inr Y) hn fun ev hev hbk=>?_
 have ha:args.map ev=xs.toArray:=Array.toList_inj.1 (by simpa using A2h hev hxs)
 unfold execOp
 simp only [resolve,Deferred.ofValue,hev _ _ hf,ha,A0b,A0h,invoke]
 obtain⟨hb1,he⟩:=A3u (A2e hsplit) hbk
 obtain⟨hb2,hb3⟩:=bok_append.1 hb1
 have hc':=(hc hb2).frame hb3.disj
 have hys':first++xs.toArray++captured=ys.toArray:=by rw [←hys];apply Array.ext';simp
 rw [←A0v hb1,he,←hys']at hc'
 refine A5c hk (CallsX.mono hc' fun e w hR=>⟨w,Le.refl _,?_⟩)
 obtain⟨u,rfl,hd,x,rfl,hR⟩:=hR
 exact⟨rest,u,⟨⟨hb3.nodup,hd⟩,Le.refl _⟩,hr x u hR⟩
end
theorem vset_off{x:View}{b c:Nat}{p:Bool}{o:Obj}(h:c≠b):(x.set b p o) c=x c:=by unfold View.set;rw [if_neg h]
abbrev coll(r:Nat):Deferred:={target:=.collected r,args:=#[] }
section
variable{P:Program}{mn:Who}{Stop:View→Goroutine→Prop}{cs:List Frame}
theorem run_marks:∀(rs:List Nat) (w:View) (fr:Frame),fr.mode = .returning→fr.defers=rs.map coll→rs.Nodup→(∀r∈rs,w r=some (true,.deferred (some [])))→
  (∀w',(∀b,b∉rs→w' b=w b)→Run P mn Stop w' (G {fr with defers:=[] } cs))→Run P mn Stop w (G fr cs)
 | [],w,fr,hm,hd,_,_,h=>by
  have:=h w fun _ _=>rfl
  have e:({fr with defers:=[] }:Frame)=fr:=by cases fr;simp only [List.map_nil]at hd;subst hd;rfl
  rw [e]at this
  exact this
 | r::rs,w,fr,hm,hd,hn,hw,h=>by
  rw [List.nodup_cons]at hn
  refine A8z hm hd (hw r sM) ?_
  refine run_marks rs _ {fr with defers:=rs.map coll } hm rfl hn.2 (fun r' hr'=>?_) (fun w' hw'=>?_)
  ·rw [vset_off (fun e:r'=r=>hn.1 (e ▸ hr'))]
   exact hw r' (by simp [hr'])
  ·refine h w' fun b hb=>?_
   rw [List.mem_cons,not_or]at hb
   rw [hw' b hb.2,vset_off hb.1]
end
def CallV(P:Program)(mn:Who)(k:FuncId)(args:List Value)(R:Value→View→Prop)(v:View):Prop:=CallsX P mn k args.toArray (fun e u=>∃x,e = .ret x∧v.Le u∧R x u) v
section
variable{P:Program}{mn:Who}(T:Tab P){u v:View}{n:Nat}{ρ:Regs}{β:A0f}
def FnV(fn:Func)(R:Value→View→Prop)(v:View):Exit→St→View→Prop
 | .normal,σ,u | .ret,σ,u=>σ.ds=[]∧∃xs,ResL T σ.ρ σ.β fn.results.toList xs∧(Bok σ.β u→v.Le (u.union (A0c σ.β))∧R (A4e xs) (u.union (A0c σ.β)))
 | _,_,_=>False
theorem A2l{fn:Func}{R:Value→View→Prop}{xs:List Value}(h1:ResL T ρ β fn.results.toList xs)(hl:v.Le u)(h2:Bok β u→u.Le (u.union (A0c β))→R (A4e xs) (u.union (A0c β))):FnV T fn R v .ret ⟨[],ρ,β⟩ u:=⟨Y,xs,h1,fun hb=>⟨hl.trans (A0e _ _),h2 hb (A0e _ _)⟩⟩
theorem callV_fnB{f:FuncId}{fn:Func}{c:Code}{args:List Value}{R:Value→View→Prop}(hf:P.funcs[f]?=some fn)(hb:fn.body=some c)(hn:args.length≤fn.ntmps)(hl:v.Le (u.union (A0c β)))(hbk:Bok β u)
  (h:XC P mn none fn.ntmps c (FnV T fn R v) ⟨[],A2q 0 args,β⟩ u):CallsX P mn f args.toArray (fun e u=>∃x,e = .ret x∧v.Le u∧R x u) (u.union (A0c β)):=by
 refine A8j hf hb (A4t (h _ (A9m hn) hbk) ?_)
 rintro e a w ⟨⟨ds',ρ',β'⟩,u',hq,hf',hb',hl'⟩
 refine⟨u'.union (A0c β'),hl',?_⟩
 have hret:∀xs,ResL T ρ' β' fn.results.toList xs→(Bok β' u'→v.Le (u'.union (A0c β'))∧R (A4e xs) (u'.union (A0c β')))→SemX P (results fn a.tmps) (fun x v'=>∃y,End.ret x = .ret y∧v.Le v'∧R y v') (fun _ _=>False) (u'.union (A0c β')):=by
  intro xs hr hR
  obtain⟨h1,h2⟩:=hR hb'
  unfold results
  rw [A0b,Array.mapM_eq_mapM_toList,sx_map]
  refine sx_resL T hf' hb' (Le.refl _) hr ?_
  rw [A0h]
  refine⟨_,Y,h1,?_⟩
  match xs,h2 with
  | [],h2=>simpa [A4e]using h2
  | [x],h2=>simpa [A4e]using h2
  | x::y::r,h2=>simpa [A4e]using h2
 cases e with
 | normal=>obtain⟨h1,xs,h2,h3⟩:=hq;exact⟨hf'.defers.trans h1,hret xs h2 h3⟩
 | ret=>obtain⟨h1,xs,h2,h3⟩:=hq;exact⟨hf'.defers.trans h1,hret xs h2 h3⟩
 | panic ch=>exact hq.elim
 | exit id=>exact hq.elim
 | goto l=>exact hq.elim
 | outgrown=>exact hq.elim
theorem A3l{f:FuncId}{fn:Func}{c:Code}{args:List Value}{R:Value→View→Prop}(hf:P.funcs[f]?=some fn)(hb:fn.body=some c)(hn:args.length≤fn.ntmps)
  (h:XC P mn none fn.ntmps c (FnV T fn R v) ⟨[],A2q 0 args,[]⟩ v):CallV P mn f args R v:=by
 have:=callV_fnB T (R:=R) (v:=v) (β:=[]) hf hb hn (A0e _ _) (A4h _) h
 rwa [A1t]at this
theorem CallV.mono{k:FuncId}{args:List Value}{R R':Value→View→Prop}(h:CallV P mn k args R v)(hR:∀x u,v.Le u→R x u→R' x u):CallV P mn k args R' v:=
 CallsX.mono h fun e w ⟨x,h1,h2,h3⟩=>⟨w,Le.refl _,x,h1,h2,hR x w h2 h3⟩
theorem CallsB.toV{k:FuncId}{args:List Value}{R:Value→A0f→Prop}{R':Value→View→Prop}(h:CallsB P mn k args.toArray (RetB R) [] v)(hR:∀x β',R x β'→Bok β' v→R' x (v.union (A0c β'))):CallV P mn k args R' v:=by
 have h1:=h (A4h _)
 rw [A1t]at h1
 refine CallsX.mono h1 fun e w ⟨β',h2,h3,h4⟩=>⟨v.union (A0c β'),h4,?_⟩
 cases e with
 | ret x=>exact⟨x,rfl,A0e _ _,hR x β' h2 h3⟩
 | pan ch=>exact h2.elim
end
section
variable{P:Program}{mn:Who}{rd:Option Nat}{n:Nat}{Q:Exit→St→View→Prop}{ds:List Deferred}{ρ:Regs}{β:A0f}{v:View}{K:St→View→Prop}
 {ops:Array Oper}{i:Nat}{d:Nat}{ty:TypeId}{pos:String}{af:Array Edge}{gu:Option (Nat×Bool)}
theorem A_callV{f:Operand}{args:Array Operand}{ats:Array TypeId}{k:FuncId}{first captured:Array Value}{xs ys:List Value}{R:Value→View→Prop}(bin rest:A0f)(ho:ops[i]?=some ⟨some d,.call {callee:=.value f,args:=args,argTypes:=ats },ty,pos,af,gu⟩)(hk:A0i P k)(hw:A0r ops gu ρ=some true)(hn:Nat.blt d n=true)
  (hf:ρ.val f=some (.func (.func k) first captured))(hxs:A2y ρ.val args.toList=some xs)(hys:first.toList++(xs++captured.toList)=ys)
  (hsplit:∀p,cnt p β=cnt p (rest++bin))(hc:Bok bin v→CallV P mn k ys R (v.union (A0c bin)))
  (hr:∀x u,(v.union (A0c bin)).Le u→R x u→K ⟨ds,(d,x)::ρ,rest⟩ u):XOp P mn rd n ops i Q K ⟨ds,ρ,β⟩ v:=
 A_callX (R:=fun x u=>(v.union (A0c bin)).Le u∧R x u) bin rest ho hk hw hn hf hxs hys hsplit (fun hb=>CallsX.mono (hc hb) fun e w ⟨x,h1,h2,h3⟩=>⟨w,Le.refl _,x,h1,h2,h3⟩) (fun x u h=>hr x u h.1 h.2)
theorem A1r{f:Operand}{args:Array Operand}{ats:Array TypeId}{k:FuncId}{first captured:Array Value}{xs ys:List Value}{R:Value→View→Prop}(ho:ops[i]?=some ⟨some d,.call {callee:=.value f,args:=args,argTypes:=ats },ty,pos,af,gu⟩)(hk:A0i P k)(hw:A0r ops gu ρ=some true)(hn:Nat.blt d n=true)
  (hf:ρ.val f=some (.func (.func k) first captured))(hxs:A2y ρ.val args.toList=some xs)(hys:first.toList++(xs++captured.toList)=ys)(hc:CallV P mn k ys R v)
  (hr:∀x u,v.Le u→R x u→K ⟨ds,(d,x)::ρ,β⟩ u):XOp P mn rd n ops i Q K ⟨ds,ρ,β⟩ v:=
 A_callV (R:=R) [] β ho hk hw hn hf hxs hys (fun p=>by rw [List.append_nil]) (fun _=>by rw [A1t];exact hc) (fun x u hl hR=>hr x u (by rwa [A1t]at hl) hR)
end
theorem OwnS.two{e:TypeId}{k:Nat}{seg:A0f}{a:Option Addr}{len cap:Nat}{cs:List Value}(h:OwnS e k seg a len cap cs) :
  (seg=[]∧a=none∧len=0∧cap=0∧cs=[])∨∃b c,seg=[(b,c,e)]∧a=some ⟨b,0,none⟩∧OwnS e k [(b,c,e)] (some ⟨b,0,none⟩) len cap cs:=by
 cases h with
 | nil=>exact .inl ⟨rfl,rfl,rfl,rfl,rfl⟩
 | box h1 h2 h3 h4=>exact .inr ⟨_,_,rfl,rfl,.box h1 h2 h3 h4⟩
theorem InB.appA{b:Nat}{c:Array Value}{t:TypeId}{l r:A0f}(h:InB b c t r):InB b c t (List.append l r):=h.app
theorem SetB.appA{b:Nat}{c:Array Value}{l r r':A0f}(h:SetB b c r r'):SetB b c (List.append l r) (l++r'):=h.app
attribute [irreducible] FnV
end Go.Pal
end
