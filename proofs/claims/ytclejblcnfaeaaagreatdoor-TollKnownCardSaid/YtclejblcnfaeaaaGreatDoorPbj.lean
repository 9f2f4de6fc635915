/- Part 36. -/
import Derived.Test.YtclejblcnfaeaaaGreatDoorPbe
import Derived.Test.YtclejblcnfaeaaaGreatDoorPbf
import Derived.Test.YtclejblcnfaeaaaGreatDoorPbh
import Derived.Test.YtclejblcnfaeaaaGreatDoorPbi
set_option linter.all false
section
namespace Go.Proofs.YtclejblcnfaeaaaGreatDoor.S
open Go Go.Pal Go.Conc View
open Go.Proofs.YtclejblcnfaeaaaGreatDoor.W (zkk_pdq_step)
open Go.Proofs.Tryz
open Go.Proofs.YtclejblcnfaeaaaGreatDoor.W (wrapU wrapUr wrap8 len64_y len_x pow2_x next_x other)
open Go.Sort (swp PermIn SortedIn Below SWO)
set_option maxHeartbeats 4000000
section
variable{mn:Who}{v:View}{cap:Nat}{ζ:ZT}
structure PQ where
 x:Nat
 y:Nat
 lim:Nat
 wb:Bool
 wp:Bool
 d:Array E
 c:Array Value
def PdqS(mn:Who)(ζ:ZT)(cap N:Nat):Prop:=∀{v:View} {d:Array E} {c:Array Value} {b x y lim:Nat},zAt ζ v→y-x<N→DBz ζ cap d c→d.size<8192→x≤y→y≤d.size→lim<2^30→Below (ltE ζ) x y d→
 CallsB prog mn 139 #[slV b d.size cap,natV x,natV y,natV lim,cmV ζ] (RetB fun r β'=>r = .tuple #[]∧SBox ζ cap b (fun d'=>d'.size=d.size∧PermIn x y d d'∧SortedIn (ltE ζ) x y d') β') [(b,c,tE)] v
theorem pdq_step{N:Nat}(IH:PdqS mn ζ cap N):PdqS mn ζ cap (N+1):=by
 intro v d c b x y lim hP hN hD h256 hxy hy hlim hB
 exact zkk_pdq_step
theorem pdq_x:∀N,PdqS mn ζ cap N
 | 0=>fun _ h=>absurd h (Nat.not_lt_zero _)
 | N+1=>pdq_step (pdq_x N)
end
end Go.Proofs.YtclejblcnfaeaaaGreatDoor.S
end
section
namespace Go.Proofs.YtclejblcnfaeaaaGreatDoor.S
open Go Go.Pal Go.Conc View
open Go.Proofs.YtclejblcnfaeaaaGreatDoor.W (zkl_sort_x)
open Go.Proofs.Tryz
open Go.Proofs.YtclejblcnfaeaaaGreatDoor.W (wrapU wrapUr wrap8 len64_y len_x pow2_x next_x other)
open Go.Sort (swp PermIn SortedIn Below SWO)
set_option maxHeartbeats 4000000
section
variable{mn:Who}{v:View}{cap:Nat}{ζ:ZT}{d:Array E}{c:Array Value}
theorem sort_x{b:Nat}(hP:zAt ζ v)(hD:DBz ζ cap d c)(h256:d.size<8192) :
  CallsB prog mn 98 #[slV b d.size cap,cmV ζ] (RetB fun r β'=>r = .tuple #[]∧∃d' c',β'=[(b,c',187)]∧DBz ζ cap d' c'∧d'.size=d.size∧PermIn 0 d.size d d'∧SortedIn (ltE ζ) 0 d.size d') [(b,c,187)] v:=zkl_sort_x
end
end Go.Proofs.YtclejblcnfaeaaaGreatDoor.S
end
section
namespace Go.Pal
open Go Go.Conc View
def Aside(R:View→Goroutine→Prop)(F:View):View→Goroutine→Prop:=fun v g=>Disj v F→R (v.union F) g
theorem Abs.aside{P:Program}{mn:Who}{R:View→Goroutine→Prop}{F:View}(A:Abs P mn R):Abs P mn (Aside R F):=⟨fun h hd=>A.run ((h.frame hd).mono fun v' g' ⟨u,e,hd',hs⟩=>e ▸ .stop (Le.refl _) (hs hd'))⟩
section
variable{P:Program}{mn:Who}{n:Nat}{Q:Exit→St→View→Prop}{ds:List Deferred}{ρ:Regs}{β:A0e}{v:View}
theorem XC_rangeRet{fop:Operand}{params:Array Tmp}{assign body:Code}{kf:FuncId}{first captured:Array Value}(hf:ρ.val fop=some (.func (.func kf) first captured))(hB:A0i P kf)
  (h:∀(a:Act) (fn:FuncId) (r l:Nat),Fits n ⟨ds,ρ,β⟩ a→Bok β v→(v.union (A0c β)) r=none→(v.union (A0c β)) l=none→r≠l→∀(Stop:View→Goroutine→Prop) (c:Frame) (cs:List Frame),c.mode = .run→
   (∀x w lp,w l=some (true,.loop lp)→lp.state≠.busy→(∃β' v',Bok β' v'∧(v'.union (A0c β')).Le (w.set l true (.loop {lp with state:=.exhausted }))∧
    (lp.pending=none∧Q .normal ⟨coll r::ds,ρ,β'⟩ v'∨lp.pending=some .ret∧Q .ret ⟨coll r::ds,ρ,β'⟩ v'))→Run P mn Stop w (G (c.finish x) cs))→
   Run P mn Stop (((v.union (A0c β)).set r true (.deferred (some []))).set l true (.loop {state:=.ready,pending:=none,fn:=fn,tmps:=a.tmps,params:=params,assign:=assign,body:=body,defers:=r })) (G (Frame.enter P kf (first++#[.func (.yield l) #[] #[]]++captured) .normal) (c::cs))) :
  XC P mn none n (.rangeFunc fop params assign body) Q ⟨ds,ρ,β⟩ v:=fun a hf' hb Stop b k cs hk hr hq=>by
 refine A8i hk hr (A0k hf' _ _ hf) hB fun r l h1 h2 h3 c hc hend=>h a b.fn r l hf' hb h1 h2 h3 Stop c cs hc fun x w lp hl hns ⟨β',v',hb2,hle,hcase⟩=>hend Stop x w lp hl hns ?_
 have hfit:Fits n ⟨coll r::ds,ρ,β'⟩ ⟨a.tmps,{target:=.collected r,args:=#[] }::a.defers⟩:=⟨hf'.size,by show _::_=_::_;rw [hf'.defers],hf'.get⟩
 rcases hcase with ⟨hp,hQ⟩|⟨hp,hQ⟩
 ·rw [hp]at hle⊢
  exact hq .normal _ _ ⟨_,v',hQ,hfit,hb2,hle⟩
 ·rw [hp]at hle⊢
  exact hq .ret _ _ ⟨_,v',hQ,hfit,hb2,hle⟩ k
end
section
variable{P:Program}{mn:Who}(T:Tab P){v:View}
def FnVM(fn:Func)(R:Value→View→Prop)(v:View):Exit→St→View→Prop
 | .normal,σ,u | .ret,σ,u=>∃rs:List Nat,σ.ds=rs.map coll∧rs.Nodup∧(∀r∈rs,u r=some (true,.deferred (some []))∧v r=none)∧v.Le u∧∃xs,ResL T σ.ρ σ.β fn.results.toList xs∧(∀u0,Bok σ.β u0→v.Le u0→R (A3t xs) (u0.union (A0c σ.β)))
 | _,_,_=>False
theorem callV_fnVM{f:FuncId}{fn:Func}{c:Code}{args:List Value}{R:Value→View→Prop}(hf:P.funcs[f]?=some fn)(hb:fn.body=some c)(hn:args.length≤fn.ntmps)
  (h:XC P mn none fn.ntmps c (FnVM T fn R v) ⟨[],A2l 0 args,[]⟩ v):A6l P mn f args R v:=by
 intro Stop cf cs hc hR
 let b:Frame:={fn:=f,tmps:=#[],todo:=[],defers:=[],mode:=.run,kind:=.normal }
 have henter:Frame.enter P f args.toArray .normal=b.on {tmps:=args.toArray++Array.replicate (fn.ntmps-args.toArray.size) undef,defers:=[] } [.code c]:=by
  simp [Frame.enter,Frame.on,hf,hb,b]
 rw [henter]
 have h0:=h _ (B1y hn) (A4c _)
 rw [show v.union (A0c (St.β ⟨[],A2l 0 args,[]⟩))=v from A1r v]at h0
 refine h0 Stop b [] (cf::cs) (by simp [b]) Y fun e a' w hQ=>?_
 obtain⟨⟨ds',ρ',β'⟩,u,hq,hf',hb',hl⟩:=hQ
 have hgo:∀(fr:Frame) (rs:List Nat),fr.mode = .returning→fr.kind = .normal→fr.fn=f→fr.tmps=a'.tmps→fr.defers=rs.map coll→rs.Nodup→(∀r∈rs,u r=some (true,.deferred (some []))∧v r=none)→v.Le u→
   (∃xs,ResL T ρ' β' fn.results.toList xs∧(∀u0,Bok β' u0→v.Le u0→R (A3t xs) (u0.union (A0c β'))))→Run P mn Stop w (G fr (cf::cs)):=by
  intro fr rs h1 h2 h3 h4 h5 h6 h7 hvu ⟨xs,h8,h9⟩
  refine run_marks rs w fr h1 h5 h6 (fun r hr=>hl _ _ (A2t (h7 r hr).1)) (fun w' hw'=>?_)
  obtain⟨u0,hu0⟩:∃u0:View,u0=fun b=>if b∈rs then none else u b:=⟨_,rfl⟩
  have h0:u0.Le u:=fun b x hx=>by
   rw [hu0]at hx
   simp only at hx
   split at hx
   ·cases hx
   ·exact hx
  have hv0:v.Le u0:=fun b x hx=>by
   rw [hu0]
   simp only
   split
   ·rename_i hbr;rw [(h7 b hbr).2]at hx;cases hx
   ·exact hvu _ _ hx
  have hb0:Bok β' u0:=⟨hb'.nodup,disj_le hb'.disj h0⟩
  have hbn:∀r∈rs,A0c β' r=none:=fun r hr=>(hb'.disj r).resolve_left (by rw [(h7 r hr).1];simp)
  have hle:(u0.union (A0c β')).Le w':=fun b x hx=>by
   by_cases hbr:b∈rs
   ·exfalso
    unfold View.union at hx
    rw [hu0]at hx
    simp only [if_pos hbr]at hx
    rw [hbn b hbr]at hx
    cases hx
   ·rw [hw' b hbr]
    refine hl b x ?_
    unfold View.union at hx⊢
    rw [hu0]at hx
    simp only [if_neg hbr]at hx
    exact hx
  refine Run.weaken ?_ hle
  refine A6x (R:=fun e u=>∃x,e = .ret x∧v.Le u∧R x u) (by simpa using h1) Y (by simpa using h2) (by simpa [h3]using hf) ?_ hR
  simp only [h4]
  unfold results
  rw [A0a,Array.mapM_eq_mapM_toList,sx_map]
  refine sx_resL T (n:=fn.ntmps) (ds:=ds') hf' hb0 (Le.refl _) h8 ?_
  rw [A0h]
  refine⟨_,Y,hv0.trans (A0g _ _),?_⟩
  have h10:=h9 u0 hb0 hv0
  match xs,h10 with
  | [],h2=>simpa [A3t]using h2
  | [x],h2=>simpa [A3t]using h2
  | x::y::r,h2=>simpa [A3t]using h2
 cases e with
 | normal=>
  obtain⟨rs,h1,h2,h3,h4,h5⟩:=hq
  refine Run.ctl Y (g':=G {b.on a' []with mode:=.returning } (cf::cs)) (fun w=>by simp [G,stepG,stepG.exec,Frame.on,b]) ?_
  exact hgo _ rs Y Y Y Y (hf'.defers.trans h1) h2 h3 h4 h5
 | ret=>
  obtain⟨rs,h1,h2,h3,h4,h5⟩:=hq
  intro todo
  refine Run.ctl Y (g':=G {b.on a' (.code .ret::todo)with mode:=.returning } (cf::cs)) (fun w=>by simp [G,stepG,stepG.exec,Frame.on,b]) ?_
  exact hgo _ rs Y Y Y Y (hf'.defers.trans h1) h2 h3 h4 h5
 | panic ch=>exact hq.elim
 | exit id=>exact hq.elim
 | goto l=>exact hq.elim
 | outgrown=>exact hq.elim
theorem FnVM_ret{fn:Func}{R:Value→View→Prop}{u:View}{ds:List Deferred}{ρ:Regs}{β:A0e}{xs:List Value}(rs:List Nat)(hds:ds=rs.map coll)(hn:rs.Nodup)(hm:∀r∈rs,u r=some (true,.deferred (some []))∧v r=none)(hl:v.Le u)(hr:ResL T ρ β fn.results.toList xs)(hR:∀u0,Bok β u0→v.Le u0→R (A3t xs) (u0.union (A0c β))):FnVM T fn R v .ret ⟨ds,ρ,β⟩ u:=⟨rs,hds,hn,hm,hl,xs,hr,hR⟩
end
attribute [irreducible] FnVM
end Go.Pal
end
section
namespace Go.Proofs.YtclejblcnfaeaaaGreatDoor
open Go Go.Pal Go.Pal.To Go.Conc View
open Go.Proofs.Tryz
set_option maxHeartbeats 4000000
set_option maxRecDepth 20000
noncomputable def stTail:Code:=match f51.body with|some (.seq _ (.seq _ (.seq _ (.seq _ (.seq _ (.seq _ c))))))=>c|_=>.skip
noncomputable def stBod:Code:=match stTail with | .seq _ (.seq (.seq _ (.block _ (.loop (.seq _ (.seq _ (.seq (.block _ (.seq _ (.seq _ (.seq _ (.block _ (.rangeFunc _ _ _ c)))))) _)))))) _)=>c|_=>.skip
abbrev stReg(b6 b7 b8 b15 b16:Nat):Regs:=[(15,.pointer (some ⟨b15,0,none⟩)),(16,.pointer (some ⟨b16,0,none⟩)),(6,.pointer (some ⟨b6,0,none⟩)),(7,.pointer (some ⟨b7,0,none⟩)),(8,.pointer (some ⟨b8,0,none⟩))]
abbrev stBx(b6 b7 b8 b15 b16:Nat)(x6 x7 x8 xp xq:Value)(rest:A0e):A0e:=[(b6,List.toArray [x6],22),(b7,List.toArray [x7],22),(b8,List.toArray [x8],31),(b15,List.toArray [xp],22),(b16,List.toArray [xq],22)]++rest
noncomputable abbrev A3f (fn:FuncId) (tmps:Array Value) (r:Nat):Loop:={state:=.ready,pending:=none,fn:=fn,tmps:=tmps,params:=#[74],assign:=.skip,body:=stBod,defers:=r }
theorem set_set{u:View}{l:Nat}{p p':Bool}{o o':Obj}:(u.set l p o).set l p' o'=u.set l p' o':=by
 funext x
 unfold View.set
 split<;>rfl
section
variable{b6 b7 b8 b15 b16:Nat}{x6 x7 x8:Value}{ap aq:Option Addr}{np nq cp cq:Nat}{rest:A0e}
theorem stRound_x{fn:FuncId}{Stop:View→Goroutine→Prop}{l r:Nat}{tmps:Array Value}{u:View}{y:Value}{cf:Frame}{fs:List Frame}(hul:u l=some (true,.loop (A3f fn tmps r)))(hB:Bok (stBx b6 b7 b8 b15 b16 x6 x7 x8 (.slice ap np cp) (.slice aq nq cq) rest) u)
  (hfit:Fits f51.ntmps ⟨[],stReg b6 b7 b8 b15 b16,[]⟩ ⟨tmps,[]⟩)
  (hend:Run prog ⟨true,true⟩ Stop ((u.set l true (.loop (lpD (A3f fn tmps r)))).union (A0c (stBx b6 b7 b8 b15 b16 (.slice ap np cp) (.slice aq nq cq) (intV 0) (.slice ap np cp) (.slice aq nq cq) rest))) (G (cf.finish (.bool false)) fs)) :
  Run prog ⟨true,true⟩ Stop (u.union (A0c (stBx b6 b7 b8 b15 b16 x6 x7 x8 (.slice ap np cp) (.slice aq nq cq) rest))) (G (Frame.round l fn (((#[74]:Array Tmp).zip #[y]).foldl (fun tmps (t,a)=>tmps.setIfInBounds t a) tmps) .skip stBod .normal) (cf::fs)):=by
 have hfit2:Fits f51.ntmps ⟨[],(74,y)::stReg b6 b7 b8 b15 b16,stBx b6 b7 b8 b15 b16 x6 x7 x8 (.slice ap np cp) (.slice aq nq cq) rest⟩ ⟨tmps.setIfInBounds 74 y,[]⟩:=by
  have:=A0x (d:=some 74) (x:=y) hfit Y
  exact⟨this.size,this.defers,this.get⟩
 refine R_round (R:=Run prog ⟨true,true⟩ Stop) (m:=f51.ntmps) (ρ:=(74,y)::stReg b6 b7 b8 b15 b16) (Q:=fun e σ u'=>e = .normal∧u'=u∧σ=⟨[],(74,y)::stReg b6 b7 b8 b15 b16,stBx b6 b7 b8 b15 b16 x6 x7 x8 (.slice ap np cp) (.slice aq nq cq) rest⟩) hul Y hB (by simpa using hfit2) ?_ ?_
 ·exact B2l ⟨Y,Y,Y⟩
 ·rintro e σ u' ⟨rfl,rfl,rfl⟩ hB'
  refine⟨Y,Y,hul,fun _ k2=>?_⟩
  have hbk:(rdF fn l).kind≠.early:=by simp
  dsimp only
  rw [A2x]
  have hB2:=B0z (p':=true) (o':=.loop {A3f fn tmps r with state:=.busy }) hB hul
  refine B0b ?_
  refine A3i ?_
  refine R_co hbk hB2 ?_
  refine A1d [2,3,4] [0,1,2,3,4] A1e Y kR ?_
  refine su ?_
  refine A0y fun hβ=>?_
  refine k2 (Run prog ⟨true,true⟩ Stop) inferInstance _ _ _ _ (by exact A2t (by unfold View.set;rw [if_pos rfl])) ?_
  rw [A2x,set_set]
  exact hend
def stR(Stop:View→Goroutine→Prop)(N:Nat)(Fo Fn:A0e)(s:List Wy):View→Goroutine→Prop:=fun v g=>s.length≤N→Aside (Run prog ⟨true,true⟩ Stop) (if s.length=N then A0c Fo else A0c Fn) v g
theorem stR_abs{Stop:View→Goroutine→Prop}{N:Nat}{Fo Fn:A0e}(s:List Wy):Abs prog ⟨true,true⟩ (stR Stop N Fo Fn s):=⟨fun h hlen=>by
 haveI:Abs prog ⟨true,true⟩ (Run prog ⟨true,true⟩ Stop):=inferInstance
 exact(Abs.aside this).run (h.mono fun v g hR=>.stop (Le.refl _) (hR hlen))⟩
theorem union_none{u F:View}{b:Nat}(h:(u.union F) b=none):u b=none∧F b=none:=by
 unfold View.union at h
 cases e:u b with
 | none=>rw [e]at h;exact⟨rfl,h⟩
 | some x=>rw [e]at h;cases h
theorem bok_of{β:A0e}{v:View}(hn:(β.map (·.1)).Nodup)(hd:Disj v (A0c β)):Bok β v:=⟨hn,hd⟩
theorem stTakes_x{fn:FuncId}{Stop:View→Goroutine→Prop}{N l r:Nat}{tmps:Array Value}{V0:View}(hl:V0 l=some (true,.loop (A3f fn tmps r)))(hfit:Fits f51.ntmps ⟨[],stReg b6 b7 b8 b15 b16,[]⟩ ⟨tmps,[]⟩)
  (hnd:((stBx b6 b7 b8 b15 b16 x6 x7 x8 (.slice ap np cp) (.slice aq nq cq) rest).map (·.1)).Nodup) :
  Takes (stR Stop N (stBx b6 b7 b8 b15 b16 x6 x7 x8 (.slice ap np cp) (.slice aq nq cq) rest) (stBx b6 b7 b8 b15 b16 (.slice ap np cp) (.slice aq nq cq) (intV 0) (.slice ap np cp) (.slice aq nq cq) rest)) V0 l (A3f fn tmps r) false:=by
 intro w s u β y cf fs hu hβ hw hcf hend
 intro hlen
 have hs:s.length<N:=by simp only [List.length_cons]at hlen;omega
 have hend':=hend oM
 rw [if_neg oM]at hend'
 have hul:=hu _ _ hl
 have hul2:(u.union (A0c β)) l=some (true,.loop (A3f fn tmps r)):=A2t hul
 have key:∀{z6 z7 z8:Value},((stBx b6 b7 b8 b15 b16 z6 z7 z8 (.slice ap np cp) (.slice aq nq cq) rest).map (·.1)).Nodup→Disj (u.union (A0c β)) (A0c (stBx b6 b7 b8 b15 b16 z6 z7 z8 (.slice ap np cp) (.slice aq nq cq) rest))→
   Run prog ⟨true,true⟩ Stop ((u.union (A0c β)).union (A0c (stBx b6 b7 b8 b15 b16 z6 z7 z8 (.slice ap np cp) (.slice aq nq cq) rest))) (G (Frame.round l fn (((#[74]:Array Tmp).zip #[y]).foldl (fun tmps (t,a)=>tmps.setIfInBounds t a) tmps) .skip stBod .normal) (cf::fs)):=by
  intro z6 z7 z8 hn hd
  refine stRound_x hul2 (bok_of hn hd) hfit ?_
  have hB1:Bok (stBx b6 b7 b8 b15 b16 (.slice ap np cp) (.slice aq nq cq) (intV 0) (.slice ap np cp) (.slice aq nq cq) rest) (u.union (A0c β)):=A8r (bok_of hn hd) Y
  have hB2:=B0z (p':=true) (o':=.loop (lpD (A3f fn tmps r))) hB1 hul2
  have hle:(u.set l true (.loop (lpD (A3f fn tmps r)))).Le ((u.union (A0c β)).set l true (.loop (lpD (A3f fn tmps r)))):=set_le (A0g _ _)
  exact Run.weaken (hend' (disj_le hB2.disj hle)) (A2u hle hB2.disj)
 split
 ·exact fun hd=>key hnd hd
 ·exact fun hd=>key hnd hd
end
end Go.Proofs.YtclejblcnfaeaaaGreatDoor
end
section
namespace Go.Pal.To
def rightS(d:List Int)(a b:List MA)(p q:List Int):Prop:=To.ways (A3b a p) (A3b b q) ⟨[],[],d⟩≠[]
def A7t(d:List Int)(a b:List MA)(s:Nat):Prop:=rightS d a b (pL s a.length (a.length+b.length)) (qL s a.length (a.length+b.length))
def A8t(P:Int)(d:List Int)(a b:List MA)(r:Int×List Int×List Int):Prop:=
 if layE P d a b≠0 then r=(layE P d a b,[],[])else
  ∃ s,s<2 ^ (a.length+b.length)∧r=(0,pL s a.length (a.length+b.length),qL s a.length (a.length+b.length))∧A7t d a b s∧
   ∀t,t<2 ^ (a.length+b.length)→A7t d a b t→¬A5c (cntN t) (pL t a.length (a.length+b.length)) (qL t a.length (a.length+b.length)) (cntN s) (pL s a.length (a.length+b.length)) (qL s a.length (a.length+b.length))
theorem inL_iff{l:List Int}{n:Int}:inL l n=true↔n∈l:=by
 unfold inL
 rw [List.any_eq_true]
 constructor
 ·rintro⟨x,h1,h2⟩
  rw [beq_iff_eq]at h2
  rw [h2];exact h1
 ·intro h;exact⟨n,h,by simp⟩
theorem A6z:∀{l:List MA} {i:Nat} {out:List Int},(∀j,i≤j→j<i+l.length→(j:Int)∈out)→A2i i l out=[]
 | [],_,_,_=>rfl
 | x::l,i,out,h=>by
  unfold A2i
  rw [if_pos (inL_iff.2 (h i (Nat.le_refl _) sM))]
  exact A6z fun j h1 h2=>h j oM (by simp only [List.length_cons];omega)
theorem hasN_top:(List.range 9).all (fun n=>(List.range n).all fun i=>hasN (2 ^ n-1) i)=true:=by decide
theorem hasN_all{n i:Nat}(hn:n≤8)(hi:i<n):hasN (2 ^ n-1) i=true:=
 List.all_eq_true.1 (List.all_eq_true.1 hasN_top n (List.mem_range.2 oM)) i (List.mem_range.2 hi)
theorem mem_pL{s na i:Nat}{x:Int}:x∈pL s na i↔∃n,n<i∧hasN s n=true∧n<na∧x=n:=by
 unfold pL
 simp only [List.mem_map,List.mem_filter,List.mem_range,Bool.and_eq_true,decide_eq_true_eq]
 constructor
 ·rintro⟨n,⟨h1,h2,h3⟩,rfl⟩;exact⟨n,h1,h2,h3,rfl⟩
 ·rintro⟨n,h1,h2,h3,rfl⟩;exact⟨n,⟨h1,h2,h3⟩,rfl⟩
theorem mem_qL{s na i:Nat}{x:Int}:x∈qL s na i↔∃n,n<i∧hasN s n=true∧na≤n∧x=(n:Int)-na:=by
 unfold qL
 simp only [List.mem_map,List.mem_filter,List.mem_range,Bool.and_eq_true,Bool.not_eq_true',decide_eq_false_iff_not]
 constructor
 ·rintro⟨n,⟨h1,h2,h3⟩,rfl⟩;exact⟨n,h1,h2,oM,rfl⟩
 ·rintro⟨n,h1,h2,h3,rfl⟩;exact⟨n,⟨h1,h2,oM⟩,rfl⟩
theorem all_right{d:List Int}{a b:List MA}(h:a.length+b.length≤8):A7t d a b (2 ^ (a.length+b.length)-1):=by
 unfold A7t rightS
 have h1:A3b a (pL (2 ^ (a.length+b.length)-1) a.length (a.length+b.length))=[]:=A6z fun j _ hj=>mem_pL.2 ⟨j,oM,hasN_all h oM,oM,Y⟩
 have h2:A3b b (qL (2 ^ (a.length+b.length)-1) a.length (a.length+b.length))=[]:=A6z fun j _ hj=>mem_qL.2 ⟨a.length+j,oM,hasN_all h oM,oM,oM⟩
 rw [h1,h2,A7z]
 exact List.cons_ne_nil _ _
end Go.Pal.To
end
section
namespace Go.Proofs.YtclejblcnfaeaaaGreatDoor
open Go Go.Pal Go.Pal.To Go.Conc View
open Go.Proofs.Tryz
open Go.Sort (PermIn SortedIn)
set_option maxHeartbeats 4000000
set_option maxRecDepth 20000
def StrAt(u:View)(x:Value)(P:Int)(d:List Int)(a b:List MA):Prop:=∃ap cp aq cq,∃r:Int×List Int×List Int,x = .tuple (List.toArray [.slice ap r.2.1.length cp,.slice aq r.2.2.length cq,intV r.1])∧RowAt u ap (r.2.1.map intV)∧RowAt u aq (r.2.2.map intV)∧A8t P d a b r
structure StS where
 i:Nat
 rs:List Nat
def sp16(a b:List MA)(p q:List Int):Nat→List (Value×A0e)→Value→A0e→Prop
 | 4,_,y,β=>∃a' cap,y = .slice a' (A3b a p).length cap∧OwnS 40 4 β a' (A3b a p).length cap ((A3b a p).map MA.cells).flatten
 | _,_,y,β=>∃a' cap,y = .slice a' (A3b b q).length cap∧OwnS 40 4 β a' (A3b b q).length cap ((A3b b q).map MA.cells).flatten
section
variable{v u:View}{P:Int}{d:List Int}{a b:List MA}{aA aB:Option Addr}{cA cB dd b1 b4 b5 b6 b7 b8 b9 b10 b11 cap:Nat}{c:Array Value}
theorem stTail_x(hl:v.Le u)(hok:LOk P d a b)(hda:ActsAt u aA a)(hdb:ActsAt u aB b)(h9:∃p f,u b9=some (p,.cells (List.toArray [.pointer (some ⟨dd,0,none⟩),.slice aA a.length cA,.slice aB b.length cB]) 179 f))(hdd:∃p f x0 x1,u dd=some (p,.cells (owC x0 x1 d) 106 f))
  (h4:∃p f,u b4=some (p,.cells (List.toArray [.slice aA a.length cA]) 28 f))(h5:∃p f,u b5=some (p,.cells (List.toArray [.slice aB b.length cB]) 28 f))(h11:∃p f,u b11=some (p,.cells (List.toArray [.func (.func 97) #[] #[]]) 185 f))
  (hS:OwnS 187 1 [(b1,c,187)] (some ⟨b1,0,none⟩) (2 ^ (a.length+b.length)) cap ((List.range (2 ^ (a.length+b.length))).map u8V)) :
  XC prog ⟨true,true⟩ none f51.ntmps stTail (FnVM tab f51 (fun x w=>StrAt w x P d a b) v) ⟨[],[(10,.pointer (some ⟨b10,0,none⟩)),(11,.pointer (some ⟨b11,0,none⟩)),(4,.pointer (some ⟨b4,0,none⟩)),(5,.pointer (some ⟨b5,0,none⟩)),(6,.pointer (some ⟨b6,0,none⟩)),(7,.pointer (some ⟨b7,0,none⟩)),(8,.pointer (some ⟨b8,0,none⟩)),(9,.pointer (some ⟨b9,0,none⟩))],
   [(b6,List.toArray [.slice none 0 0],22),(b7,List.toArray [.slice none 0 0],22),(b8,List.toArray [intV 0],31),(b10,List.toArray [intV 0,.slice (some ⟨b1,0,none⟩) (2 ^ (a.length+b.length)) cap],184),(b1,c,187)]⟩ u:=by
 have hn8:a.length+b.length≤8:=by have:=hok.la;have:=hok.lb;omega
 have hN:2 ^ (a.length+b.length)≤256:=Nat.pow_le_pow_right dM hn8
 have hE:layE P d a b=0:=layE_ok.2 hok
 obtain⟨N,hNe⟩:∃N,N=2 ^ (a.length+b.length):=⟨_,rfl⟩
 rw [←hNe]at hS hN⊢
 obtain⟨p4,f4,hv4⟩:=h4
 obtain⟨p5,f5,hv5⟩:=h5
 obtain⟨p9,f9,hv9⟩:=h9
 obtain⟨p11,f11,hv11⟩:=h11
 obtain⟨pd,fd,y0,y1,hvd⟩:=hdd
 have hP:S.zAt ⟨b11,b4,b5,a.length,b.length⟩ u:=⟨hn8,⟨_,_,hv11⟩,⟨_,_,_,_,hv4⟩,⟨_,_,_,_,hv5⟩⟩
 have hD:S.DBz ⟨b11,b4,b5,a.length,b.length⟩ cap (List.range N).toArray c:=by
  refine⟨DB.of_own (l:=List.range N) (fun _=>rfl) (e:=187) (b:=b1) ?_ fun x hx=>?_⟩
  ·rw [List.length_range]
   refine hS.cast ?_
   induction List.range N with
   | nil=>rfl
   | cons x l ih=>simp only [List.map_cons,List.flatten_cons,ih];rfl
  ·have:=List.mem_range.1 hx
   show x<256
   omega
 obtain⟨d0,hd0⟩:∃d0,d0=(List.range N).toArray:=⟨_,rfl⟩
 rw [←hd0]at hD
 have hs0:d0.size=N:=by rw [hd0];simp
 have hcall:∀{F:View},CallsB prog ⟨true,true⟩ 98 #[S.slV b1 N cap,S.cmV ⟨b11,b4,b5,a.length,b.length⟩] (RetB fun r β'=>r = .tuple #[]∧(∃d' c',β'=[(b1,c',187)]∧S.DBz ⟨b11,b4,b5,a.length,b.length⟩ cap d' c'∧d'.size=d0.size∧PermIn 0 d0.size d0 d'∧SortedIn (S.ltE ⟨b11,b4,b5,a.length,b.length⟩) 0 d0.size d')) [(b1,c,187)] (u.union F):=fun {F}=>by
  have h1:=S.sort_x (mn:=⟨true,true⟩) (b:=b1) (S.zUp (F:=F) hP) hD oM
  rw [hs0]at h1⊢
  exact h1
 refine A4i ?_
 refine su ?_
 refine Q_op fun ho=>A0o [(b1,c,187)] [(b6,List.toArray [.slice none 0 0],22),(b7,List.toArray [.slice none 0 0],22),(b8,List.toArray [intV 0],31),(b10,List.toArray [intV 0,.slice (some ⟨b1,0,none⟩) N cap],184)] ho bod98 Y Y Y Y Y cntA (hcall) (fun x β' hR=>?_)
 clear ho hcall
 obtain⟨rfl,d',c',rfl,hD',hsz,hpm,hso⟩:=hR
 obtain⟨hp1,hp2⟩:=sort_lists hpm hso
 have hsz':d'.size=N:=hsz.trans hs0
 rw [hd0,List.toList_toArray]at hp1
 clear hD hpm hso hS hsz
 have hidx:∀t,t<N→∃j,j<N∧d'[j]! = t:=fun t ht=>by
  have hm:t∈d'.toList:=hp1.mem_iff.2 (List.mem_range.2 ht)
  obtain⟨j,hj,e⟩:=List.getElem_of_mem hm
  have hj':j<d'.size:=by simpa using hj
  exact⟨j,oM,by rw [getElem!_pos d' j hj'];simpa using e⟩
 have hsor:∀i j,i<j→j<N→¬A5c (cntN d'[j]!) (pL d'[j]! a.length (a.length+b.length)) (qL d'[j]! a.length (a.length+b.length)) (cntN d'[i]!) (pL d'[i]! a.length (a.length+b.length)) (qL d'[i]! a.length (a.length+b.length)):=fun i j hij hj=>by
  have h1:=List.pairwise_iff_getElem.1 hp2 i j (by simp;omega) (by simp;omega) hij
  rw [getElem!_pos d' i oM,getElem!_pos d' j oM,←cmS_lt]
  simp only [Array.getElem_toList]at h1
  have h2:decide (cmS a.length b.length d'[j] d'[i]<0)=false:=h1
  exact of_decide_eq_false h2
 refine su ?_
 refine A1q (α:=StS) (fun z=>⟨z.rs.map coll,[(51,.int .i64 z.i),(50,.int .i64 N),(49,.slice (some ⟨b1,0,none⟩) N cap),(4,.pointer (some ⟨b4,0,none⟩)),(5,.pointer (some ⟨b5,0,none⟩)),(6,.pointer (some ⟨b6,0,none⟩)),(7,.pointer (some ⟨b7,0,none⟩)),(8,.pointer (some ⟨b8,0,none⟩)),(9,.pointer (some ⟨b9,0,none⟩))],
   [(b6,List.toArray [.slice none 0 0],22),(b7,List.toArray [.slice none 0 0],22),(b8,List.toArray [intV 0],31),(b1,c',187)]⟩)
  (fun z w=>u.Le w∧z.i≤N∧z.rs.Nodup∧(∀r∈z.rs,w r=some (true,.deferred (some []))∧u r=none)∧∀j,j<z.i→¬A7t d a b d'[j]!) (fun z=>N-z.i) ⟨0,[]⟩ ⟨Y,rg,cntL⟩ (Le.refl _) ⟨Le.refl _,Nat.zero_le _,List.nodup_nil,(fun r hr=>by cases hr),(fun j hj=>absurd hj (Nat.not_lt_zero _))⟩ ?_
 rintro⟨i,rs⟩ w ⟨hw,hi,hnd,hrs,hno⟩
 simp only at hi hnd hrs hno
 dsimp only
 refine su ?_
 refine A1i Y (fun h=>?_) (fun h=>?_)
 ·replace h:=fa h
  have hlt:i<N:=oM
  have hid:i<d'.size:=by rw [hsz'];exact hlt
  have hrd:=hD'.rdE hid
  have hs256:=hD'.ok hid
  obtain⟨s,hs⟩:∃s,s=d'[i]!:=⟨_,rfl⟩
  rw [←hs]at hrd hs256
  have hev:S.eV s=u8V s:=by unfold S.eV;rfl
  rw [hev]at hrd
  refine su ?_
  refine A6d tab i Y Y Y Y Y Y Y hlt ?_
  refine Q_loadB tab Y Y Y ib hrd ?_
  refine su ?_
  refine A2b tab Y Y Y (hw _ _ hv4) (A0l tab Y Y Y Y) ?_
  refine su ?_
  refine A2b tab Y Y Y (hw _ _ hv5) (A0l tab Y Y Y Y) ?_
  refine su ?_
  refine Q_op fun ho=>A0o [] _ ho bod100 Y Y Y Y Y A7s (lists_x hs256 hn8) (fun x β' hR=>?_)
  clear ho
  obtain⟨sp,sq,ap,aq,cp,cq,rfl,rfl,hp,hq⟩:=hR
  refine sw fun bx=>?_;refine sw fun bx=>?_
  rename_i b15
  obtain⟨b16,rfl⟩:∃x:Nat,x=bx:=⟨bx,rfl⟩
  obtain⟨np,hnp⟩:∃x,x=(pL s a.length (a.length+b.length)).length:=⟨_,rfl⟩
  obtain⟨nq,hnq⟩:∃x,x=(qL s a.length (a.length+b.length)).length:=⟨_,rfl⟩
  rw [←hnp]at hp⊢
  rw [←hnq]at hq⊢
  have hpl:=pL_len s a.length (a.length+b.length)
  have hql:=qL_len s a.length (a.length+b.length)
  refine XC_sub (τ:=⟨rs.map coll,[(15,.pointer (some ⟨b15,0,none⟩)),(16,.pointer (some ⟨b16,0,none⟩)),(51,.int .i64 i),(50,.int .i64 N),(49,.slice (some ⟨b1,0,none⟩) N cap),(4,.pointer (some ⟨b4,0,none⟩)),(5,.pointer (some ⟨b5,0,none⟩)),(6,.pointer (some ⟨b6,0,none⟩)),(7,.pointer (some ⟨b7,0,none⟩)),(8,.pointer (some ⟨b8,0,none⟩)),(9,.pointer (some ⟨b9,0,none⟩))],
   stBx b6 b7 b8 b15 b16 (.slice none 0 0) (.slice none 0 0) (intV 0) (.slice ap np cp) (.slice aq nq cq) ((sp++sq)++[(b1,c',187)])⟩) ?_ ⟨rfl,rg,show Subm (stBx b6 b7 b8 b15 b16 (.slice none 0 0) (.slice none 0 0) (intV 0) (.slice ap np cp) (.slice aq nq cq) ((sp++sq)++[(b1,c',187)])) ((b16,List.toArray [.slice aq nq cq],22)::(b15,List.toArray [.slice ap np cp],22)::((sp++sq)++[(b6,List.toArray [.slice none 0 0],22),(b7,List.toArray [.slice none 0 0],22),(b8,List.toArray [intV 0],31),(b1,c',187)]))from cntL⟩ (Le.refl _)
  refine A1d [4,7,9] [0,1,2,3,5,6,4,7,8,9] A1e Y kR ?_
  refine su ?_
  refine A8v tab Y Y Y kR Y (hw _ _ hv9) (A0l tab Y Y Y Y) ?_
  refine su ?_
  refine A8v tab Y Y Y kR Y (hw _ _ hv4) (A0l tab Y Y Y Y) ?_
  refine su ?_
  refine A8v tab Y Y Y kR Y (hw _ _ hv5) (A0l tab Y Y Y Y) ?_
  refine su ?_
  refine S_net (Sp:=sp16 a b (pL s a.length (a.length+b.length)) (qL s a.length (a.length+b.length))) (pre:=fun _=>[]) [4,7] (fun i=>i+64) dM dM (fun i hi=>?_) dM (fun i hi=>?_) (by repeat (first|exact trivial|(refine⟨?_,?_⟩;focus exact ib))) kR (fun j hj zc hc u' hu'=>?_) (fun zc hc=>?_)
  ·simp only [List.mem_cons,List.not_mem_nil,or_false]at hi
   rcases hi with rfl|rfl<;>rfl
  ·simp only [List.mem_cons,List.not_mem_nil,or_false]at hi
   rcases hi with rfl|rfl<;>exact⟨fun o ho=>by cases ho;rfl,rfl⟩
  ·simp only [List.mem_cons,List.not_mem_nil,or_false]at hj
   rcases hj with rfl|rfl
   ·refine A_bok fun hbk=>?_
    have hbk:Bok (stBx b6 b7 b8 b15 b16 (.slice none 0 0) (.slice none 0 0) (intV 0) (.slice ap np cp) (.slice aq nq cq) ((sp++sq)++[(b1,c',187)])) u':=hbk
    have hct:=without_x (mn:=⟨true,true⟩) (cA:=cA) (cO:=cp) ((hda.le (hw.trans hu')).le (A0g _ _)) (RowAt.own hbk (show Subm sp (stBx b6 b7 b8 b15 b16 (.slice none 0 0) (.slice none 0 0) (intV 0) (.slice ap np cp) (.slice aq nq cq) ((sp++sq)++[(b1,c',187)]))from cntL) hp) oM oM
    rw [←hnp]at hct
    exact A0o [] _ Y bod102 Y Y Y Y Y A7s hct (fun x β' hR=>⟨Y,_,_,hR,Y⟩)
   ·refine A_bok fun hbk=>?_
    have hbk:Bok (stBx b6 b7 b8 b15 b16 (.slice none 0 0) (.slice none 0 0) (intV 0) (.slice ap np cp) (.slice aq nq cq) ((sp++sq)++[(b1,c',187)])) u':=hbk
    have hct:=without_x (mn:=⟨true,true⟩) (cA:=cB) (cO:=cq) ((hdb.le (hw.trans hu')).le (A0g _ _)) (RowAt.own hbk (show Subm sq (stBx b6 b7 b8 b15 b16 (.slice none 0 0) (.slice none 0 0) (intV 0) (.slice ap np cp) (.slice aq nq cq) ((sp++sq)++[(b1,c',187)]))from cntL) hq) oM oM
    rw [←hnq]at hct
    exact A0o [] _ Y bod102 Y Y Y Y Y A7s hct (fun x β' hR=>⟨Y,_,_,hR,Y⟩)
  ·obtain⟨aX,cX,e4,hSX⟩:sp16 a b (pL s a.length (a.length+b.length)) (qL s a.length (a.length+b.length)) 4 [] (zc 4).1 (zc 4).2:=hc 4 dM
   obtain⟨aY,cY,e7,hSY⟩:sp16 a b (pL s a.length (a.length+b.length)) (qL s a.length (a.length+b.length)) 7 [] (zc 7).1 (zc 7).2:=hc 7 dM
   simp only [netR,netβ,e4,e7]
   generalize (zc 4).2=βX at hSX⊢
   generalize (zc 7).2=βY at hSY⊢
   clear e4 e7 hc
   refine su ?_
   refine S_do kR (A0o [] _ Y bod103 Y Y Y Y Y A7s (waysF_x ⟨_,Y⟩) (fun x β' hR=>⟨Le.refl _,?_,?_⟩))
   ·exact kp
   obtain⟨b2,b3,rfl,rfl⟩:=hR
   refine su ?_
   obtain⟨β1,hβ1⟩:∃x:A0e,x=[(b3,List.toArray [.slice none 0 0],22),(b2,List.toArray [.pointer (some ⟨dd,0,none⟩),.slice aX (A3b a (pL s a.length (a.length+b.length))).length cX,.slice aY (A3b b (qL s a.length (a.length+b.length))).length cY],179)]++(βX++βY):=⟨_,rfl⟩
   refine XC_retire (β1:=β1) (β2:=stBx b6 b7 b8 b15 b16 (.slice none 0 0) (.slice none 0 0) (intV 0) (.slice ap np cp) (.slice aq nq cq) ((sp++sq)++[(b1,c',187)])) (by rw [hβ1];exact(show ∀p,Pal.cnt p ([(b3,List.toArray [.slice none 0 0],22),(b2,List.toArray [.pointer (some ⟨dd,0,none⟩),.slice aX (A3b a (pL s a.length (a.length+b.length))).length cX,.slice aY (A3b b (qL s a.length (a.length+b.length))).length cY],179)]++(βX++(βY++stBx b6 b7 b8 b15 b16 (.slice none 0 0) (.slice none 0 0) (intV 0) (.slice ap np cp) (.slice aq nq cq) ((sp++sq)++[(b1,c',187)]))))=Pal.cnt p (([(b3,List.toArray [.slice none 0 0],22),(b2,List.toArray [.pointer (some ⟨dd,0,none⟩),.slice aX (A3b a (pL s a.length (a.length+b.length))).length cX,.slice aY (A3b b (qL s a.length (a.length+b.length))).length cY],179)]++(βX++βY))++stBx b6 b7 b8 b15 b16 (.slice none 0 0) (.slice none 0 0) (intV 0) (.slice ap np cp) (.slice aq nq cq) ((sp++sq)++[(b1,c',187)]))from cntA)) (fun hb1=>?_)
   have hv3:=A0q hb1 (b:=b3) (c:=List.toArray [.slice none 0 0]) (t:=22) (by rw [hβ1];exact ib)
   have hv2:=A0q hb1 (b:=b2) (c:=List.toArray [.pointer (some ⟨dd,0,none⟩),.slice aX (A3b a (pL s a.length (a.length+b.length))).length cX,.slice aY (A3b b (qL s a.length (a.length+b.length))).length cY]) (t:=179) (by rw [hβ1];exact ib)
   have hrX:ActsAt _ aX _:=RowAt.own hb1 (by rw [hβ1];exact cntL) hSX
   have hrY:ActsAt _ aY _:=RowAt.own hb1 (by rw [hβ1];exact cntL) hSY
   have hw2:=A0g w (A0c β1)
   generalize w.union (A0c β1)=u2 at *
   clear hb1 hβ1 hSX hSY
   refine XC_rangeRet (first:=#[]) (captured:=List.toArray [.pointer (some ⟨b2,0,none⟩),.pointer (some ⟨b3,0,none⟩)]) Y bod142 (fun ac fn r l hfit hB hr hlo hrl Stop cf fs hcm hcont=>?_)
   obtain⟨hr1,hr2⟩:=union_none hr
   obtain⟨hl1,hl2⟩:=union_none hlo
   have hB1:=(B2f (p:=true) (o:=.deferred (some [])) hB hr2).1
   have hB2:=(B2f (p:=true) (o:=.loop (A3f fn ac.tmps r)) hB1 hl2).1
   rw [A2x,A2x]
   obtain⟨V0,hV0⟩:∃V0,V0=(u2.set r true (.deferred (some []))).set l true (.loop (A3f fn ac.tmps r)):=⟨_,rfl⟩
   have hVl:V0 l=some (true,.loop (A3f fn ac.tmps r)):=by rw [hV0];unfold View.set;rw [if_pos rfl]
   have hVr:V0 r=some (true,.deferred (some [])):=by rw [hV0];unfold View.set;rw [if_neg hrl,if_pos rfl]
   have h2V:u2.Le V0:=fun b' x hx=>by
    rw [hV0]
    refine A2r (A2r hx (fun e=>?_)) (fun e=>?_)
    ·subst e;rw [hr1]at hx;cases hx
    ·subst e;rw [hl1]at hx;cases hx
   rw [←hV0]at hB2
   show Run prog ⟨true,true⟩ Stop (((u2.set r true (.deferred (some []))).set l true (.loop (A3f fn ac.tmps r))).union (A0c (stBx b6 b7 b8 b15 b16 (.slice none 0 0) (.slice none 0 0) (intV 0) (.slice ap np cp) (.slice aq nq cq) ((sp++sq)++[(b1,c',187)])))) _
   rw [←hV0]
   have huV:=(hw.trans hw2).trans h2V
   obtain⟨Wl,hWl⟩:∃Wl,Wl=A3e [] (A3b a (pL s a.length (a.length+b.length))) (A3b b (qL s a.length (a.length+b.length))) ⟨[],[],d⟩:=⟨_,rfl⟩
   haveI hAbs:∀s,Abs prog ⟨true,true⟩ (stR Stop Wl.length (stBx b6 b7 b8 b15 b16 (.slice none 0 0) (.slice none 0 0) (intV 0) (.slice ap np cp) (.slice aq nq cq) ((sp++sq)++[(b1,c',187)])) (stBx b6 b7 b8 b15 b16 (.slice ap np cp) (.slice aq nq cq) (intV 0) (.slice ap np cp) (.slice aq nq cq) ((sp++sq)++[(b1,c',187)])) s):=fun s=>stR_abs s
   have hmd:=hok.m.len
   have hx:=ways1_x (R:=stR Stop Wl.length (stBx b6 b7 b8 b15 b16 (.slice none 0 0) (.slice none 0 0) (intV 0) (.slice ap np cp) (.slice aq nq cq) ((sp++sq)++[(b1,c',187)])) (stBx b6 b7 b8 b15 b16 (.slice ap np cp) (.slice aq nq cq) (intV 0) (.slice ap np cp) (.slice aq nq cq) ((sp++sq)++[(b1,c',187)]))) (V0:=V0) (l:=l) (lp:=A3f fn ac.tmps r) (t:=false) (bd:=b2) (bm:=b3) (dd:=dd) (a:=A3b a (pL s a.length (a.length+b.length))) (b:=A3b b (qL s a.length (a.length+b.length))) (g:=[]) (os:=d) (H:=d.length) (s:=[]) (u:=V0) (cf:=cf) (fs:=fs)
    ⟨_,_,aX,cX,aY,cY,h2V _ _ hv2,hrX.le h2V,hrY.le h2V⟩ ⟨_,_,_,_,huV _ _ hvd⟩ ⟨_,_,none,0,h2V _ _ hv3,.inl Y⟩ hVl Y
    (stTakes_x hVl ⟨hfit.size,Y,fun t x hx=>hfit.get t x (Mu.rin_get (by exact⟨Y,Y,Y,Y,Y,trivial⟩) t x hx)⟩ hB.nodup)
    (by have:=A5h (l:=a) (i:=0) (out:=pL s a.length (a.length+b.length));have:=A5h (l:=b) (i:=0) (out:=qL s a.length (a.length+b.length));unfold A3b;omega)
    (fun x hx=>fit_ok hok.a x (A5g hx)) (fun x hx=>fit_ok hok.b x (A5g hx)) hmd.2 Y (Le.refl _) hcm ?_
   ·rw [List.append_nil,←hWl]at hx
    have:=hx (Nat.le_refl _)
    rw [if_pos rfl]at this
    exact this hB2.disj
   ·rw [←hWl]
    rw [waysG_none]at hWl
    have hB3:∀{o:Obj},Bok (stBx b6 b7 b8 b15 b16 (.slice none 0 0) (.slice none 0 0) (intV 0) (.slice ap np cp) (.slice aq nq cq) ((sp++sq)++[(b1,c',187)])) (V0.set l true o):=fun {o}=>B0z hB2 hVl
    have hset:∀{o:Obj} {b':Nat} {x:Bool×Obj},u2 b'=some x→(V0.set l true o) b'=some x:=fun {o b' x} hx=>A2r (h2V _ _ hx) (fun e=>by subst e;rw [hl1]at hx;cases hx)
    have hur:u r=none:=by
     cases e:u r with
     | none=>rfl
     | some x=>rw [(hw.trans hw2) _ _ e]at hr1;cases hr1
    have hrn:r∉rs:=fun h=>by
     have:=hw2 _ _ (hrs r h).1
     rw [hr1]at this;cases this
    have hmarks:∀{o:Obj},∀r'∈r::rs,(V0.set l true o) r'=some (true,.deferred (some []))∧u r'=none:=fun {o} r' hr'=>by
     rcases List.mem_cons.1 hr' with rfl|hr'
     ·exact⟨A2r hVr hrl,hur⟩
     ·exact⟨hset (hw2 _ _ (hrs r' hr').1),(hrs r' hr').2⟩
    have huS:∀{o:Obj},u.Le (V0.set l true o):=fun {o} b' x hx=>hset ((hw.trans hw2) _ _ hx)
    cases hWc:Wl with
    | nil=>
     rw [(end_nil false []).1,(end_nil false []).2]
     intro _ hdj
     rw [if_pos rfl]
     refine hcont _ _ (A3f fn ac.tmps r) (A2t hVl) sM ⟨stBx b6 b7 b8 b15 b16 (.slice none 0 0) (.slice none 0 0) (intV 0) (.slice ap np cp) (.slice aq nq cq) ((sp++sq)++[(b1,c',187)]),V0.set l true (.loop {A3f fn ac.tmps r with state:=.exhausted }),hB3,?_,.inl ⟨rfl,?_⟩⟩
     ·rw [A2x];exact Le.refl _
     ·refine su ?_
      refine A0b ⟨⟨i+1,r::rs⟩,V0.set l true (.loop {A3f fn ac.tmps r with state:=.exhausted }),by simp only;omega,⟨Y,rg,?_⟩,Le.refl _,huS,hlt,List.nodup_cons.2 ⟨hrn,hnd⟩,hmarks,fun j hj=>?_⟩
      ·exact(show Subm [(b6,List.toArray [.slice none 0 0],22),(b7,List.toArray [.slice none 0 0],22),(b8,List.toArray [intV 0],31),(b1,c',187)] (stBx b6 b7 b8 b15 b16 (.slice none 0 0) (.slice none 0 0) (intV 0) (.slice ap np cp) (.slice aq nq cq) ((sp++sq)++[(b1,c',187)]))from cntL)
      ·rcases Nat.lt_succ_iff_lt_or_eq.1 hj with hj|rfl
       ·exact hno j hj
       ·unfold A7t rightS
        rw [←hs]
        exact fun h=>h (hWl ▸ hWc)
    | cons w0 ws=>
     show stR Stop _ _ _ (ws++[]) (aft l (A3f fn ac.tmps r) false V0) _
     rw [List.append_nil]
     intro _ hdj
     rw [if_neg sM]
     refine hcont _ _ (lpD (A3f fn ac.tmps r)) (A2t (by unfold aft View.set;simp)) (by simp [lpD]) ⟨stBx b6 b7 b8 b15 b16 (.slice ap np cp) (.slice aq nq cq) (intV 0) (.slice ap np cp) (.slice aq nq cq) ((sp++sq)++[(b1,c',187)]),V0.set l true (.loop {lpD (A3f fn ac.tmps r)with state:=.exhausted }),A8r hB3 rfl,?_,.inr ⟨rfl,?_⟩⟩
     ·rw [A2x]
      show(View.union _ _).Le (((V0.set l true _).set l true _).union _)
      rw [set_set]
      exact Le.refl _
     ·refine su ?_
      refine FnVM_ret tab (r::rs) Y (List.nodup_cons.2 ⟨hrn,hnd⟩) (fun r' hr'=>⟨(hmarks r' hr').1,?_⟩) (hl.trans huS) (by exact .cell rfl ib rfl (.cell rfl ib rfl (.cell rfl ib rfl .nil))) fun u0 hbk hl0=>?_
      ·cases e:v r' with
       | none=>rfl
       | some x=>have:=hl _ _ e;rw [(hmarks (o:=.loop (A3f fn ac.tmps r)) r' hr').2]at this;cases this
      ·have hbk:Bok (stBx b6 b7 b8 b15 b16 (.slice ap np cp) (.slice aq nq cq) (intV 0) (.slice ap np cp) (.slice aq nq cq) ((sp++sq)++[(b1,c',187)])) u0:=hbk
       refine⟨ap,cp,aq,cq,(0,pL s a.length (a.length+b.length),qL s a.length (a.length+b.length)),by rw [hnp,hnq];rfl,RowAt.own hbk (show Subm sp (stBx b6 b7 b8 b15 b16 (.slice ap np cp) (.slice aq nq cq) (intV 0) (.slice ap np cp) (.slice aq nq cq) ((sp++sq)++[(b1,c',187)]))from cntL) hp,RowAt.own hbk (show Subm sq (stBx b6 b7 b8 b15 b16 (.slice ap np cp) (.slice aq nq cq) (intV 0) (.slice ap np cp) (.slice aq nq cq) ((sp++sq)++[(b1,c',187)]))from cntL) hq,?_⟩
       unfold A8t
       rw [if_neg (by simpa using hE)]
       refine⟨s,?_,Y,?_,fun t ht hrt=>?_⟩
       ·have hm:s∈d'.toList:=by rw [hs,getElem!_pos d' i hid];simp
        have:=List.mem_range.1 (hp1.mem_iff.1 hm)
        omega
       ·unfold A7t rightS
        rw [←hWl,hWc]
        exact List.cons_ne_nil _ _
       ·obtain⟨j,hj,rfl⟩:=hidx t oM
        rcases Nat.lt_trichotomy j i with h|rfl|h
        ·exact absurd hrt (hno j h)
        ·rw [←hs];exact B0k
        ·rw [hs];exact hsor i j h hj
 ·exfalso
  replace h:=fa h
  have hN0:0<N:=by rw [hNe];exact Nat.two_pow_pos _
  have hall:=all_right (d:=d) hn8
  rw [←hNe]at hall
  obtain⟨j,hj,e⟩:=hidx (N-1) oM
  rw [←e]at hall
  exact hno j oM hall
end
end Go.Proofs.YtclejblcnfaeaaaGreatDoor
end
section
namespace Go.Proofs.YtclejblcnfaeaaaGreatDoor
open Go Go.Pal Go.Pal.To Go.Conc View
open Go.Proofs.Tryz
set_option maxHeartbeats 4000000
set_option maxRecDepth 20000
structure St1S where
 i:Nat
 sg:A0e
 a:Option Addr
 cap:Nat
section
variable{v:View}{P:Int}{aD aA aB:Option Addr}{cD cA cB:Nat}{d:List Int}{a b:List MA}
theorem wrapS{i:Nat}(h:i<256):IntKind.u8.wrap ((i:Nat):Int)=i:=W.wrap8 h
theorem shl_pow{n:Nat}(h:n≤8):IntKind.i64.wrap (1*2 ^ min ((n:Int)).toNat IntKind.i64.bits)=((2 ^ n:Nat):Int):=by
 have h1:2 ^ n≤2^8:=Nat.pow_le_pow_right dM h
 rw [show min ((n:Int)).toNat IntKind.i64.bits=n by simp [IntKind.bits];omega,show(1:Int)*2 ^ n=((2 ^ n:Nat):Int) by push_cast;omega]
 generalize 2 ^ n=k at *
 exact A2d oM oM
theorem struck_x(hd:RowAt v aD (d.map intV))(hdl:d.length<2^30)(ha:ActsAt v aA a)(hb:ActsAt v aB b)(hal:a.length<2^30)(hbl:b.length<2^30) :
  A6l prog ⟨true,true⟩ 51 [moV P aD d.length cD,.slice aA a.length cA,.slice aB b.length cB] (fun x u=>StrAt u x P d a b) v:=by
 refine callV_fnVM tab func51 Y nB (args:=[_,_,_]) ?_
 refine sw fun bx=>?_;refine sw fun bx=>?_;refine sw fun bx=>?_;refine sw fun bx=>?_;refine sw fun bx=>?_;refine sw fun bx=>?_
 rename_i b3 b4 b5 b6 b7
 obtain⟨b8,rfl⟩:∃x:Nat,x=bx:=⟨bx,rfl⟩
 refine Q_op fun ho=>A1p ho bod96 Y Y Y Y Y (lay_x hd hdl ha hb hal hbl) (fun x u hl hR=>?_)
 clear ho
 unfold LayAt at hR
 by_cases h:layE P d a b=0
 ·rw [if_neg (by simpa using h)]at hR
  obtain⟨dd,p,f,x0,x1,rfl,hdd⟩:=hR
  have hok:=layE_ok.1 h
  have hn8:a.length+b.length≤8:=by have:=hok.la;have:=hok.lb;omega
  refine sw fun bx=>?_;refine sw fun bx=>?_;refine sw fun bx=>?_
  rename_i b9 b10
  obtain⟨b11,rfl⟩:∃x:Nat,x=bx:=⟨bx,rfl⟩
  rw [show((a.length:Int)+(b.length:Int))=((a.length+b.length:Nat):Int)from Y,shl_pow hn8]
  have hN:2 ^ (a.length+b.length)≤256:=Nat.pow_le_pow_right dM hn8
  have hN0:0<2 ^ (a.length+b.length):=Nat.two_pow_pos _
  obtain⟨β1,hβ1⟩:∃x:A0e,x=[(b11,List.toArray [.func (.func 97) #[] #[]],185),(b9,List.toArray [.pointer (some ⟨dd,0,none⟩),.slice aA a.length cA,.slice aB b.length cB],179),(b5,List.toArray [.slice aB b.length cB],28),(b4,List.toArray [.slice aA a.length cA],28)]:=⟨_,rfl⟩
  refine XC_retire (β1:=β1) (β2:=[(b10,List.toArray [intV 0,.slice none 0 0],184),(b8,List.toArray [intV 0],31),(b7,List.toArray [.slice none 0 0],22),(b6,List.toArray [.slice none 0 0],22),(b3,(moV P aD d.length cD).cells,26)]) (by
   rw [hβ1]
   exact(show ∀p,Pal.cnt p [(b11,List.toArray [.func (.func 97) #[] #[]],185),(b10,List.toArray [intV 0,.slice none 0 0],184),(b9,List.toArray [.pointer (some ⟨dd,0,none⟩),.slice aA a.length cA,.slice aB b.length cB],179),(b8,List.toArray [intV 0],31),(b7,List.toArray [.slice none 0 0],22),(b6,List.toArray [.slice none 0 0],22),(b5,List.toArray [.slice aB b.length cB],28),(b4,List.toArray [.slice aA a.length cA],28),(b3,(moV P aD d.length cD).cells,26)]=Pal.cnt p ([(b11,List.toArray [.func (.func 97) #[] #[]],185),(b9,List.toArray [.pointer (some ⟨dd,0,none⟩),.slice aA a.length cA,.slice aB b.length cB],179),(b5,List.toArray [.slice aB b.length cB],28),(b4,List.toArray [.slice aA a.length cA],28)]++[(b10,List.toArray [intV 0,.slice none 0 0],184),(b8,List.toArray [intV 0],31),(b7,List.toArray [.slice none 0 0],22),(b6,List.toArray [.slice none 0 0],22),(b3,(moV P aD d.length cD).cells,26)])from cntA)) (fun hb1=>?_)
  have hv11:=A0q hb1 (b:=b11) (c:=List.toArray [.func (.func 97) #[] #[]]) (t:=185) (by rw [hβ1];exact ib)
  have hv9:=A0q hb1 (b:=b9) (c:=List.toArray [.pointer (some ⟨dd,0,none⟩),.slice aA a.length cA,.slice aB b.length cB]) (t:=179) (by rw [hβ1];exact ib)
  have hv5:=A0q hb1 (b:=b5) (c:=List.toArray [.slice aB b.length cB]) (t:=28) (by rw [hβ1];exact ib)
  have hv4:=A0q hb1 (b:=b4) (c:=List.toArray [.slice aA a.length cA]) (t:=28) (by rw [hβ1];exact ib)
  have hu2:=A0g u (A0c β1)
  generalize u.union (A0c β1)=u2 at *
  clear hb1 hβ1
  refine A1q (α:=St1S) (fun z=>⟨[],[(33,.int .i64 z.i),(32,.int .i64 (2 ^ (a.length+b.length):Nat)),(10,.pointer (some ⟨b10,0,none⟩)),(11,.pointer (some ⟨b11,0,none⟩)),(4,.pointer (some ⟨b4,0,none⟩)),(5,.pointer (some ⟨b5,0,none⟩)),(6,.pointer (some ⟨b6,0,none⟩)),(7,.pointer (some ⟨b7,0,none⟩)),(8,.pointer (some ⟨b8,0,none⟩)),(9,.pointer (some ⟨b9,0,none⟩))],
    (b10,List.toArray [intV 0,.slice z.a z.i z.cap],184)::(z.sg++[(b8,List.toArray [intV 0],31),(b7,List.toArray [.slice none 0 0],22),(b6,List.toArray [.slice none 0 0],22)])⟩)
   (fun z w=>w=u2∧z.i≤2 ^ (a.length+b.length)∧OwnS 187 1 z.sg z.a z.i z.cap ((List.range z.i).map u8V)) (fun z=>2 ^ (a.length+b.length)-z.i) ⟨0,[],none,0⟩ ⟨Y,rg,cntL⟩ (Le.refl _) ⟨Y,Nat.zero_le _,.nil⟩ ?_
  rintro⟨i,sg,a',cap⟩ w ⟨rfl,hi,hS⟩
  simp only at hi hS
  dsimp only
  refine su ?_
  refine A1i Y (fun h=>?_) (fun h=>?_)
  ·have hlt:i<2 ^ (a.length+b.length):=by
    have:=of_decide_eq_true h
    omega
   clear h
   refine su ?_
   rw [wrapS oM]
   refine Q_op fun ho=>A3w tab ho Y Y Y Y Y Y Y Y Y (fun bl cl hL=>?_)
   clear ho
   refine Q_op fun ho=>A3x tab (xs:=[u8V i]) sg [(bl,cl,187)] [(b10,List.toArray [intV 0,.slice a' i cap],184),(b8,List.toArray [intV 0],31),(b7,List.toArray [.slice none 0 0],22),(b6,List.toArray [.slice none 0 0],22)] ho Y Y Y Y Y Y Y Y Y Y
    (show ∀p,Pal.cnt p ((bl,cl,187)::(b10,List.toArray [intV 0,.slice a' i cap],184)::(sg++[(b8,List.toArray [intV 0],31),(b7,List.toArray [.slice none 0 0],22),(b6,List.toArray [.slice none 0 0],22)]))=Pal.cnt p (sg++([(bl,cl,187)]++[(b10,List.toArray [intV 0,.slice a' i cap],184),(b8,List.toArray [intV 0],31),(b7,List.toArray [.slice none 0 0],22),(b6,List.toArray [.slice none 0 0],22)]))from cntA) hS
    (fun hb=>RowAt.own hb cntL hL) Y Y (by show(2*(i+1)+768)*1≤2^48;omega) oM (fun sg' a'' cap' hS'=>?_)
   clear ho
   refine su ?_
   refine A0b ⟨⟨i+1,sg',a'',cap'⟩,w,by simp only;omega,⟨Y,rg,show Subm ((b10,List.toArray [intV 0,.slice a'' (i+1) cap'],184)::(sg'++[(b8,List.toArray [intV 0],31),(b7,List.toArray [.slice none 0 0],22),(b6,List.toArray [.slice none 0 0],22)])) (sg'++[(b10,List.toArray [intV 0,.slice a'' (i+1) cap'],184),(b8,List.toArray [intV 0],31),(b7,List.toArray [.slice none 0 0],22),(b6,List.toArray [.slice none 0 0],22)])from cntL⟩,Le.refl _,Y,hlt,?_⟩
   rw [List.range_succ,List.map_append]
   exact hS'
  ·have hin:i=2 ^ (a.length+b.length):=by
    have:=of_decide_eq_false h
    omega
   clear h
   subst hin
   refine B2n ?_
   refine A8u ?_
   refine A7c ?_
   refine A6e Y ?_
   refine A4d ?_
   rcases hS.two with ⟨_,_,h0,_,_⟩|⟨b1,c1,rfl,rfl,hS1⟩
   ·omega
   ·have hlw:=hl.trans hu2
    refine XC_sub (stTail_x (cap:=cap) (b1:=b1) (b10:=b10) hlw hok (ha.le hlw) (hb.le hlw) ⟨_,_,hv9⟩ ⟨_,_,_,_,hu2 _ _ hdd⟩ ⟨_,_,hv4⟩ ⟨_,_,hv5⟩ ⟨_,_,hv11⟩ hS1) ⟨Y,rg,?_⟩ (Le.refl _)
    exact(show Subm [(b6,List.toArray [.slice none 0 0],22),(b7,List.toArray [.slice none 0 0],22),(b8,List.toArray [intV 0],31),(b10,List.toArray [intV 0,.slice (some ⟨b1,0,none⟩) (2 ^ (a.length+b.length)) cap],184),(b1,c1,187)] ((b10,List.toArray [intV 0,.slice (some ⟨b1,0,none⟩) (2 ^ (a.length+b.length)) cap],184)::([(b1,c1,187)]++[(b8,List.toArray [intV 0],31),(b7,List.toArray [.slice none 0 0],22),(b6,List.toArray [.slice none 0 0],22)]))from cntL)
 ·rw [if_pos h]at hR
  subst hR
  refine sw fun bx=>?_
  rw [show(layE P d a b != 0)=true from by simpa using h]
  refine su ?_
  refine A1d [1,2,3] [0,1,2,3] A1e Y kR ?_
  refine su ?_
  refine FnVM_ret tab [] Y List.nodup_nil (fun r hr=>by cases hr) hl (by exact .cell rfl ib rfl (.cell rfl ib rfl (.cell rfl ib rfl .nil))) fun u0 hbk hl0=>?_
  refine⟨none,0,none,0,(layE P d a b,[],[]),Y,.inl Y,.inl Y,?_⟩
  unfold A8t
  rw [if_pos h]
end
end Go.Proofs.YtclejblcnfaeaaaGreatDoor
end
section
namespace Go.Pal.To
open Go
def B0g:List Int→List MA→List ByteArray
 | _,[]=>[]
 | os,x::l=>B1q os x::B0g (doN os x) l
theorem B1p:∀(l:List MA) (os:List Int) (x:MA),B0g os (l++[x])=B0g os l++[B1q (A3z os l) x]
 | [],_,_=>rfl
 | y::l,os,x=>by
  show B1q os y::B0g (doN os y) (l++[x])=_
  rw [B1p l];rfl
theorem repsOf_len:∀(l:List MA) (os:List Int),(B0g os l).length=l.length
 | [],_=>rfl
 | x::l,os=>by simp [B0g,repsOf_len l]
theorem duskOf_snoc(l:List MA)(os:List Int)(x:MA):A3z os (l++[x])=doN (A3z os l) x:=by simp [A3z,List.foldl_append]
def holdE(P:Int)(d:List Int)(l:List MA):Int:=chkBooks P d 8 [l]
structure HOk(P:Int)(d:List Int)(l:List MA):Prop where
 m:MOk P d
 len:l.length≤8
 all:∀x∈l,Ok P d.length x
theorem holdE_ok{P:Int}{d:List Int}{l:List MA}:holdE P d l=0↔HOk P d l:=by
 unfold holdE
 rw [B2d]
 constructor
 ·rintro⟨h1,h2⟩
  have ha:=h2 l sM
  exact⟨h1,ha.1,ha.2⟩
 ·rintro⟨h1,h2,h3⟩
  refine⟨h1,fun x hx=>?_⟩
  simp only [List.mem_cons,List.not_mem_nil,or_false]at hx
  subst hx
  exact⟨h2,h3⟩
def holdR(P:Int)(d:List Int)(l:List MA):Int×List ByteArray×List Int:=if holdE P d l≠0 then(holdE P d l,[],[])else(0,B0g d l,A3z d l)
end Go.Pal.To
end
section
namespace Go.Proofs.YtclejblcnfaeaaaGreatDoor
open Go Go.Pal Go.Pal.To Go.Conc View
open Go.Proofs.Tryz
set_option maxHeartbeats 4000000
set_option maxRecDepth 20000
def HoldAt(u:View)(x:Value)(r:Int×List ByteArray×List Int):Prop:=∃ar cr ad cd,x = .tuple (List.toArray [.slice ar r.2.1.length cr,.slice ad r.2.2.length cd,intV r.1])∧RowAt u ar (r.2.1.map .string)∧RowAt u ad (r.2.2.map intV)
structure HoS where
 i:Nat
 sg:A0e
 a:Option Addr
 cap:Nat
section
variable{mn:Who}{v:View}{P:Int}{aD aA:Option Addr}{cD cA:Nat}{d:List Int}{a:List MA}
theorem hold_x(hd:RowAt v aD (d.map intV))(hdl:d.length<2^30)(ha:ActsAt v aA a)(hal:a.length<2^30) :
  A6l prog mn 10 [moV P aD d.length cD,.slice aA a.length cA] (fun x u=>HoldAt u x (holdR P d a)) v:=by
 refine A3k tab func10 Y nB (args:=[_,_]) ?_
 refine sw fun bx=>?_
 obtain⟨b2,rfl⟩:∃x:Nat,x=bx:=⟨bx,rfl⟩
 refine Q_op fun ho=>A3w tab ho Y Y Y Y Y Y Y Y Y (fun bL cL hL=>?_)
 clear ho
 refine A8x (β1:=[(bL,cL,28)]) (β2:=[(b2,(moV P aD d.length cD).cells,26)]) (fun _=>rfl) (fun hbk=>?_)
 have hrL:=RowAt.own hbk (by exact cntL) hL
 have hl1:=A0g v (A0c [(bL,cL,28)])
 generalize v.union (A0c [(bL,cL,28)])=v1 at *
 have hls:SlAt v1 [.slice aA a.length cA] [a]:=.cons (ha.le hl1) .nil
 refine Q_op fun ho=>A0u ho bod57 Y Y Y Y Y (B0n (most:=8) (ls:=[a]) (hd.le hl1) hdl hrL hls sM (fun l hl=>by simp only [List.mem_cons,List.not_mem_nil,or_false]at hl;subst hl;assumption)) ?_
 clear ho
 rw [show chkBooks P d 8 [a]=holdE P d a from rfl]
 unfold holdR
 by_cases h:holdE P d a=0
 ·rw [h,if_neg sM]
  have hok:=holdE_ok.1 h
  have hml:=hok.m.len
  have hal8:=hok.len
  refine su ?_
  refine Q_op fun ho=>A0o [] _ ho bod58 Y Y Y Y Y A7s (open_x (hd.le (hl1.trans (A0g _ _))) hok.m.len) (fun x β' hR=>?_)
  clear ho
  obtain⟨bd,rfl,rfl⟩:=hR
  refine su ?_
  refine A1q (α:=HoS) (fun z=>⟨[],[(24,.int .i64 z.i),(23,.int .i64 a.length),(22,.slice aA a.length cA),(4,.slice z.a z.i z.cap),(8,.pointer (some ⟨bd,0,none⟩))],z.sg++[(bd,owC (intV P) (.slice aD d.length cD) (A3z d (a.take z.i)),106)]⟩)
   (fun z w=>w=v1∧z.i≤a.length∧OwnS 9 1 z.sg z.a z.i z.cap ((B0g d (a.take z.i)).map .string)) (fun z=>a.length-z.i) ⟨0,[],none,0⟩ ⟨Y,rg,show Subm [(bd,owC (intV P) (.slice aD d.length cD) d,106)] [(bd,owC (intV P) (.slice aD d.length cD) d,106),(b2,(moV P aD d.length cD).cells,26)]from cntL⟩ (Le.refl _) ⟨Y,Nat.zero_le _,.nil⟩ ?_
  rintro⟨i,sg,a',cap⟩ w ⟨rfl,hi,hS⟩
  simp only at hi hS
  dsimp only
  refine su ?_
  refine A1i Y (fun h=>?_) (fun h=>?_)
  ·replace h:=fa h
   have hlt:i<a.length:=oM
   obtain⟨bb,off,p,c,e,f,rfl,hv,hc⟩:=(ha.le hl1).get hlt
   have hact:=hok.all _ (List.getElem_mem hlt)
   have hdl2:=A9w (a.take i) d
   have htk:a.take (i+1)=a.take i++[a[i]]:=List.take_succ_eq_append_getElem hlt
   have hci:=hc i hlt
   generalize a[i]=y0 at hact htk hci
   refine su ?_
   refine A6d tab i Y Y Y Y Y Y Y hlt ?_
   refine A2b tab Y Y Y hv (A1g tab Y Y Y hci) ?_
   refine sw fun bx=>?_
   refine A1d [4,5] [0,1,2,3,4,5,6,7,8,9,10] A1e Y kR ?_
   refine su ?_
   refine S_do kR (A0u Y bod60 Y Y Y Y Y (deedOf_x (x:=y0) hact.k) ⟨Le.refl _,kp,?_⟩)
   refine su ?_
   refine S_do kR (A0o [(bd,owC (intV P) (.slice aD d.length cD) (A3z d (a.take i)),106)] ((bx,y0.cells.toArray,40)::sg) Y bod59 Y Y Y Y Y
    (show ∀p,Pal.cnt p ((bx,y0.cells.toArray,40)::(sg++[(bd,owC (intV P) (.slice aD d.length cD) (A3z d (a.take i)),106)]))=Pal.cnt p ([(bd,owC (intV P) (.slice aD d.length cD) (A3z d (a.take i)),106)]++((bx,y0.cells.toArray,40)::sg))from cntA)
    (do_x oM hact.k ⟨hact.h.1,by rw [hdl2];exact hact.h.2⟩) (fun y β' hR=>⟨Le.refl _,?_,?_⟩))
   ·exact kp
   obtain⟨⟨e',rfl,_⟩,rfl⟩:=hR
   refine su ?_
   refine Q_op fun ho=>A3w tab ho Y Y Y Y Y Y Y Y Y (fun b3 c3 hL3=>?_)
   clear ho
   refine Q_op fun ho=>A3x tab (xs:=[.string (B1q (A3z d (a.take i)) y0)]) sg [(b3,c3,9)] [(bx,y0.cells.toArray,40),(bd,owC (intV P) (.slice aD d.length cD) (doN (A3z d (a.take i)) y0),106)] ho Y Y Y Y Y Y Y Y Y Y
    (show ∀p,Pal.cnt p ((b3,c3,9)::([(bd,owC (intV P) (.slice aD d.length cD) (doN (A3z d (a.take i)) y0),106)]++((bx,y0.cells.toArray,40)::sg)))=Pal.cnt p (sg++([(b3,c3,9)]++[(bx,y0.cells.toArray,40),(bd,owC (intV P) (.slice aD d.length cD) (doN (A3z d (a.take i)) y0),106)]))from cntA) hS
    (fun hb=>RowAt.own hb cntL hL3) Y Y (by show(2*(i+1)+768)*16≤2^48;omega) oM (fun sg' a'' cap' hS'=>?_)
   clear ho
   refine su ?_
   refine A0b ⟨⟨i+1,sg',a'',cap'⟩,w,by simp only;omega,⟨Y,rg,?_⟩,Le.refl _,Y,hlt,?_⟩
   ·simp only
    rw [htk,duskOf_snoc]
    exact(show Subm (sg'++[(bd,owC (intV P) (.slice aD d.length cD) (doN (A3z d (a.take i)) y0),106)]) (sg'++[(bx,y0.cells.toArray,40),(bd,owC (intV P) (.slice aD d.length cD) (doN (A3z d (a.take i)) y0),106)])from cntL)
   ·simp only
    rw [htk,B1p,List.map_append]
    exact hS'
  ·replace h:=fa h
   have hin:i=a.length:=oM
   subst hin
   rw [List.take_length]at hS⊢
   refine su ?_
   refine Q_op fun ho=>A0o [(bd,owC (intV P) (.slice aD d.length cD) (A3z d a),106)] sg ho bod61 Y Y Y Y Y cntA (told_x (A9w _ _) hml.2) (fun x β' hR=>?_)
   clear ho
   obtain⟨ad,cd,segd,rfl,rfl,hD⟩:=hR
   refine su ?_
   refine A2m tab (by exact .tmp rfl (.tmp rfl (.tmp rfl .nil))) hl1 fun hb2 hle=>?_
   refine⟨a',cap,ad,cd,?_,RowAt.own hb2 (by exact cntL) hS,RowAt.own hb2 (by exact cntL) hD⟩
   dsimp only
   rw [repsOf_len]
   rfl
 ·refine su ?_
  rw [show(holdE P d a != 0)=true from by simpa using h]
  refine su ?_
  refine A2m tab (by exact .tmp rfl (.tmp rfl (.tmp rfl .nil))) hl1 fun hb2 hle=>?_
  rw [if_pos h]
  exact⟨none,0,none,0,Y,.inl Y,.inl Y⟩
end
end Go.Proofs.YtclejblcnfaeaaaGreatDoor
end
section
namespace Go.Pal.To
open Go
def chrB(n:Int):ByteArray:=Utf8.encode (IntKind.i32.wrap (IntKind.i64.wrap (48+n)))
theorem A1b(n:Int):(chrB n).size≤4:=by
 unfold chrB Utf8.encode
 dsimp only
 repeat' split
 all_goals exact Nat.le_of_ble_eq_true rfl
theorem sz1(c:UInt8):(⟨#[c]⟩:ByteArray).size=1:=rfl
def lineB(x:MA):ByteArray:=
 if x.k=0 then chrB x.a++⟨#[62]⟩++chrB x.b++⟨#[58]⟩++chrB x.h
 else if x.k=2 then chrB x.a++⟨#[33]⟩++chrB x.b++⟨#[58]⟩++chrB x.h
 else⟨#[63]⟩++chrB x.h
def badFig(x:MA):Prop:=outZ x.a 0 9∨outZ x.b 0 9∨outZ x.h 0 9∨(A4o x.k=0∧(x.a≠0∨x.b≠0))
instance (x:MA):Decidable (badFig x):=inferInstanceAs (Decidable (_∨_∨_∨(_∧(_∨_))))
def B1c(x:MA):Int×ByteArray:=if A4o x.k<0 then(8,⟨#[]⟩)else if badFig x then(1,⟨#[]⟩)else(0,lineB x)
def A6u(st:Nat)(x:MA)(c:Nat):Option (Nat×MA):=
 match st with
 | 0=>if c=63 then some (4,{x with k:=1 })else if c<48∨57<c then none else some (1,{x with a:=(c:Int)-48 })
 | 1=>if c=62 then some (2,{x with k:=0 })else if c=33 then some (2,{x with k:=2 })else none
 | 2=>if c<48∨57<c then none else some (3,{x with b:=(c:Int)-48 })
 | 3=>if c=58 then some (4,x)else none
 | 4=>if c<48∨57<c then none else some (5,{x with h:=(c:Int)-48 })
 | _=>none
def runR(st:Nat)(x:MA):List UInt8→Option (Nat×MA)
 | []=>some (st,x)
 | c::l=>match A6u st x c.toNat with
  | none=>none
  | some (st',x')=>runR st' x' l
def A4v(l:List UInt8):MA×Int:=match runR 0 ⟨0,0,0,0⟩ l with
 | some (5,x)=>(x,0)
 | _=>(⟨0,0,0,0⟩,2)
theorem stepR_big{st:Nat}{x:MA}{c:Nat}(h:128≤c):A6u st x c=none:=by
 unfold A6u
 split
 ·rw [if_neg oM,if_pos oM]
 ·rw [if_neg oM,if_neg oM]
 ·rw [if_pos oM]
 ·rw [if_neg oM]
 ·rw [if_pos oM]
 ·rfl
theorem stepR_st{st st':Nat}{x x':MA}{c:Nat}(h:A6u st x c=some (st',x')):st<5∧st'≤5:=by
 unfold A6u at h
 split at h
 ·split at h
  ·cases h;exact⟨by decide,by decide⟩
  ·split at h
   ·cases h
   ·cases h;exact⟨by decide,by decide⟩
 ·split at h
  ·cases h;exact⟨by decide,by decide⟩
  ·split at h
   ·cases h;exact⟨by decide,by decide⟩
   ·cases h
 ·split at h
  ·cases h
  ·cases h;exact⟨by decide,by decide⟩
 ·split at h
  ·cases h;exact⟨by decide,by decide⟩
  ·cases h
 ·split at h
  ·cases h
  ·cases h;exact⟨by decide,by decide⟩
 ·cases h
theorem decode_big{s:ByteArray}{i:Nat}(h:128≤(s.get! i).toNat):128≤(Utf8.decode s i).1:=by
 have h0:¬(s.get! (i+0)).toNat<0x80:=by rw [Nat.add_zero];omega
 unfold Utf8.decode
 simp only [if_neg h0]
 repeat' split
 all_goals first
  | (simp only [Utf8.runeError];omega)
  | (rename_i hh;simp only [Bool.and_eq_true,decide_eq_true_eq,ge_iff_le]at hh;dsimp only;omega)
theorem B0m{s:ByteArray}{i:Nat}(h:(s.get! i).toNat<128):Utf8.decode s i=((s.get! i).toNat,1):=by
 have h0:(s.get! i).toNat<0x80:=oM
 unfold Utf8.decode
 simp only [Nat.add_zero]
 rw [if_pos h0]
theorem decode_lt{s:ByteArray}{i:Nat}:(Utf8.decode s i).1<2^31:=by
 have h0:=(s.get! (i+0)).toNat_lt
 have h1:=(s.get! (i+1)).toNat_lt
 have h2:=(s.get! (i+2)).toNat_lt
 have h3:=(s.get! (i+3)).toNat_lt
 unfold Utf8.decode
 dsimp only
 repeat' split
 all_goals first
  | (simp only [Utf8.runeError];omega)
  | (dsimp only;omega)
theorem get_at{s:ByteArray}{i:Nat}(h:i<s.size):s.data.toList.drop i=s.get! i::s.data.toList.drop (i+1):=by
 have hl:i<s.data.toList.length:=by simpa using h
 rw [List.drop_eq_getElem_cons hl]
 congr 1
 have h':i<s.data.size:=by simpa using h
 show _=s.data[i]!
 rw [getElem!_pos s.data i h']
 simp
theorem drop_end{s:ByteArray}{i:Nat}(h:¬i<s.size):s.data.toList.drop i=[]:=List.drop_eq_nil_of_le (by simpa using h)
end Go.Pal.To
end
