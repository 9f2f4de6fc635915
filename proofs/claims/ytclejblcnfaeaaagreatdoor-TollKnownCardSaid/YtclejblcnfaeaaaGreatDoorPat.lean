/- Part 20. -/
import Derived.Sort.AssemblyPlain
import Derived.Test.YtclejblcnfaeaaaGreatDoorPas
set_option linter.all false
section
namespace Go.Proofs.YtclejblcnfaeaaaGreatDoor
open Go Go.Pal Go.Pal.To Go.Conc View Go.Pal.Fan
open Go.Proofs.Tryz
set_option maxHeartbeats 4000000
set_option maxRecDepth 20000
abbrev parT(a b:List MA)(os:List Int)(Wg Ch:Nat)(h:Wg≠Ch):Fan.Par where
 M:=Wy
 J:=3
 Ls:=fun j=>A3e [(j:Int)] a b ⟨[],[],os⟩
 Wg:=Wg
 Ch:=Ch
 tW:=285
 msg:=fun w y ux=>∃β,(β.map (·.1)).Nodup∧ux=A0c β∧WyOwn β y w
 J1:=by decide
 J2:=by decide
 wc:=h
theorem union_back{u F:View}{l:Nat}{p p':Bool}{o o':Obj}(h:u l=some (p,o)):(u.set l p' o').set l p o=u:=by
 funext x
 unfold View.set
 by_cases e:x=l
 ·subst e;rw [if_pos rfl,h]
 ·rw [if_neg e,if_neg e]
theorem B0z{β:A0e}{u:View}{l:Nat}{p p':Bool}{o o':Obj}(hb:Bok β u)(h:u l=some (p,o)):Bok β (u.set l p' o'):=⟨hb.nodup,fun x=>by
 rcases hb.disj x with e|e
 ·left
  unfold View.set
  by_cases ex:x=l
  ·subst ex;rw [h]at e;cases e
  ·rw [if_neg ex];exact e
 ·exact .inr e⟩
theorem A2r{u:View}{l b:Nat}{p:Bool}{o:Obj}{x:Bool×Obj}(h:u b=some x)(hl:b≠l):(u.set l p o) b=some x:=by
 unfold View.set;rw [if_neg hl];exact h
section
variable{a b:List MA}{os:List Int}{Wg Ch:Nat}{hwc:Wg≠Ch}{base:Nat}{Z:View→Goroutine→Prop}{j:Nat}{V0:View}{l:Nat}
abbrev wkI(bd bmk bch Wg:Nat):Regs:=[(0,.pointer (some ⟨Wg,0,none⟩)),(1,.pointer (some ⟨bd,0,none⟩)),(2,.pointer (some ⟨bmk,0,none⟩)),(3,.pointer (some ⟨bch,0,none⟩))]
noncomputable def wkAsg:Code:=match f160.body with|some (.seq _ (.seq _ (.block _ (.rangeFunc _ _ c _))))=>c|_=>.skip
noncomputable def wkBod:Code:=match f160.body with|some (.seq _ (.seq _ (.block _ (.rangeFunc _ _ _ c))))=>c|_=>.skip
noncomputable abbrev A6m (tmps:Array Value) (r:Nat):Loop:={state:=.ready,pending:=none,fn:=160,tmps:=tmps,params:=#[9],assign:=wkAsg,body:=wkBod,defers:=r }
theorem sends_x{bd bmk bch r:Nat}{tmps:Array Value}{p:Bool}{f:Nat×Nat}(hb0:0<base)(hch:V0 bch=some (p,.cells (List.toArray [.chan (some Ch)]) 277 f))(hl0:V0 l=some (true,.loop (A6m tmps r)))
  (hfit:Fits f160.ntmps ⟨[],wkI bd bmk bch Wg,[]⟩ ⟨tmps,[]⟩):Takes (fun s=>Do prog (parT a b os Wg Ch hwc) base Z (base+j) (.inr (.inl (.sd s)))) V0 l (A6m tmps r) true:=by
 haveI hA:∀s,Abs prog ⟨false,false⟩ (Do prog (parT a b os Wg Ch hwc) base Z (base+j) (.inr (.inl (.sd s)))):=fun s=>abs_wk hb0 s
 intro w s u β y cf fs hu hβ hw hcf hend
 have hul:=hu _ _ hl0
 have hbl:bch≠l:=fun e=>by subst e;rw [hch]at hl0;cases hl0
 have hfit2:Fits f160.ntmps ⟨[],(9,y)::wkI bd bmk bch Wg,β⟩ ⟨tmps.setIfInBounds 9 y,[]⟩:=by
  have:=A0x (d:=some 9) (x:=y) hfit Y
  exact⟨this.size,this.defers,this.get⟩
 obtain⟨_,_,am,cm,ab,cb,_,hy,_⟩:=id hw
 refine R_round (R:=Do prog (parT a b os Wg Ch hwc) base Z (base+j) (.inr (.inl (.sd (w::s))))) (ρ:=(9,y)::wkI bd bmk bch Wg) (Q:=fun e σ u'=>e = .normal∧u'=u∧∃b4,σ=⟨[],(4,.pointer (some ⟨b4,0,none⟩))::(9,y)::wkI bd bmk bch Wg,(b4,y.cells,175)::β⟩) hul Y hβ (by simpa using hfit2) ?_ ?_
 ·refine A7o ?_
  subst hy
  refine sw fun bx=>?_
  exact⟨Y,Y,bx,Y⟩
 ·rintro e σ u' ⟨rfl,rfl,b4,rfl⟩ hB
  refine⟨Y,Y,hul,fun k1 _=>?_⟩
  have hbk:(rdF 160 l).kind≠.early:=by simp
  dsimp only
  rw [A2x]
  have hB2:=B0z (p':=true) (o':=.loop {A6m tmps r with state:=.busy }) hB hul
  refine B0b ?_
  refine A0r (l:=[0,1,2]) Y ?_
  refine R_xo hbk hB2 (A_ld tab Y Y Y Y (A2r (hu _ _ hch) hbl) (A0l tab Y Y Y Y) ?_)
  refine A2n fun _=>?_
  subst hy
  refine R_xo hbk hB2 (A_ldB tab Y Y Y Y ib (A1g tab (x:=wyC am cm ab cb w) Y Y Y ⟨Nat.le_refl _,Y⟩) ?_)
  refine A2n fun _=>?_
  have hB3:Bok ([(b4,(Value.agg (wyC am cm ab cb w).toArray).cells,175)]++β) (u'.set l true (.loop {A6m tmps r with state:=.busy })):=hB2
  obtain⟨hβ2,_⟩:=bok_append.1 hB3
  refine R_send (A:=parT a b os Wg Ch hwc) (m:=w) (l:=s) (y:=.agg (wyC am cm ab cb w).toArray) (z:=.tuple #[]) (u0:=u'.set l true (.loop {A6m tmps r with state:=.busy })) (ux:=A0c β) hb0 hbk (fun c hc ww=>?_) (.inr rfl) rfl rfl ⟨β,hβ.nodup,rfl,hw⟩ (fun b' hb'=>⟨?_,?_⟩) (A0g _ _) ?_ ?_
  ·have e1:c.eval (.tmp 10) = .chan (some Ch):=A0k hc _ _ Y
   have e2:c.eval (.tmp 11) = .agg (wyC am cm ab cb w).toArray:=A0k hc _ _ Y
   unfold execOp
   simp only [e1,e2]
   rfl
  ·cases hx:A0c β b' with
   | none=>exact absurd hx hb'
   | some x=>
    have hm:=A4h hx
    obtain⟨⟨j',c',t'⟩,hq,rfl⟩:=List.mem_map.1 hm
    exact⟨_,A2h hβ.nodup hq⟩
  ·exact(hβ2.disj b').resolve_right hb'
  ·intro b' x hx
   have h2:=(A6b (τ:=β) (β:=[(b4,(Value.agg (wyC am cm ab cb w).toArray).cells,175)]++β) (fun p=>by rw [A0n];omega) hB3.nodup).2 _ _ hx
   exact A1l hB3.disj _ _ h2
  ·have hbr:(rdF 160 l).roundOf=some l:=rfl
   refine gn ?_
   refine k1 (Do prog (parT a b os Wg Ch hwc) base Z (base+j) (.inr (.inl (.sd s)))) (hA s) _ _ (u'.set l true (.loop {A6m tmps r with state:=.busy })) (by unfold View.set;rw [if_pos rfl]) ?_
   rw [union_back hul]
   exact hend
   exact u'
end
section
variable{a b:List MA}{os:List Int}{Wg Ch:Nat}{hwc:Wg≠Ch}{base:Nat}{Z:View→Goroutine→Prop}{j:Nat}{v:View}{cf:Frame}{H:Nat}
theorem born_x{R:Goroutine→Prop}[S:Sil prog false R]{f:FuncId}{fn:Func}{c:Code}(hf:prog.funcs[f]?=some fn)(hb:fn.body=some c)(hnm:fn.name≠ "runtime.NumGoroutine"){args:Array Value}{cap:Array Value}
  (h:∀cf:Frame,cf.mode = .panicking [goexitEntry]→A8w prog 0 (G cf [])→R (G (Frame.enter prog f (args++cap) .deferred) [cf])):R (born prog {target:=.fn (.func f) cap,args:=args }):=by
 have hout:prog.funcs[prog.funcs.size]?=none:=Array.getElem?_eq_none (Nat.le_refl _)
 refine S.step Y (g':=G (Frame.enter prog f (args++cap) .deferred) [{(default:Frame)with fn:=prog.funcs.size,defers:=[],mode:=.panicking [goexitEntry] }]) (fun w=>?_) (h _ rfl ⟨1,.inr ⟨rfl,{frame:={(default:Frame)with fn:=prog.funcs.size,defers:=[],mode:=.panicking [goexitEntry] },callers:=[],status:=.finished,dying:=none },#[],by simp,fun w=>?_,rfl,by simp [deafBehind]⟩⟩)
 ·have hbd:¬fn.body=none:=fun h=>by rw [hb]at h;cases h
  simp [born,G,stepG,unwind,callDeferred,invoke,callFunc,hf,hnm,hbd,GStep.after,seen_none]
 ·simp [G,stepG,unwind,Frame.catches,hout,goexitEntry]
  rfl
structure WkAt(v:View)(bd bmk bch dd Ch:Nat)(a b:List MA)(os:List Int)(j:Nat):Prop where
 d:∃p f aA cA aB cB,v bd=some (p,.cells (List.toArray [.pointer (some ⟨dd,0,none⟩),.slice aA a.length cA,.slice aB b.length cB]) 179 f)∧ActsAt v aA a∧ActsAt v aB b
 y:∃p f x0 x1,v dd=some (p,.cells (owC x0 x1 os) 106 f)
 m:∃p f,v bmk=some (p,.cells (List.toArray [natV j]) 3 f)
 c:∃p f,v bch=some (p,.cells (List.toArray [.chan (some Ch)]) 277 f)
theorem worker_x{bd bmk bch dd:Nat}(hb0:0<base)(hj:j<3)(hv:WkAt v bd bmk bch dd Ch a b os j)(hla:a.length+b.length<2^20)(hfa:FitW H a)(hfb:FitW H b)(hH:H≤3)(hos:os.length=H)
  (hcf:cf.mode = .panicking [goexitEntry])(hfin:A8w prog 0 (G cf [])) :
  Do prog (parT a b os Wg Ch hwc) base Z (base+j) (.inr (.inl (.sd ((parT a b os Wg Ch hwc).Ls j)))) v (G (Frame.enter prog 160 (List.toArray [.pointer (some ⟨Wg,0,none⟩),.pointer (some ⟨bd,0,none⟩),.pointer (some ⟨bmk,0,none⟩),.pointer (some ⟨bch,0,none⟩)]) .deferred) [cf]):=by
 haveI hA:∀s,Abs prog ⟨false,false⟩ (Do prog (parT a b os Wg Ch hwc) base Z (base+j) (.inr (.inl (.sd s)))):=fun s=>abs_wk hb0 s
 obtain⟨⟨p1,f1,aA,cA,aB,cB,hd1,hda,hdb⟩,⟨p2,f2,x0,x1,hd2⟩,⟨p3,f3,hd3⟩,⟨p4,f4,hd4⟩⟩:=hv
 refine A2y (ys:=[_,_,_,_]) func160 Y nB fun bb hbn hbr hbf=>?_
 have hbk:bb.kind≠.early:=by rw [hbn];simp
 refine gn ?_
 refine gr ?_
 refine F_defer (xs:=[_]) hbk hbr Y Y Y ?_
 refine gn ?_
 refine R_co0 hbk ?_
 refine su ?_
 refine A2b tab Y Y Y hd1 (A1g tab (x:=[.pointer (some ⟨dd,0,none⟩),.slice aA a.length cA,.slice aB b.length cB]) Y Y Y ⟨Nat.le_refl _,Y⟩) ?_
 refine A2b tab Y Y Y hd3 (A0l tab (x:=natV j) Y Y Y Y) ?_
 refine su ?_
 refine Q_op fun ho=>A3w tab ho Y Y Y Y Y Y Y Y Y (fun bL cL hL=>?_)
 clear ho
 refine Q_op fun ho=>A0o [] _ ho bod103 Y Y Y Y Y A7s (waysF_x ⟨_,Y⟩) (fun x β' hR=>?_)
 clear ho
 obtain⟨b2,b3,rfl,rfl⟩:=hR
 refine su ?_
 refine A0y fun hβ=>?_
 have hβ':Bok [(b3,List.toArray [.slice (some ⟨bL,0,none⟩) 1 1],22),(b2,List.toArray [.pointer (some ⟨dd,0,none⟩),.slice aA a.length cA,.slice aB b.length cB],179),(bL,cL,3)] v:=hβ
 change XG (Do _ _ _ _ _ _ (v.union (A0c [(b3,List.toArray [.slice (some ⟨bL,0,none⟩) 1 1],22),(b2,List.toArray [.pointer (some ⟨dd,0,none⟩),.slice aA a.length cA,.slice aB b.length cB],179),(bL,cL,3)]))) _ _ _ _ _ _
 have hv3:=A0q hβ' (b:=b3) (c:=List.toArray [.slice (some ⟨bL,0,none⟩) 1 1]) (t:=22) ib
 have hv2:=A0q hβ' (b:=b2) (c:=List.toArray [.pointer (some ⟨dd,0,none⟩),.slice aA a.length cA,.slice aB b.length cB]) (t:=179) ib
 have hrL:RowAt _ _ _:=RowAt.own hβ' (by exact cntL) hL
 have hu1:=A0g v (A0c [(b3,List.toArray [.slice (some ⟨bL,0,none⟩) 1 1],22),(b2,List.toArray [.pointer (some ⟨dd,0,none⟩),.slice aA a.length cA,.slice aB b.length cB],179),(bL,cL,3)])
 generalize v.union (A0c [(b3,List.toArray [.slice (some ⟨bL,0,none⟩) 1 1],22),(b2,List.toArray [.pointer (some ⟨dd,0,none⟩),.slice aA a.length cA,.slice aB b.length cB],179),(bL,cL,3)])=u1 at *
 clear hβ hβ' hL
 refine gn ?_
 refine R_rangeFunc hbk hbr Y bod142 fun ac r l hfit hr0 hl0 hrl c hcm hret=>?_
 rw [hbf]
 have hu12:u1.Le ((u1.set r true (.deferred (some []))).set l true (.loop (A6m ac.tmps r))):=fun b' x hx=>by
  refine A2r (A2r hx (fun e=>?_)) (fun e=>?_)
  ·subst e;rw [hr0]at hx;cases hx
  ·subst e;rw [hl0]at hx;cases hx
 have hVl:((u1.set r true (.deferred (some []))).set l true (.loop (A6m ac.tmps r))) l=some (true,.loop (A6m ac.tmps r)):=by unfold View.set;rw [if_pos rfl]
 have hVr:((u1.set r true (.deferred (some []))).set l true (.loop (A6m ac.tmps r))) r=some (true,.deferred (some [])):=by unfold View.set;rw [if_neg hrl,if_pos rfl]
 have hu2:=hu1.trans hu12
 have hx:=ways1_x (R:=fun s=>Do prog (parT a b os Wg Ch hwc) base Z (base+j) (.inr (.inl (.sd s)))) (V0:=(u1.set r true (.deferred (some []))).set l true (.loop (A6m ac.tmps r))) (t:=true) (s:=[]) (bd:=b2) (bm:=b3) (dd:=dd) (g:=[(j:Int)]) (lp:=A6m ac.tmps r) (cf:=c) (fs:=[cf])
  ⟨_,_,aA,cA,aB,cB,hu12 _ _ hv2,hda.le hu2,hdb.le hu2⟩ ⟨p2,f2,x0,x1,hu2 _ _ hd2⟩ ⟨_,_,some ⟨bL,0,none⟩,1,hu12 _ _ hv3,hrL.le hu12⟩ hVl Y
  (sends_x hb0 (hu2 _ _ hd4) hVl ⟨hfit.size,Y,fun t x hx=>hfit.get t x (Mu.rin_get (by exact⟨Y,Y,Y,Y,trivial⟩) t x hx)⟩) hla hfa hfb hH hos (Le.refl _) hcm ?_
 ·rw [List.append_nil]at hx
  exact hx
 ·rw [(end_true _ _).1,(end_true _ _).2]
  refine hret (Do prog (parT a b os Wg Ch hwc) base Z (base+j) (.inr (.inl (.sd [])))) (hA []) _ _ _ hVl sM ?_
  dsimp only [Option.map,Option.toList,List.nil_append]
  refine gn ?_
  refine F_end hbr (R_collected (by unfold View.set;rw [if_neg hrl];exact hVr) ?_)
  refine B_enter hbr func161 Y Y fun cf4 hc4 hcf4=>?_
  intro n
  exact A6j (main:=false) (by simp;omega) Y fun m _=>done_x hb0 hj hc4 (hcf4 _ (B_retG hbn (by rw [hbf];exact func160) Y hcf hfin))
  exact []
theorem closer_x{bch:Nat}(hb0:0<base)(hch:∃p f,v bch=some (p,.cells (List.toArray [.chan (some Ch)]) 277 f))(hcf:cf.mode = .panicking [goexitEntry])(hfin:A8w prog 0 (G cf [])) :
  Do prog (parT a b os Wg Ch hwc) base Z (base+3) (.inr (.inr .w0)) v (G (Frame.enter prog 162 (List.toArray [.pointer (some ⟨Wg,0,none⟩),.pointer (some ⟨bch,0,none⟩)]) .deferred) [cf]):=by
 haveI hA:∀q,Abs prog ⟨false,false⟩ (Do prog (parT a b os Wg Ch hwc) base Z (base+3) (.inr (.inr q))):=fun q=>abs_cl hb0 q
 obtain⟨p4,f4,hd4⟩:=hch
 refine A2y (ys:=[_,_]) func162 Y nB fun bb hbn hbr hbf=>?_
 have hbk:bb.kind≠.early:=by rw [hbn];simp
 refine gn ?_
 refine gr ?_
 refine A6o (ys:=[.pointer (some ⟨Wg,0,none⟩)]) hbk hbr Y Y Y Y Y func163 Y dM Y fun cf1 _ hcf1=>?_
 intro n
 refine A6j (main:=false) sM Y fun m _=>wait_x (A:=parT a b os Wg Ch hwc) hb0 fun m' _=>hcf1 _ _ (do_at ?_ m')
 refine gn ?_
 refine gr ?_
 have e0:v.union (A0c [])=v:=A1r _
 rw [←e0]
 refine R_xo hbk (A4c _) (A_ld tab Y Y Y Y hd4 (A0l tab Y Y Y Y) ?_)
 refine A2n fun _=>?_
 refine do_stop (mn:=⟨false,false⟩) sM Y fun n=>s_close hb0 hbk hbr Y Y Y Y (by rw [hbf];kernel_rfl) ?_
 refine F_nil ?_
 exact F_end hbr (B_retG hbn (by rw [hbf];exact func162) Y hcf hfin)
end
end Go.Proofs.YtclejblcnfaeaaaGreatDoor
end
section
namespace Go.Proofs.YtclejblcnfaeaaaGreatDoor
open Go Go.Pal Go.Pal.To Go.Conc View
open Go.Proofs.Tryz
set_option maxHeartbeats 4000000
set_option maxRecDepth 20000
def addY(s:Nat×List (List Value))(n:Nat)(y:List Value):Nat×List (List Value):=if s.2=[]∨n<s.1 then(n,[y])else if n=s.1 then(s.1,s.2++[y])else s
abbrev fwC(k:Nat)(a:Option Addr)(len cap:Nat):Array Value:=List.toArray [natV k,.slice a len cap]
def FwOwn(β:A0e)(bf:Nat)(s:Nat×List (List Value)):Prop:=∃a cap seg,β=(bf,fwC s.1 a s.2.length cap,170)::seg∧OwnS 175 5 seg a s.2.length cap s.2.flatten
theorem own_same{e:TypeId}{k:Nat}{seg:A0e}{a:Option Addr}{len cap:Nat}{cs:List Value}(h:OwnS e k seg a len cap cs):(if cap=0 then a else a.map (·.add (0*k)))=a:=by
 cases h with
 | nil=>rfl
 | box _ _ _ _=>
  split
  ·rfl
  ·rw [Option.map_some,A5n];simp
section
variable{mn:Who}{v:View}
theorem addFew_x{bf n:Nat}{s:Nat×List (List Value)}{β:A0e}{y1 y2 y3 y4 y5:Value}(hβ:FwOwn β bf s)(hy:[y1,y2,y3,y4,y5].all A2k=true)(hlen:s.2.length<2^20) :
  CallsB prog mn 158 #[.pointer (some ⟨bf,0,none⟩),.agg (List.toArray [y1,y2,y3,y4,y5]),natV n] (RetB fun r β'=>r = .tuple #[]∧FwOwn β' bf (addY s n [y1,y2,y3,y4,y5])) β v:=by
 obtain⟨k,ys⟩:=s
 obtain⟨a,cap,seg,rfl,hS⟩:=hβ
 simp only at hS hlen⊢
 refine A0d tab func158 Y nB (args:=[_,_,_]) ?_
 refine sw fun bx=>?_
 by_cases h0:ys=[]
 ·subst h0
  rw [show(((([]:List (List Value)).length:Nat):Int)==0)=true from rfl]
  refine su ?_
  refine Q_front (bin:=seg) (by repeat (first|(with_reducible exact split_head)|(with_reducible exact split_headA)|(with_reducible exact A6v)|(with_reducible apply split_cons))) ?_
  refine Q_op fun ho=>A_clearS tab (k:=5) ho Y Y Y Y Y dM hS (fun seg1 hS1=>?_)
  clear ho
  refine su ?_
  refine A1d [10,13] [0,1,2,3,4,5,6,7,8,9,10,11,12,13] A1e Y kR ?_
  refine su ?_
  refine S_slice_h tab (h':=0) Y Y Y kR Y Y Y Y (Nat.zero_le _) ?_
  rw [own_same hS1]
  repeat (refine ss ?_)
  refine S_do kR (A2q tab Y Y Y Y Y Y Y ib (by exact Y) sb ⟨Le.refl _,kp,?_⟩)
  repeat (refine ss ?_)
  refine S_do kR (A2q tab Y Y Y Y Y Y Y ib (by exact Y) sb ⟨Le.refl _,kp,?_⟩)
  repeat (refine ss ?_)
  refine su ?_
  rw [show((n:Int)==(n:Int))=true from by simp]
  refine su ?_
  refine A1d [6,7,10] [0,1,2,3,4,5,6,7,8,9,10] A1e Y kR ?_
  refine su ?_
  refine S_do kR (A3w tab Y Y Y Y Y Y Y Y Y Y (fun b6 c6 hL=>⟨Le.refl _,kp,?_⟩))
  refine S_do kR (A3x tab (xs:=[y1,y2,y3,y4,y5]) seg1 [(b6,c6,175)] [(bf,fwC n a 0 cap,170),(bx,(Value.agg (List.toArray [y1,y2,y3,y4,y5])).cells,175)] Y Y Y Y Y Y Y Y Y Y Y (show ∀p,Pal.cnt p ((b6,c6,175)::(seg1++[(bx,(Value.agg (List.toArray [y1,y2,y3,y4,y5])).cells,175),(bf,fwC n a 0 cap,170)]))=Pal.cnt p (seg1++([(b6,c6,175)]++[(bf,fwC n a 0 cap,170),(bx,(Value.agg (List.toArray [y1,y2,y3,y4,y5])).cells,175)]))from cntA) hS1 (fun hb=>RowAt.own hb cntL hL) Y hy (by show(2*(0+1)+768)*72≤2^48;omega) oM (fun seg2 a2 cap2 hS2=>⟨Le.refl _,kp,?_⟩))
  repeat (refine ss ?_)
  refine S_do kR (A2q tab Y Y Y Y Y Y Y ib (by exact Y) sb ⟨Le.refl _,kp,?_⟩)
  repeat (refine ss ?_)
  refine A1o tab ((bf,fwC n a2 (0+1) cap2,170)::seg2) .nil (Back.here (show Subm ((bf,fwC n a2 (0+1) cap2,170)::seg2) (seg2++[(bf,fwC n a2 (0+1) cap2,170),(bx,(Value.agg (List.toArray [y1,y2,y3,y4,y5])).cells,175)])from cntL)) ?_
  refine⟨Y,?_⟩
  rw [show addY (k,[]) n [y1,y2,y3,y4,y5]=(n,[[y1,y2,y3,y4,y5]])from if_pos (.inl Y)]
  exact⟨a2,cap2,seg2,Y,hS2⟩
 ·rw [show((ys.length:Int)==0)=false from by simp;exact h0]
  refine su ?_
  by_cases h1:n<k
  ·rw [show decide ((n:Int)<(k:Int))=true from decide_eq_true oM]
   refine su ?_
   refine Q_front (bin:=seg) (by repeat (first|(with_reducible exact split_head)|(with_reducible exact split_headA)|(with_reducible exact A6v)|(with_reducible apply split_cons))) ?_
   refine Q_op fun ho=>A_clearS tab (k:=5) ho Y Y Y Y Y dM hS (fun seg1 hS1=>?_)
   clear ho
   refine su ?_
   refine A1d [10,13] [0,1,2,3,4,5,6,7,8,9,10,11,12,13] A1e Y kR ?_
   refine su ?_
   refine S_slice_h tab (h':=0) Y Y Y kR Y Y Y Y (Nat.zero_le _) ?_
   rw [own_same hS1]
   repeat (refine ss ?_)
   refine S_do kR (A2q tab Y Y Y Y Y Y Y ib (by exact Y) sb ⟨Le.refl _,kp,?_⟩)
   repeat (refine ss ?_)
   refine S_do kR (A2q tab Y Y Y Y Y Y Y ib (by exact Y) sb ⟨Le.refl _,kp,?_⟩)
   repeat (refine ss ?_)
   refine su ?_
   rw [show((n:Int)==(n:Int))=true from by simp]
   refine su ?_
   refine A1d [6,7,10] [0,1,2,3,4,5,6,7,8,9,10] A1e Y kR ?_
   refine su ?_
   refine S_do kR (A3w tab Y Y Y Y Y Y Y Y Y Y (fun b6 c6 hL=>⟨Le.refl _,kp,?_⟩))
   refine S_do kR (A3x tab (xs:=[y1,y2,y3,y4,y5]) seg1 [(b6,c6,175)] [(bf,fwC n a 0 cap,170),(bx,(Value.agg (List.toArray [y1,y2,y3,y4,y5])).cells,175)] Y Y Y Y Y Y Y Y Y Y Y (show ∀p,Pal.cnt p ((b6,c6,175)::(seg1++[(bx,(Value.agg (List.toArray [y1,y2,y3,y4,y5])).cells,175),(bf,fwC n a 0 cap,170)]))=Pal.cnt p (seg1++([(b6,c6,175)]++[(bf,fwC n a 0 cap,170),(bx,(Value.agg (List.toArray [y1,y2,y3,y4,y5])).cells,175)]))from cntA) hS1 (fun hb=>RowAt.own hb cntL hL) Y hy (by show(2*(0+1)+768)*72≤2^48;omega) oM (fun seg2 a2 cap2 hS2=>⟨Le.refl _,kp,?_⟩))
   repeat (refine ss ?_)
   refine S_do kR (A2q tab Y Y Y Y Y Y Y ib (by exact Y) sb ⟨Le.refl _,kp,?_⟩)
   repeat (refine ss ?_)
   refine A1o tab ((bf,fwC n a2 (0+1) cap2,170)::seg2) .nil (Back.here (show Subm ((bf,fwC n a2 (0+1) cap2,170)::seg2) (seg2++[(bf,fwC n a2 (0+1) cap2,170),(bx,(Value.agg (List.toArray [y1,y2,y3,y4,y5])).cells,175)])from cntL)) ?_
   refine⟨Y,?_⟩
   rw [show addY (k,ys) n [y1,y2,y3,y4,y5]=(n,[[y1,y2,y3,y4,y5]])from if_pos (.inr h1)]
   exact⟨a2,cap2,seg2,Y,hS2⟩
  ·rw [show decide ((n:Int)<(k:Int))=false from decide_eq_false oM]
   refine su ?_
   by_cases h2:n=k
   ·subst h2
    rw [show((n:Int)==(n:Int))=true from by simp]
    refine su ?_
    refine A1d [6,7,10] [0,1,2,3,4,5,6,7,8,9,10] A1e Y kR ?_
    refine su ?_
    refine S_do kR (A3w tab Y Y Y Y Y Y Y Y Y Y (fun b6 c6 hL=>⟨Le.refl _,kp,?_⟩))
    refine S_do kR (A3x tab (xs:=[y1,y2,y3,y4,y5]) seg [(b6,c6,175)] [(bf,fwC n a ys.length cap,170),(bx,(Value.agg (List.toArray [y1,y2,y3,y4,y5])).cells,175)] Y Y Y Y Y Y Y Y Y Y Y cntA hS (fun hb=>RowAt.own hb cntL hL) Y hy (by show(2*(ys.length+1)+768)*72≤2^48;omega) oM (fun seg2 a2 cap2 hS2=>⟨Le.refl _,kp,?_⟩))
    repeat (refine ss ?_)
    refine S_do kR (A2q tab Y Y Y Y Y Y Y ib (by exact Y) sb ⟨Le.refl _,kp,?_⟩)
    repeat (refine ss ?_)
    refine A1o tab ((bf,fwC n a2 (ys.length+1) cap2,170)::seg2) .nil (Back.here (show Subm ((bf,fwC n a2 (ys.length+1) cap2,170)::seg2) (seg2++[(bf,fwC n a2 (ys.length+1) cap2,170),(bx,(Value.agg (List.toArray [y1,y2,y3,y4,y5])).cells,175)])from cntL)) ?_
    refine⟨Y,?_⟩
    rw [show addY (n,ys) n [y1,y2,y3,y4,y5]=(n,ys++[[y1,y2,y3,y4,y5]])from by unfold addY;rw [if_neg (by simp [h0]),if_pos rfl]]
    refine⟨a2,cap2,seg2,?_,?_⟩
    ·simp only [List.length_append,List.length_singleton]
    ·simp only [List.length_append,List.length_singleton,List.flatten_append,List.flatten_cons,List.flatten_nil,List.append_nil]
     exact hS2
   ·rw [show((n:Int)==(k:Int))=false from by simp;omega]
    refine su ?_
    refine A1o tab ((bf,fwC k a ys.length cap,170)::seg) .nil (Back.here cntL) ?_
    refine⟨Y,?_⟩
    rw [show addY (k,ys) n [y1,y2,y3,y4,y5]=(k,ys)from by unfold addY;rw [if_neg (by simp [h0];omega),if_neg h2]]
    exact⟨a,cap,seg,Y,hS⟩
end
end Go.Proofs.YtclejblcnfaeaaaGreatDoor
end
section
namespace Go.Pal
open Go Go.Conc View
theorem F_mkf{P:Program}{main:Bool}{R:Goroutine→Prop}[S:Sil P main R]{n:Nat}{b:Frame}{k:List Item}{cs:List Frame}{ρ:Regs}{ds:List Deferred}{ops:Array Oper}{i:Nat}{rest:List Nat}{d:Nat}{ty:TypeId}{pos:String}{af:Array Edge}{gu:Option (Nat×Bool)}
  {fn:Fn}{cap:Array Operand}{ys:List Value}(hk:b.kind≠.early)(hr:b.roundOf=none)(ho:ops[i]?=some ⟨some d,.makeFunc fn #[] cap,ty,pos,af,gu⟩)(hw:A0p ops gu ρ=some true)(hn:Nat.blt d n=true)(hc:A2s ρ.val cap.toList=some ys)
  (h:XG R n b (.inRegion ops rest::k) cs ds ((d,.func fn #[] ys.toArray)::ρ)):XG R n b (.inRegion ops (i::rest)::k) cs ds ρ:=fun a hf=>by
 have ha:cap.map a.eval=ys.toArray:=Array.toList_inj.1 (by simpa using A2c (A0k hf) hc)
 have hrun:∀w,(execOp a.eval ⟨some d,.makeFunc fn #[] cap,ty,pos,af,gu⟩).run P w = .ok (.value (.func fn #[] ys.toArray)) w:=fun w=>by
  unfold execOp
  simp [Instr.makeFunc,ha]
 have hev:∀w,(execOp a.eval ⟨some d,.makeFunc fn #[] cap,ty,pos,af,gu⟩).events P w #[]=#[]:=fun w=>by
  unfold execOp
  simp only [Instr.makeFunc,ha]
  rfl
 refine S.step Y (g':=G (b.on (a.put (some d) (.func fn #[] ys.toArray)) (.inRegion ops rest::k)) cs) (fun w=>?_) (h _ (A0x hf (show A2p n (some d)=true from hn)))
 rw [A1u hr,A1u hr,stepG_value (v:=.func fn #[] ys.toArray) (w':=w) ho (A0m hf (A0j hw)) hk (hrun w)]
 unfold listed
 rw [hev w]
 simp [seen_none]
section
variable{P:Program}{mn:Who}(T:Tab P){rd:Option Nat}{n:Nat}{Q:Exit→St→View→Prop}{ds:List Deferred}{ρ:Regs}{β:A0e}{v:View}{K:St→View→Prop}
 {ops:Array Oper}{i:Nat}{d:Nat}{ty:TypeId}{pos:String}{af:Array Edge}{gu:Option (Nat×Bool)}
theorem A_makeChan0{t el:TypeId}{dir:ChanDir}{y:Operand}{by_:Nat}(ho:ops[i]?=some ⟨some d,.makeChan t y,ty,pos,af,gu⟩)(hw:A0p ops gu ρ=some true)(hn:Nat.blt d n=true)(hy:ρ.val y=some (.int .i64 0))(ht:T.und t=some (.chan dir el))(hby:T.byt el=some by_)
  (h:∀r,v r=none→K ⟨ds,(d,.chan (some r))::ρ,β⟩ (v.set r true (.chan 0 #[] false 0 0 false))):XOp P mn rd n ops i Q K ⟨ds,ρ,β⟩ v:=by
 refine A1w ho (A0j hw) (.inr Y) hn fun ev hev hbk=>?_
 unfold execOp
 simp only [Instr.makeChan,hev _ _ hy,asInt,asIntOf,A0a,A0h,A1k T ht]
 refine tx_info T hby fun i hi=>?_
 rw [if_neg (by rintro(h|h|h)<;>revert h<;>simp [IntKind.max,IntKind.signed,IntKind.bits])]
 simp only [A0a,A0h,A8d]
 intro r hr
 have hr':v r=none∧A0c β r=none:=by
  unfold View.union at hr
  cases e:v r with
  | none=>rw [e]at hr;exact⟨rfl,hr⟩
  | some x=>rw [e]at hr;cases hr
 obtain⟨h1,h2⟩:=B2f (p:=true) (o:=.chan 0 #[] false 0 0 false) hbk hr'.2
 exact⟨β,_,⟨h1,h2 ▸ Le.refl _⟩,h r hr'.1⟩
end
section
variable{P:Program}{mn:Who}{rd:Option Nat}{n:Nat}{c:Code}{Q:Exit→St→View→Prop}{ds:List Deferred}{ρ:Regs}{β:A0e}{v:View}
theorem XC_run(h:∀(Stop:View→Goroutine→Prop) (b:Frame) (k:List Item) (cs:List Frame),b.kind≠.early→b.roundOf=rd→
   (∀{c':Code} {ds':List Deferred} {ρ':Regs} {β':A0e} {v':View},XC P mn rd n c' Q ⟨ds',ρ',β'⟩ v'→Bok β' v'→XG (Run P mn Stop (v'.union (A0c β'))) n b (.code c'::k) cs ds' ρ')→
   XG (Run P mn Stop (v.union (A0c β))) n b (.code c::k) cs ds ρ):XC P mn rd n c Q ⟨ds,ρ,β⟩ v:=fun a hf hb Stop b k cs hk hr hq=>
 h Stop b k cs hk hr (fun hx hb' a' hf'=>hx a' ⟨hf'.size,hf'.defers,hf'.get⟩ hb' Stop b k cs hk hr hq) a ⟨hf.size,hf.defers,hf.get⟩
end
end Go.Pal
end
section
namespace Go.Proofs.YtclejblcnfaeaaaGreatDoor
open Go Go.Pal Go.Pal.To Go.Conc View Go.Pal.Fan
open Go.Proofs.Tryz
set_option maxHeartbeats 4000000
set_option maxRecDepth 20000
noncomputable def bsTail:Code:=match f134.body with|some (.seq _ (.seq _ (.seq _ (.seq _ (.seq _ c)))))=>c|_=>.skip
noncomputable def bsC0:Code:=match bsTail with | .seq (.seq _ (.block _ (.loop c))) _=>c|_=>.skip
noncomputable def bsC2:Code:=match bsTail with | .seq _ (.seq _ (.seq (.block _ (.loop c)) _))=>c|_=>.skip
noncomputable def bsR13:Code:=match bsTail with | .seq _ (.seq c _)=>c|_=>.skip
noncomputable def B2e:Code:=match bsTail with | .seq _ (.seq _ (.seq _ c))=>c|_=>.skip
abbrev bsIn(Wg bd bch bf br:Nat):Regs:=[(5,.pointer (some ⟨Wg,0,none⟩)),(1,.pointer (some ⟨bd,0,none⟩)),(4,.pointer (some ⟨bch,0,none⟩)),(3,.pointer (some ⟨bf,0,none⟩)),(2,.pointer (some ⟨br,0,none⟩))]
abbrev bsSt(kk:Nat):Fan.Mn Wy:=if kk<3 then .a0 kk else .gc
section
variable{a b:List MA}{os:List Int}{Wg Ch:Nat}{hwc:Wg≠Ch}{base:Nat}{Z:View→Goroutine→Prop}{vR:View}{βm:A0e}{H bd bch dd bf br:Nat}{bb:Frame}{k:List Item}{fs:List Frame}
theorem starts_x(hb0:0<base)(hro:∀b',¬vR.Owns b')(hβm:Bok βm vR)(hd:∃p f aA cA aB cB,vR bd=some (p,.cells (List.toArray [.pointer (some ⟨dd,0,none⟩),.slice aA a.length cA,.slice aB b.length cB]) 179 f)∧ActsAt vR aA a∧ActsAt vR aB b)
  (hday:∃p f x0 x1,vR dd=some (p,.cells (owC x0 x1 os) 106 f))(hch:∃p f,vR bch=some (p,.cells (List.toArray [.chan (some Ch)]) 277 f))
  (hla:a.length+b.length<2^20)(hfa:FitW H a)(hfb:FitW H b)(hH:H≤3)(hos:os.length=H)(hbk:bb.kind≠.early)(hbr:bb.roundOf=none)
  (hend:XG (Do prog (parT a b os Wg Ch hwc) base Z 0 (.inl .gc) (vR.union (A0c βm))) f134.ntmps bb k fs [] (bsIn Wg bd bch bf br)) :
  XG (Do prog (parT a b os Wg Ch hwc) base Z 0 (.inl (.a0 0)) (vR.union (A0c βm))) f134.ntmps bb (.code bsC0::.inLoop bsC0::.inBlock 0::k) fs [] ((26,.int .i64 ((0:Nat):Int))::bsIn Wg bd bch bf br):=by
 haveI hA:∀q,Abs prog ⟨true,false⟩ (Do prog (parT a b os Wg Ch hwc) base Z 0 (.inl q)):=fun q=>abs_mn q
 refine F_iter (S:=Nat) (R':=fun kk=>Do prog (parT a b os Wg Ch hwc) base Z 0 (.inl (bsSt kk)) (vR.union (A0c βm))) (C:=bsC0) (ρ':=fun kk=>(26,.int .i64 (kk:Int))::bsIn Wg bd bch bf br) (fun kk=>3-kk) (fun kk=>kk≤3) ?_ 0 oM
 intro kk hk IH
 refine A3i ?_
 refine gr ?_
 refine A0t tab hbk hbr Y Y Y Y Y ?_
 refine gn ?_
 by_cases h3:kk=3
 ·subst h3
  rw [show decide (((3:Nat):Int)<3)=false from by decide]
  refine gn ?_
  rw [show bsSt 3 = .gc from rfl]
  exact Mu.F_in _ hend rg
 ·have hk3:kk<3:=oM
  rw [show decide ((kk:Int)<3)=true from decide_eq_true oM,show bsSt kk = .a0 kk from if_pos hk3]
  refine gn ?_
  have hb0':=hβm
  refine R_co hbk hβm ?_
  refine sw fun bx=>?_
  refine A0y fun hβ=>?_
  obtain⟨b6,rfl⟩:∃x:Nat,x=bx:=⟨bx,rfl⟩
  have hβ':Bok ([(b6,List.toArray [natV kk],3)]++βm) vR:=hβ
  change XG (Do _ _ _ _ _ _ (vR.union (A0c ([(b6,List.toArray [natV kk],3)]++βm)))) _ _ _ _ _ _
  refine gn ?_
  refine gr ?_
  refine A6o (ys:=[_,_]) hbk hbr Y Y Y Y Y func159 Y dM Y fun cf1 _ hcf1=>?_
  intro n
  refine A6j (main:=true) Y Y fun m _=>addpos_x (A:=parT a b os Wg Ch hwc) hb0 fun m' _=>hcf1 _ _ (do_at ?_ m')
  refine gn ?_
  refine gr ?_
  refine F_mkf (ys:=[_,_,_,_]) hbk hbr Y Y Y Y ?_
  -- what the child knows: all that is only read,and its mark
  have hfr:vR b6=none:=by
   rcases hβ'.disj b6 with e|e
   ·exact e
   ·simp [A0c]at e
  obtain⟨hβ2,_⟩:=bok_append.1 hβ'
  have hm6:βm.map (·.1) |>.Nodup:=hβm.nodup
  have hb6m:A0c βm b6=none:=by
   have:=(bok_append.1 hβ').2.disj b6
   rcases this with e|e
   ·unfold View.union at e;rw [hfr]at e;exact e
   ·simp [A0c]at e
  obtain⟨p1,f1,aA,cA,aB,cB,hd1,hda,hdb⟩:=id hd
  obtain⟨p2,f2,x0,x1,hd2⟩:=id hday
  obtain⟨p3,f3,hd3⟩:=id hch
  have huc:vR.Le (vR.set b6 false (.cells (List.toArray [natV kk]) 3 (0,0))):=fun x y e=>A2r e (fun e'=>by subst e';rw [hfr]at e;cases e)
  have hwk:WkAt (vR.set b6 false (.cells (List.toArray [natV kk]) 3 (0,0))) bd b6 bch dd Ch a b os kk:=⟨⟨p1,f1,aA,cA,aB,cB,huc _ _ hd1,hda.le huc,hdb.le huc⟩,⟨p2,f2,x0,x1,huc _ _ hd2⟩,⟨false,(0,0),by unfold View.set;rw [if_pos rfl]⟩,⟨p3,f3,huc _ _ hd3⟩⟩
  haveI hS:∀s v,Sil prog false (Do prog (parT a b os Wg Ch hwc) base Z (base+kk) (.inr (.inl (.sd s))) v):=fun s v=>(Abs.sil (P:=prog) (mn:=⟨false,false⟩) (R:=Do prog (parT a b os Wg Ch hwc) base Z (base+kk) (.inr (.inl (.sd s)))) (A:=abs_wk hb0 s))
  have hchild:Do prog (parT a b os Wg Ch hwc) base Z (base+kk) (.inr (.inl (.sd ((parT a b os Wg Ch hwc).Ls kk)))) (vR.set b6 false (.cells (List.toArray [natV kk]) 3 (0,0))) (born prog {target:=.fn (.func 160) (List.toArray [.pointer (some ⟨Wg,0,none⟩),.pointer (some ⟨bd,0,none⟩),.pointer (some ⟨b6,0,none⟩),.pointer (some ⟨bch,0,none⟩)]),args:=#[] }):=
   born_x func160 rfl dM fun cf hc hq=>worker_x hb0 hk3 hwk hla hfa hfb hH hos hc hq
  refine do_stop (mn:=⟨true,false⟩) Y Y fun n=>s_go (A:=parT a b os Wg Ch hwc) (kk:=kk) (u:=vR.union (A0c βm)) (uc:=vR.set b6 false (.cells (List.toArray [natV kk]) 3 (0,0))) hb0 hbk hbr Y Y Y ?_ ?_ ?_ (do_at ?_ n) (hchild n)
  ·intro x y e
   have:=(A6b (τ:=βm) (β:=[(b6,List.toArray [natV kk],3)]++βm) (fun p=>by rw [A0n];omega) hβ'.nodup).2
   unfold View.union at e⊢
   cases hv:vR x with
   | some z=>rw [hv]at e;exact e
   | none=>rw [hv]at e;exact this _ _ e
  ·intro x y e
   unfold View.set at e
   by_cases ex:x=b6
   ·subst ex
    rw [if_pos rfl]at e
    cases e
    exact⟨true,by
     have:=A0q hβ' (b:=x) (c:=List.toArray [natV kk]) (t:=3) ib
     exact this,fun h=>by cases h⟩
   ·rw [if_neg ex]at e
    exact⟨y.1,A0g _ _ _ _ e,fun h=>h⟩
  ·refine fun x=>⟨fun⟨o,ho⟩=>?_,fun⟨o,ho⟩=>?_⟩
   ·unfold View.set
    by_cases ex:x=b6
    ·subst ex
     exfalso
     unfold View.union at ho
     rw [hfr,hb6m]at ho
     cases ho
    ·rw [if_neg ex]
     cases hv:vR x with
     | none=>rfl
     | some z=>
      exfalso
      unfold View.union at ho
      rw [hv]at ho
      exact hro x ⟨o,by rw [hv];exact ho⟩
   ·exfalso
    unfold View.set at ho
    by_cases ex:x=b6
    ·rw [if_pos ex]at ho;cases ho
    ·rw [if_neg ex]at ho;exact hro x ⟨o,ho⟩
  ·have e:(if kk+1<(parT a b os Wg Ch hwc).J then Fan.Mn.a0 (kk+1)else .gc)=bsSt (kk+1):=rfl
   rw [e]
   refine gn ?_
   refine R_co hbk hβm ?_
   refine su ?_
   refine A0y fun _=>?_
   refine gn ?_
   refine A5q ?_
   exact Mu.F_in _ (IH (kk+1) oM oM) rg
end
def WyAt(v:View)(y:List Value)(w:Wy):Prop:=∃am cm ab cb,y=wyC am cm ab cb w∧RowAt v am (w.marks.map intV)∧RowAt v ab (w.book.map MA.cells).flatten
theorem WyAt.le{u v:View}{y:List Value}{w:Wy}(h:WyAt u y w)(hl:u.Le v):WyAt v y w:=by
 obtain⟨am,cm,ab,cb,h1,h2,h3⟩:=h
 exact⟨am,cm,ab,cb,h1,h2.le hl,h3.le hl⟩
theorem WyOwn.at{β:A0e}{y:Value}{w:Wy}{v:View}(h:WyOwn β y w)(hb:Bok β v):∃r,y = .agg r.toArray∧WyAt (v.union (A0c β)) r w:=by
 obtain⟨β1,β2,am,cm,ab,cb,rfl,rfl,h1,h2⟩:=h
 exact⟨_,Y,am,cm,ab,cb,Y,RowAt.own hb (fun p=>by rw [A0n];omega) h1,RowAt.own hb (fun p=>by rw [A0n];omega) h2⟩
inductive Rows(v:View):List (List Value)→List Wy→Prop
 | nil:Rows v [] []
 | cons {y:List Value} {w:Wy} {ys:List (List Value)} {ws:List Wy}:WyAt v y w→Rows v ys ws→Rows v (y::ys) (w::ws)
theorem Rows.le{u v:View}(hl:u.Le v):∀{ys:List (List Value)} {ws:List Wy},Rows u ys ws→Rows v ys ws
 | _,_,.nil=>.nil
 | _,_,.cons h r=>.cons (h.le hl) (r.le hl)
theorem Rows.snoc{v:View}{y:List Value}{w:Wy}(h:WyAt v y w):∀{ys:List (List Value)} {ws:List Wy},Rows v ys ws→Rows v (ys++[y]) (ws++[w])
 | _,_,.nil=>.cons h .nil
 | _,_,.cons h' r=>.cons h' (Rows.snoc h r)
theorem Rows.len{v:View}:∀{ys:List (List Value)} {ws:List Wy},Rows v ys ws→ys.length=ws.length
 | _,_,.nil=>rfl
 | _,_,.cons _ r=>by simp [r.len]
theorem Rows.empty{v:View}{ys:List (List Value)}{ws:List Wy}(h:Rows v ys ws):ys=[]↔ws=[]:=by
 have:=h.len
 rw [←List.length_eq_zero_iff,←List.length_eq_zero_iff,this]
def Kept(v:View)(s:Nat×List (List Value))(l:List Wy):Prop:=s.1=(A1n l).1∧Rows v s.2 (A1n l).2
theorem Kept.le{u v:View}{s:Nat×List (List Value)}{l:List Wy}(h:Kept u s l)(hl:u.Le v):Kept v s l:=⟨h.1,h.2.le hl⟩
theorem Kept.add{v:View}{s:Nat×List (List Value)}{l:List Wy}{y:List Value}{m:Wy}(h:Kept v s l)(hy:WyAt v y m):Kept v (addY s m.marks.length y) (l++[m]):=by
 obtain⟨k,ys⟩:=s
 obtain⟨h1,h2⟩:=h
 simp only at h1 h2
 unfold Kept
 rw [B1z]
 have he:=h2.empty
 unfold addY addF
 simp only
 rw [←h1]
 have hl:lenW m=m.marks.length:=rfl
 rw [hl]
 by_cases c1:ys=[]∨m.marks.length<k
 ·rw [if_pos c1,if_pos (c1.imp he.1 id)]
  exact⟨Y,.cons hy .nil⟩
 ·have c1':¬((A1n l).2=[]∨m.marks.length<k):=fun c=>c1 (c.imp he.2 id)
  by_cases c2:m.marks.length=k
  ·rw [if_neg c1,if_pos c2,if_neg c1',if_pos c2]
   exact⟨Y,h2.snoc hy⟩
  ·rw [if_neg c1,if_neg c2,if_neg c1',if_neg c2]
   exact⟨h1,h2⟩
theorem fewest_len(l:List Wy):(A1n l).2.length≤l.length:=by
 by_cases e:l=[]
 ·subst e;exact Nat.le_refl _
 ·rw [(A6a e).2.2];exact List.length_filter_le _ _
theorem wyC_cells(am:Option Addr)(cm:Nat)(ab:Option Addr)(cb:Nat)(w:Wy):(wyC am cm ab cb w).all A2k=true:=rfl
section
variable{a b:List MA}{os:List Int}{Wg Ch:Nat}{hwc:Wg≠Ch}{base:Nat}{Z:View→Goroutine→Prop}{vR:View}{βr:A0e}{bd bch bf br tot:Nat}{bb:Frame}{k:List Item}{fs:List Frame}
theorem recvs_x(hb0:0<base)(hch:∃p f,vR bch=some (p,.cells (List.toArray [.chan (some Ch)]) 277 f))(htot:(Fan.cat 3 (parT a b os Wg Ch hwc).Ls).length<2^20)(hbk:bb.kind≠.early)(hbr:bb.roundOf=none)
  (hend:∀n l vX s βf,Bok (βf++βr) vX→vR.Le vX→FwOwn βf bf s→Kept vX s l→XG (K.Job prog (A0w (parT a b os Wg Ch hwc) base) base Z n 0 (.inl (.fin l)) (vX.union (A0c (βf++βr)))) f134.ntmps bb k fs [] (bsIn Wg bd bch bf br)) :
  ∀n l vX s βf,Bok (βf++βr) vX→vR.Le vX→FwOwn βf bf s→Kept vX s l→XG (K.Job prog (A0w (parT a b os Wg Ch hwc) base) base Z n 0 (.inl (.rc l)) (vX.union (A0c (βf++βr)))) f134.ntmps bb (.code bsC2::.inLoop bsC2::.inBlock 2::k) fs [] (bsIn Wg bd bch bf br):=by
 intro n
 induction n with
 | zero=>intro l vX s βf _ _ _ _ ac hf;trivial
 | succ n ih=>
 intro l vX s βf hβ hX hfw hkp
 haveI hA:∀n q,Abs prog ⟨true,false⟩ (K.Job prog (A0w (parT a b os Wg Ch hwc) base) base Z n 0 (.inl q)):=fun n q=>abs_job Y Y Y
 obtain⟨p4,f4,hd4⟩:=hch
 refine B0b ?_
 refine gn ?_
 refine gr ?_
 refine R_xo hbk hβ (A_ld tab Y Y Y Y (hX _ _ hd4) (A0l tab Y Y Y Y) ?_)
 refine A2n fun _=>?_
 refine A5z (main:=true) Y Y fun n' hn'=>?_
 obtain rfl:n=n':=oM
 refine s_recv (A:=parT a b os Wg Ch hwc) (z:=zeroW) hbk (fun c hc w=>recv_runT tab Y Y (A0k hc _ _ Y) w) (.inl hbr) Y Y Y (fun m y ux hmsg hok hux hdis=>?_) ?_
 ·obtain⟨β,hnd,rfl,hw⟩:=hmsg
  have hbV:Bok β (vX.union (A0c (βf++βr))):=⟨hnd,hdis⟩
  have hbA:Bok (β++(βf++βr)) vX:=bok_append.2 ⟨hβ,hbV⟩
  obtain⟨hb1,hb2,heq⟩:=A4x (β1:=β) (β2:=βf++βr) hbA cntA
  rw [←A0v hbA,heq]
  obtain⟨y',rfl,hwa⟩:=WyOwn.at hw hb1
  have hX1:=A0g vX (A0c β)
  have hkp1:=(hkp.le hX1).add hwa
  obtain⟨am,cm,ab,cb,rfl,_,_⟩:=id hwa
  have hlen:s.2.length<2^20:=by
   obtain⟨γ,q1,q2⟩:=hok
   have h1:=q1.perm.length_eq
   have h5:(l++[m]).length≤(Fan.cat 3 (parT a b os Wg Ch hwc).Ls).length:=calc
    (l++[m]).length=(Fan.gotL γ.mn).length:=by rw [q2];rfl
    _≤_:=by rw [List.length_append]at h1;exact Nat.le_trans (Nat.le_add_right _ _) (Nat.le_of_eq h1)
   rw [List.length_append]at h5
   have h2:=hkp.2.len
   have h3:=fewest_len l
   have h6:([m]:List Wy).length=1:=rfl
   exact Nat.lt_of_le_of_lt (Nat.le_trans (Nat.le_of_eq h2) (Nat.le_trans h3 (Nat.le_trans (Nat.le_add_right _ _) h5))) htot
  generalize vX.union (A0c β)=vX1 at *
  clear hbA hbV heq hb1 hdis hux hok hw hnd
  refine gn ?_
  repeat (refine R_xo hbk hb2 (A_mk tab rfl rfl rfl rfl ?_);refine A2n fun _=>?_)
  refine R_xo hbk hb2 (A8z tab Y Y Y Y (fun b7=>?_))
  refine A2n fun hb3=>?_
  refine R_xo hbk hb3 (A2q tab Y Y Y Y Y Y Y ib (by exact Y) sb ?_)
  refine A2n fun hb4=>?_
  have hb4':Bok ((b7,(Value.agg (wyC am cm ab cb m).toArray).cells,175)::(βf++βr)) vX1:=hb4
  change XG (K.Job _ _ _ _ _ _ _ (vX1.union (A0c ((b7,(Value.agg (wyC am cm ab cb m).toArray).cells,175)::(βf++βr))))) _ _ _ _ _ _
  refine gn ?_
  refine gr ?_
  refine gn ?_
  refine R_co hbk hb4' ?_
  refine su ?_
  refine Q_op fun ho=>A0o βf ((b7,(Value.agg (wyC am cm ab cb m).toArray).cells,175)::βr) ho bod158 Y Y Y Y Y cntA (addFew_x hfw (wyC_cells am cm ab cb m) hlen) (fun x β' hR=>?_)
  clear ho
  obtain⟨rfl,hfw'⟩:=hR
  refine su ?_
  refine A0y fun hb5=>?_
  refine gn ?_
  refine A5q ?_
  have hb6:Bok (β'++βr) vX1:=(A5k (fun p=>by rw [A0n,A0n,A3u];omega) hb5).1
  refine fun ac hf=>Abs.drop (β':=β'++βr) (fun p=>by rw [A0n,A0n,A3u];omega) hb5 (Mu.F_in _ (ih (l++[m]) vX1 _ β' hb6 (hX.trans hX1) hfw' hkp1) rg ac hf)
 ·refine gn ?_
  repeat (refine R_xo hbk hβ (A_mk tab rfl rfl rfl rfl ?_);refine A2n fun _=>?_)
  refine R_xo hbk hβ (A8z tab Y Y Y Y (fun b7=>?_))
  refine A2n fun hb3=>?_
  refine R_xo hbk hb3 (A2q tab Y Y Y Y Y Y Y ib (by exact Y) sb ?_)
  refine A2n fun hb4=>?_
  refine gn ?_
  refine gr ?_
  refine gn ?_
  refine fun ac hf=>Abs.drop (β':=βf++βr) (fun p=>by rw [A0n,A3u,A0n];omega) hb4 (Mu.F_in _ (hend n l vX s βf hβ hX hfw hkp) rg ac hf)
end
def Alike(u w:View):Prop:=∀b x,u b=some x→∃p,w b=some (p,x.2)
theorem RowAt.alike{u w:View}{a:Option Addr}{xs:List Value}(h:RowAt u a xs)(hl:Alike u w):RowAt w a xs:=by
 rcases h with h|⟨b,off,p,c,e,f,h1,h2,h3,h4⟩
 ·exact .inl h
 ·obtain⟨p',hp⟩:=hl _ _ h2
  exact .inr ⟨b,off,p',c,e,f,h1,hp,h3,h4⟩
theorem Rows.alike{u w:View}(hl:Alike u w):∀{ys:List (List Value)} {ws:List Wy},Rows u ys ws→Rows w ys ws
 | _,_,.nil=>.nil
 | _,_,.cons ⟨am,cm,ab,cb,h1,h2,h3⟩ r=>.cons ⟨am,cm,ab,cb,h1,RowAt.alike h2 hl,RowAt.alike h3 hl⟩ (Rows.alike hl r)
theorem bok_key{β:A0e}{v:View}(hb:Bok β v){x:Nat}(h:x∈β.map (·.1)):v x=none:=by
 obtain⟨⟨j,c,t⟩,hq,rfl⟩:=List.mem_map.1 h
 exact(hb.disj j).resolve_right (by rw [A2h hb.nodup hq];simp)
theorem bview_flag{β:A0e}(hn:(β.map (·.1)).Nodup){b:Nat}{x:Bool×Obj}(h:A0c β b=some x):x.1=true:=by
 have hm:=A4h h
 obtain⟨⟨j,c,t⟩,hq,rfl⟩:=List.mem_map.1 hm
 rw [A2h hn hq]at h
 cases h;rfl
def roV(S:Nat→Bool)(V:View):View:=fun b=>if S b then none else(V b).map fun x=>(false,x.2)
def lessS(S:Nat→Bool)(V:View):View:=fun b=>if S b then V b else(V b).map fun x=>(false,x.2)
def ownS(S:Nat→Bool)(V:View):View:=fun b=>if S b then none else match V b with|some (true,o)=>some (true,o)|_=>none
theorem lessS_lift(S:Nat→Bool)(V:View):Lift (ownS S V) (lessS S V)∧(ownS S V).union (lessS S V)=V:=by
 refine⟨fun b x hb=>?_,?_⟩
 ·unfold ownS at hb
  unfold lessS
  cases e:S b with
  | true=>rw [e]at hb;cases hb
  | false=>
   rw [e]at hb
   simp only [Bool.false_eq_true,if_false]at hb⊢
   cases hv:V b with
   | none=>rw [hv]at hb;cases hb
   | some y=>
    obtain⟨p,o⟩:=y
    rw [hv]at hb
    cases p with
    | false=>cases hb
    | true=>cases hb;exact⟨o,rfl,.inr rfl⟩
 ·funext b
  unfold View.union ownS lessS
  cases e:S b with
  | true=>rfl
  | false=>
   simp only [Bool.false_eq_true,if_false]
   cases hv:V b with
   | none=>rfl
   | some y=>
    obtain⟨p,o⟩:=y
    cases p<;>rfl
theorem roV_ro{S:Nat→Bool}{V:View}:∀b',¬(roV S V).Owns b':=fun b' ⟨o,ho⟩=>by
 unfold roV at ho
 split at ho
 ·cases ho
 ·cases hv:V b' with
  | none=>rw [hv]at ho;cases ho
  | some y=>rw [hv]at ho;cases ho
theorem roV_at{S:Nat→Bool}{V:View}{b:Nat}{x:Bool×Obj}(h:V b=some x)(hs:S b=false):roV S V b=some (false,x.2):=by
 unfold roV;rw [hs,h];rfl
section
variable{a b:List MA}{os:List Int}{Wg Ch:Nat}{hwc:Wg≠Ch}{base:Nat}{Z:View→Goroutine→Prop}{vR:View}{βm:A0e}{H bd bch dd bf br:Nat}{bb:Frame}{k:List Item}{fs:List Frame}
theorem main_x{cr:Array Value}(hb0:0<base)(hro:∀b',¬vR.Owns b')(hβm:Bok ([(bf,fwC 0 none 0 0,170)]++[(br,cr,170)]) vR)(hd:∃p f aA cA aB cB,vR bd=some (p,.cells (List.toArray [.pointer (some ⟨dd,0,none⟩),.slice aA a.length cA,.slice aB b.length cB]) 179 f)∧ActsAt vR aA a∧ActsAt vR aB b)
  (hday:∃p f x0 x1,vR dd=some (p,.cells (owC x0 x1 os) 106 f))(hch:∃p f,vR bch=some (p,.cells (List.toArray [.chan (some Ch)]) 277 f))
  (hla:a.length+b.length<2^20)(hfa:FitW H a)(hfb:FitW H b)(hH:H≤3)(hos:os.length=H)(htot:(Fan.cat 3 (parT a b os Wg Ch hwc).Ls).length<2^20)(hbk:bb.kind≠.early)(hbr:bb.roundOf=none)
  (hZ:∀c l vX s βf,Fits f134.ntmps ⟨[],bsIn Wg bd bch bf br,[]⟩ c→l.Perm (Fan.cat 3 (parT a b os Wg Ch hwc).Ls)→Bok (βf++[(br,cr,170)]) vX→vR.Le vX→FwOwn βf bf s→Kept vX s l→Z (vX.union (A0c (βf++[(br,cr,170)]))) (G (bb.on c (.code B2e::k)) fs)) :
  XG (Do prog (parT a b os Wg Ch hwc) base Z 0 (.inl (.a0 0)) (vR.union (A0c ([(bf,fwC 0 none 0 0,170)]++[(br,cr,170)])))) f134.ntmps bb (.code bsC0::.inLoop bsC0::.inBlock 0::.code (.seq bsR13 (.seq (.block 2 (.loop bsC2)) B2e))::k) fs [] ((26,.int .i64 ((0:Nat):Int))::bsIn Wg bd bch bf br):=by
 haveI hA:∀q,Abs prog ⟨true,false⟩ (Do prog (parT a b os Wg Ch hwc) base Z 0 (.inl q)):=fun q=>abs_mn q
 refine starts_x hb0 hro hβm hd hday hch hla hfa hfb hH hos hbk hbr ?_
 refine A3i ?_
 refine A0r (l:=[0,1]) Y ?_
 refine F_mkf (ys:=[_,_]) hbk hbr Y Y Y Y ?_
 haveI hS:Sil prog false (Do prog (parT a b os Wg Ch hwc) base Z (base+3) (.inr (.inr .w0)) vR):=(Abs.sil (P:=prog) (mn:=⟨false,false⟩) (R:=Do prog (parT a b os Wg Ch hwc) base Z (base+3) (.inr (.inr .w0))) (A:=abs_cl hb0 _))
 have hchild:Do prog (parT a b os Wg Ch hwc) base Z (base+3) (.inr (.inr .w0)) vR (born prog {target:=.fn (.func 162) (List.toArray [.pointer (some ⟨Wg,0,none⟩),.pointer (some ⟨bch,0,none⟩)]),args:=#[] }):=
  born_x func162 rfl dM fun cf hc hq=>closer_x hb0 hch hc hq
 refine do_stop (mn:=⟨true,false⟩) Y Y fun n=>s_gc (A:=parT a b os Wg Ch hwc) (u:=vR.union (A0c ([(bf,fwC 0 none 0 0,170)]++[(br,cr,170)]))) (uc:=vR) hb0 hbk hbr Y Y Y (Le.refl _) (fun x y e=>⟨y.1,A0g _ _ _ _ e,fun h=>h⟩) ?_ (do_at ?_ n) (hchild n)
 ·refine fun x=>⟨fun⟨o,ho⟩=>?_,fun h=>absurd h (hro x)⟩
  cases hv:vR x with
  | none=>rfl
  | some z=>
   exfalso
   unfold View.union at ho
   rw [hv]at ho
   exact hro x ⟨o,by rw [hv];exact ho⟩
 ·refine gn ?_
  refine F_loop ?_
  refine Mu.F_in (bsIn Wg bd bch bf br) ?_ rg
  intro ac hf n
  refine recvs_x (βr:=[(br,cr,170)]) hb0 hch htot hbk hbr (fun n l vX s βf h1 h2 h3 h4 c hc=>?_) n [] vR (0,[]) [(bf,fwC 0 none 0 0,170)] hβm (Le.refl _) ⟨none,0,[],Y,.nil⟩ ⟨Y,.nil⟩ ac ⟨hf.size,hf.defers,hf.get⟩
  exact A6j (main:=true) Y Y fun m _=>s_over hb0 Y Y fun hp=>hZ c l vX s βf hc hp h1 h2 h3 h4
theorem bestmid_x{v0:View}{cr:Array Value}{Q:Exit→St→View→Prop}{aA aB:Option Addr}{cA cB:Nat}(hfresh:v0 Ch=none)(hda:ActsAt v0 aA a)(hdb:ActsAt v0 aB b)(hday:∃p f x0 x1,v0 dd=some (p,.cells (owC x0 x1 os) 106 f))
  (hla:a.length+b.length<2^20)(hfa:FitW H a)(hfb:FitW H b)(hH:H≤3)(hos:os.length=H)
  (htot:∀Wg Ch hwc,(Fan.cat 3 (parT a b os Wg Ch hwc).Ls).length<2^20)
  (hK:∀l vX s βf,l.Perm (Fan.cat 3 fun j=>A3e [(j:Int)] a b ⟨[],[],os⟩)→Bok (βf++[(br,cr,170)]) vX→v0.Le vX→FwOwn βf bf s→Kept vX s l→XC prog ⟨true,true⟩ none f134.ntmps B2e Q ⟨[],bsIn Wg bd bch bf br,βf++[(br,cr,170)]⟩ vX) :
  XC prog ⟨true,true⟩ none f134.ntmps bsTail Q ⟨[],bsIn Wg bd bch bf br,[(Wg,List.toArray [.int .u64 0,.int .u32 0],285),(bch,List.toArray [.chan (some Ch)],277),(bf,fwC 0 none 0 0,170),(br,cr,170),(bd,List.toArray [.pointer (some ⟨dd,0,none⟩),.slice aA a.length cA,.slice aB b.length cB],179)]⟩ (v0.set Ch true (.chan 0 #[] false 0 0 false)):=by
 intro a00 hf00 hβ
 refine XC_run (fun Stop bb k fs hbk hbr hrest=>?_) a00 hf00 hβ
 clear hf00 a00
 have hnd:=hβ.nodup
 simp only [List.map_cons,List.map_nil,List.nodup_cons,List.mem_cons,List.not_mem_nil,or_false,not_or]at hnd
 have hch:(v0.set Ch true (.chan 0 #[] false 0 0 false)) Ch=some (true,.chan 0 #[] false 0 0 false):=by unfold View.set;rw [if_pos rfl]
 have hkey:∀x∈[Wg,bch,bf,br,bd],(v0.set Ch true (.chan 0 #[] false 0 0 false)) x=none:=fun x hx=>bok_key hβ (by simpa using hx)
 have hne:∀x∈[Wg,bch,bf,br,bd],x≠Ch:=fun x hx e=>by
  have:=hkey x hx
  rw [e,hch]at this;cases this
 have hwc:Wg≠Ch:=hne _ sM
 have hVk:∀b' c t,InB b' c t [(Wg,List.toArray [.int .u64 0,.int .u32 0],285),(bch,List.toArray [.chan (some Ch)],277),(bf,fwC 0 none 0 0,170),(br,cr,170),(bd,List.toArray [.pointer (some ⟨dd,0,none⟩),.slice aA a.length cA,.slice aB b.length cB],179)]→((v0.set Ch true (.chan 0 #[] false 0 0 false)).union (A0c [(Wg,List.toArray [.int .u64 0,.int .u32 0],285),(bch,List.toArray [.chan (some Ch)],277),(bf,fwC 0 none 0 0,170),(br,cr,170),(bd,List.toArray [.pointer (some ⟨dd,0,none⟩),.slice aA a.length cA,.slice aB b.length cB],179)])) b'=some (true,.cells c t (0,0)):=fun b' c t h=>A0q hβ h
 have hVv:∀b' x,(v0.set Ch true (.chan 0 #[] false 0 0 false)) b'=some x→((v0.set Ch true (.chan 0 #[] false 0 0 false)).union (A0c [(Wg,List.toArray [.int .u64 0,.int .u32 0],285),(bch,List.toArray [.chan (some Ch)],277),(bf,fwC 0 none 0 0,170),(br,cr,170),(bd,List.toArray [.pointer (some ⟨dd,0,none⟩),.slice aA a.length cA,.slice aB b.length cB],179)])) b'=some x:=fun b' x h=>A2t h
 have hVWg:=hVk Wg _ _ ib
 have hVch:=hVk bch _ _ ib
 have hVbf:=hVk bf _ _ ib
 have hVbr:=hVk br _ _ ib
 have hVbd:=hVk bd _ _ ib
 have hVC:=hVv _ _ hch
 have h0v:∀b' x,v0 b'=some x→b'≠Ch∧(v0.set Ch true (.chan 0 #[] false 0 0 false)) b'=some x:=fun b' x h=>by
  have e:b'≠Ch:=fun e=>by rw [e,hfresh]at h;cases h
  exact⟨e,A2r h e⟩
 obtain⟨S,hS⟩:∃S:Nat→Bool,S=fun x=>decide (x=Wg∨x=Ch∨x=bf∨x=br):=⟨_,rfl⟩
 have hS1:∀x,S x=true↔(x=Wg∨x=Ch∨x=bf∨x=br):=fun x=>by rw [hS];exact decide_eq_true_iff
 have hS0:∀b' x,v0 b'=some x→S b'=false:=fun b' x h=>by
  obtain⟨e1,e2⟩:=h0v b' x h
  cases e:S b' with
  | false=>rfl
  | true=>
   rcases (hS1 b').1 e with rfl|rfl|rfl|rfl
   ·rw [hkey _ sM]at e2;cases e2
   ·exact absurd Y e1
   ·rw [hkey _ sM]at e2;cases e2
   ·rw [hkey _ sM]at e2;cases e2
 have hro0:∀b' x,v0 b'=some x→roV S ((v0.set Ch true (.chan 0 #[] false 0 0 false)).union (A0c [(Wg,List.toArray [.int .u64 0,.int .u32 0],285),(bch,List.toArray [.chan (some Ch)],277),(bf,fwC 0 none 0 0,170),(br,cr,170),(bd,List.toArray [.pointer (some ⟨dd,0,none⟩),.slice aA a.length cA,.slice aB b.length cB],179)])) b'=some (false,x.2):=fun b' x h=>roV_at (hVv b' x (h0v b' x h).2) (hS0 b' x h)
 have hrow:∀{a':Option Addr} {xs:List Value},RowAt v0 a' xs→RowAt (roV S ((v0.set Ch true (.chan 0 #[] false 0 0 false)).union (A0c [(Wg,List.toArray [.int .u64 0,.int .u32 0],285),(bch,List.toArray [.chan (some Ch)],277),(bf,fwC 0 none 0 0,170),(br,cr,170),(bd,List.toArray [.pointer (some ⟨dd,0,none⟩),.slice aA a.length cA,.slice aB b.length cB],179)]))) a' xs:=fun {a' xs} h=>RowAt.alike h fun b' x hx=>⟨false,hro0 b' x hx⟩
 have hSbd:S bd=false:=by
  cases e:S bd with
  | false=>rfl
  | true=>
   exfalso
   rcases (hS1 bd).1 e with e|e|e|e
   ·exact hnd.1.2.2.2 e.symm
   ·exact hne bd sM e
   ·exact hnd.2.2.1.2 e.symm
   ·exact hnd.2.2.2.1 e.symm
 have hSch:S bch=false:=by
  cases e:S bch with
  | false=>rfl
  | true=>
   exfalso
   rcases (hS1 bch).1 e with e|e|e|e
   ·exact hnd.1.1 e.symm
   ·exact hne bch sM e
   ·exact hnd.2.1.1 e
   ·exact hnd.2.1.2.1 e
 generalize hV:(v0.set Ch true (.chan 0 #[] false 0 0 false)).union (A0c [(Wg,List.toArray [.int .u64 0,.int .u32 0],285),(bch,List.toArray [.chan (some Ch)],277),(bf,fwC 0 none 0 0,170),(br,cr,170),(bd,List.toArray [.pointer (some ⟨dd,0,none⟩),.slice aA a.length cA,.slice aB b.length cB],179)])=V at *
 refine A3i ?_
 refine A3i ?_
 refine A0r (l:=[0]) Y ?_
 refine F_mv tab hbk hbr Y Y Y Y Y Y ?_
 refine F_nil ?_
 refine B0b ?_
 refine F_loop ?_
 obtain⟨hL1,hL2⟩:=lessS_lift S V
 have hless:∀x,S x=true→lessS S V x=V x:=fun x h=>by unfold lessS;rw [if_pos h]
 have hroS:∀x,S x=true→roV S V x=none:=fun x h=>by unfold roV;rw [if_pos h]
 have hbm:∀x y,A0c ([(bf,fwC 0 none 0 0,170)]++[(br,cr,170)]) x=some y→(x=bf∨x=br)∧V x=some y:=fun x y h=>by
  have hm:=A4h h
  simp only [List.map_append,List.map_cons,List.map_nil,List.mem_append,List.mem_singleton]at hm
  refine⟨hm,?_⟩
  have hn2:(([(bf,fwC 0 none 0 0,170)]++[(br,cr,170)]:A0e).map (·.1)).Nodup:=by simp;exact hnd.2.2.1.1
  rcases hm with rfl|rfl
  ·rw [A2h hn2 (by simp:(x,fwC 0 none 0 0,170)∈_)]at h;cases h;exact hVbf
  ·rw [A2h hn2 (by simp:(x,cr,170)∈_)]at h;cases h;exact hVbr
 have hβm:Bok ([(bf,fwC 0 none 0 0,170)]++[(br,cr,170)]) (roV S V):=⟨by simp;exact hnd.2.2.1.1,fun x=>by
  cases h:A0c ([(bf,fwC 0 none 0 0,170)]++[(br,cr,170)]) x with
  | none=>exact .inr rfl
  | some y=>
   left
   refine hroS x ((hS1 x).2 ?_)
   rcases (hbm x y h).1 with e|e
   ·exact .inr (.inr (.inl e))
   ·exact .inr (.inr (.inr e))⟩
 have hbig:∀ac,Fits f134.ntmps ⟨[],(26,.int .i64 ((0:Nat):Int))::bsIn Wg bd bch bf br,[]⟩ ac→BigStep prog (lessS S V) (G (bb.on ac (.code bsC0::.inLoop bsC0::.inBlock 0::.code (.seq bsR13 (.seq (.block 2 (.loop bsC2)) B2e))::k)) fs)
   (fun w g=>∃c l vX s βf,Fits f134.ntmps ⟨[],bsIn Wg bd bch bf br,[]⟩ c∧l.Perm (Fan.cat 3 (parT a b os Wg Ch hwc).Ls)∧Bok (βf++[(br,cr,170)]) vX∧(roV S V).Le vX∧FwOwn βf bf s∧Kept vX s l∧w=vX.union (A0c (βf++[(br,cr,170)]))∧g=G (bb.on c (.code B2e::k)) fs):=fun ac hf=>by
  refine K.phase_big fun base hb0=>⟨A0w (parT a b os Wg Ch hwc) base,Fan.start Wy,(roV S V).union (A0c ([(bf,fwC 0 none 0 0,170)]++[(br,cr,170)])),.inl (.a0 0),begins_fan (A:=parT a b os Wg Ch hwc) hb0 ?_ ?_ ?_ ?_ ?_ fun n=>?_⟩
  ·rw [hless _ ((hS1 _).2 (.inl Y))];exact hVWg
  ·rw [hless _ ((hS1 _).2 (.inr (.inl Y)))];exact hVC
  ·intro x y h
   unfold View.union at h
   cases hv:roV S V x with
   | some z=>
    rw [hv]at h
    cases h
    unfold roV at hv
    cases e:S x with
    | true=>rw [e]at hv;cases hv
    | false=>
     rw [e]at hv
     simp only [Bool.false_eq_true,if_false]at hv
     refine⟨false,by unfold lessS;rw [e];simp only [Bool.false_eq_true,if_false];rw [hv];cases hV2:V x with|none=>rw [hV2]at hv;cases hv|some q=>rw [hV2]at hv;cases hv;rfl,fun h=>?_⟩
     cases hV2:V x with
     | none=>rw [hV2]at hv;cases hv
     | some q=>rw [hV2]at hv;cases hv;cases h
   | none=>
    rw [hv]at h
    obtain⟨e1,e2⟩:=hbm x y h
    refine⟨y.1,?_,fun h=>h⟩
    rw [hless x ((hS1 x).2 (e1.elim (fun e=>.inr (.inr (.inl e))) (fun e=>.inr (.inr (.inr e)))))]
    exact e2
  ·show(roV S V).union _ Wg=none
   unfold View.union
   rw [hroS _ ((hS1 _).2 (.inl Y))]
   cases h:A0c ([(bf,fwC 0 none 0 0,170)]++[(br,cr,170)]) Wg with
   | none=>rfl
   | some y=>
    exfalso
    rcases (hbm _ _ h).1 with e|e
    ·exact hnd.1.2.1 e
    ·exact hnd.1.2.2.1 e
  ·show(roV S V).union _ Ch=none
   unfold View.union
   rw [hroS _ ((hS1 _).2 (.inr (.inl Y)))]
   cases h:A0c ([(bf,fwC 0 none 0 0,170)]++[(br,cr,170)]) Ch with
   | none=>rfl
   | some y=>
    exfalso
    rcases (hbm _ _ h).1 with e|e
    ·exact hne bf sM e.symm
    ·exact hne br sM e.symm
  ·obtain⟨p2,f2,x0,x1,hd2⟩:=hday
   refine main_x (cr:=cr) (dd:=dd) hb0 roV_ro hβm ⟨false,(0,0),aA,cA,aB,cB,roV_at hVbd hSbd,hrow hda,hrow hdb⟩ ⟨false,f2,x0,x1,hro0 _ _ hd2⟩ ⟨false,(0,0),roV_at hVch hSch⟩ hla hfa hfb hH hos (htot Wg Ch hwc) hbk hbr (fun c l vX s βf q1 q2 q3 q4 q5 q6=>⟨c,l,vX,s,βf,q1,q2,q3,q4,q5,q6,Y,Y⟩) ac hf n
 intro ac hf
 rw [←hL2]
 refine Run.phase Y Y _ ((hbig ac hf).lift hL1) ?_
 rintro v1 g1 ⟨u',rfl,hlift,c,l,vX,s,βf,q1,q2,q3,q4,q5,q6,rfl,rfl⟩
 rw [←union_assoc]
 have hfrz:∀x y,(vX.union (A0c (βf++[(br,cr,170)]))) x=some y→ownS S V x=none∨(ownS S V x=some (true,y.2)∧y.1=false):=fun x y h=>by
  cases hF:ownS S V x with
  | none=>exact .inl rfl
  | some z=>
   obtain⟨o,rfl,h2⟩:=hlift x z hF
   rcases h2 with h2|h2
   ·rw [h]at h2;cases h2
   ·rw [h]at h2;cases h2;exact .inr ⟨Y,Y⟩
 have hBok:Bok (βf++[(br,cr,170)]) ((ownS S V).union vX):=⟨q3.nodup,fun x=>by
  cases hb:A0c (βf++[(br,cr,170)]) x with
  | none=>exact .inr rfl
  | some y=>
   left
   have hx:=(q3.disj x).resolve_right (by rw [hb];simp)
   have hu':(vX.union (A0c (βf++[(br,cr,170)]))) x=some y:=by unfold View.union;rw [hx];exact hb
   have hfl:=bview_flag q3.nodup hb
   unfold View.union
   rcases hfrz x y hu' with e|⟨_,e⟩
   ·rw [e];exact hx
   ·rw [hfl]at e;cases e⟩
 have hle0:v0.Le ((ownS S V).union vX):=fun x y h=>by
  have hVx:=hVv x y (h0v x y h).2
  have hSx:=hS0 x y h
  obtain⟨p,o⟩:=y
  unfold View.union
  have hown:ownS S V x=match V x with|some (true,o)=>some (true,o)|_=>none:=by unfold ownS;rw [hSx];rfl
  rw [hown,hVx]
  cases p with
  | true=>rfl
  | false=>exact q4 _ _ (hro0 x _ h)
 have hal:Alike vX ((ownS S V).union vX):=fun x y h=>by
  unfold View.union
  rcases hfrz x y (A0g _ _ _ _ h)with e|⟨e,_⟩
  ·rw [e];exact⟨y.1,h⟩
  ·rw [e];exact⟨true,Y⟩
 exact hrest (hK l _ s βf q2 hBok hle0 q5 ⟨q6.1,Rows.alike hal q6.2⟩) hBok c ⟨q1.size,q1.defers,q1.get⟩
end
end Go.Proofs.YtclejblcnfaeaaaGreatDoor
end
section
namespace Go.Pal
open Go Go.Conc View
open Go.Sort (swp)
structure DB{E:Type}[Inhabited E](SZ:Nat)(cl:E→List Value)(ok:E→Prop)(cap:Nat)(d:Array E)(c:Array Value):Prop where
 size:c.size=cap*SZ
 le:d.size≤cap
 len:∀x:E,(cl x).length=SZ
 ok:∀{i:Nat},i<d.size→ok d[i]!
 get:∀i,i<d.size→c.extract (i*SZ) (i*SZ+SZ)=(cl d[i]!).toArray
section
variable{E:Type}[Inhabited E]{SZ:Nat}{cl:E→List Value}{okE:E→Prop}{cap:Nat}{d:Array E}{c:Array Value}
theorem DB.bound(h:DB SZ cl okE cap d c){i:Nat}(hi:i<d.size):i*SZ+SZ≤c.size:=by
 rw [h.size]
 have:(i+1)*SZ≤cap*SZ:=Nat.mul_le_mul_right _ (by have:=h.le;omega)
 rw [Nat.add_mul,Nat.one_mul]at this
 exact this
theorem DB.recd(h:DB SZ cl okE cap d c){i:Nat}(hi:i<d.size):0+i*SZ+SZ≤c.size∧c.extract (0+i*SZ) (0+i*SZ+SZ)=(cl d[i]!).toArray:=by
 rw [Nat.zero_add]
 exact⟨h.bound hi,h.get i hi⟩
theorem DB.one(h:DB SZ cl okE cap d c)(h1:SZ=1){i:Nat}(hi:i<d.size){x:Value}(hx:cl d[i]! = [x]):c[0+i*SZ]?=some x:=by
 subst h1
 have hb:=h.bound hi
 have:=h.get i hi
 rw [hx]at this
 have h2:=congrArg (fun a:Array Value=>a[0]?) this
 rw [Array.getElem?_extract]at h2
 rw [if_pos oM]at h2
 rw [Nat.zero_add]
 simpa using h2
theorem DB.off(h:DB SZ cl okE cap d c){i:Nat}(hi:i<d.size){n:Nat}(hn:n=SZ):Nat.ble (0+i*SZ+n) c.size=true:=by
 subst hn
 rw [Nat.zero_add]
 exact Nat.ble_eq_true_of_le (h.bound hi)
theorem DB.set(h:DB SZ cl okE cap d c){i:Nat}(hi:i<d.size){x:E}(hx:okE x):DB SZ cl okE cap (d.setIfInBounds i x) (A0z c (0+i*SZ) (cl x)):=by
  have hbd:=h.bound hi
  have hlen:=h.len x
  have hw:∀j,(A0z c (0+i*SZ) (cl x))[j]?=if i*SZ≤j∧j<i*SZ+SZ then(cl x)[j-i*SZ]? else c[j]?:=by
    intro j
    rw [A9b (by rw [hlen];omega),hlen,Nat.zero_add]
  refine⟨by rw [A3l,h.size],by simpa using h.le,h.len,fun {k} hk=>?_,fun k hk=>?_⟩
  · by_cases e:i=k
    · subst e
      rw [getElem!_pos (d.setIfInBounds i x) i hk,Array.getElem_setIfInBounds_self]
      exact hx
    · have hk':k<d.size:=by simpa using hk
      rw [getElem!_pos (d.setIfInBounds i x) k hk,Array.getElem_setIfInBounds_ne (by simpa using hk') e,←getElem!_pos]
      exact h.ok hk'
  · have hk':k<d.size:=by simpa using hk
    have hbk:=h.bound hk'
    apply Array.ext_getElem?
    intro q
    rw [Array.getElem?_extract]
    by_cases e:i=k
    · subst e
      rw [getElem!_pos (d.setIfInBounds i x) i hk,Array.getElem_setIfInBounds_self]
      split
      · rw [hw,if_pos oM,show i*SZ+q-i*SZ=q by omega]
        simp
      · rename_i hq
        rw [A3l]at hq
        have:(cl x).length≤q:=oM
        simp [List.getElem?_eq_none this]
    · rw [getElem!_pos (d.setIfInBounds i x) k hk,Array.getElem_setIfInBounds_ne (by simpa using hk') e,←getElem!_pos]
      have hg:=congrArg (fun a:Array Value=>a[q]?) (h.get k hk')
      simp only [Array.getElem?_extract]at hg
      rw [←hg,A3l]
      split
      · rename_i hq
        rw [hw,if_neg]
        have hlt:q<SZ:=oM
        rintro⟨h1,h2⟩
        rcases Nat.lt_or_gt_of_ne e with h3|h3
        · have:(i+1)*SZ≤k*SZ:=Nat.mul_le_mul_right _ oM
          rw [Nat.add_mul,Nat.one_mul]at this
          omega
        · have:(k+1)*SZ≤i*SZ:=Nat.mul_le_mul_right _ oM
          rw [Nat.add_mul,Nat.one_mul]at this
          omega
      · rfl
end
end Go.Pal
end
