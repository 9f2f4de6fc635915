/- Part 13. -/
import Derived.Test.YtiolobmgibdfmaaGreatPal
set_option linter.all false
section
namespace Go.Proofs.YtiolobmgibdfmaaGreat
open Go Go.Pal Go.Pal.Mu Go.Conc View
open Go.Proofs.Tryz
set_option maxHeartbeats 4000000
section
variable{A:Par}{base:Nat}{K:View→Goroutine→Prop}{j:Nat}{v:View}{cf:Frame}{cs:List Frame}
abbrev wgP(A:Par):Value:=.pointer (some ⟨A.Wg,0,none⟩)
theorem add157_x(D:Dist A)(hb0:0<base)(hj:j<A.J){n:Nat}(hq:∀v wt:Nat,v≤201→wt≤1→(v≠0∨wt=0)→B1w prog 1 (G (cf.finish (.int .u64 (wgV v wt))) cs))
  (hL:Job prog (proto A base) K n (base+j) (.inr .d3) Go.Pal.noView (G (cf.finish (.int .u64 (wgV 0 1))) cs)) :
  MRun prog (AtR prog A base K n j .d2) (G (Frame.enter prog 157 #[wgP A,.int .u64 18446744069414584320] .normal) (cf::cs)):=by
 refine A3b (ys:=[_,_]) func157 Z nB fun b hbn hbr hbf=>?_
 have hbk:b.kind≠.early:=by rw [hbn];simp
 refine gs ?_
 refine s_d2 D hb0 hj hbk hbr Z Z Z e177 Z Z (fun v wt h1 h2 h3=>?_) ?_
 ·refine gs ?_
  refine A6w hbr ?_
  refine A9e hbn (by rw [hbf];exact func157) Z Z ?_
  exact(hq v wt h1 h2 h3)
 ·haveI:=B1z (P:=prog) (A:=A) (K:=K) (base:=base) (n:=n) (j:=j) (q:=.d3) Z
  refine gs ?_
  refine A6w hbr ?_
  refine A9e hbn (by rw [hbf];exact func157) Z Z ?_
  exact hL
theorem load159_x(D:Dist A)(hb0:0<base)(hj:j<A.J){n:Nat}(hL:Job prog (proto A base) K n (base+j) (.inr .d4) Go.Pal.noView (G (cf.finish (.int .u64 (wgV 0 1))) cs)) :
  MRun prog (AtR prog A base K n j .d3) (G (Frame.enter prog 159 #[wgP A] .normal) (cf::cs)):=by
 refine A3b (ys:=[_]) func159 Z nB fun b hbn hbr hbf=>?_
 have hbk:b.kind≠.early:=by rw [hbn];simp
 refine gs ?_
 refine s_d3 D hb0 hj hbk hbr Z Z Z e178 Z ?_
 haveI:=B1z (P:=prog) (A:=A) (K:=K) (base:=base) (n:=n) (j:=j) (q:=.d4) Z
 refine gs ?_
 refine A6w hbr ?_
 refine A9e hbn (by rw [hbf];exact func159) Z Z ?_
 exact hL
theorem store160_x(D:Dist A)(hb0:0<base)(hj:j<A.J){n:Nat}(hL:Job prog (proto A base) K n (base+j) (.inr .d5) Go.Pal.noView (G (cf.finish (.tuple #[])) cs)) :
  MRun prog (AtR prog A base K n j .d4) (G (Frame.enter prog 160 #[wgP A,.int .u64 0] .normal) (cf::cs)):=by
 refine A3b (ys:=[_,_]) func160 Z nB fun b hbn hbr hbf=>?_
 have hbk:b.kind≠.early:=by rw [hbn];simp
 refine gs ?_
 refine s_d4 D hb0 hj hbk hbr Z Z Z e179 Z Z ?_
 haveI:=B1z (P:=prog) (A:=A) (K:=K) (base:=base) (n:=n) (j:=j) (q:=.d5) Z
 refine gs ?_
 exact B4f hbr (A7h hbn (by rw [hbf];exact func160) Z hL)
theorem addneg_x(D:Dist A)(hb0:0<base)(hj:j<A.J){n:Nat}(hq:B1w prog 0 (G (cf.finish (.tuple #[])) cs)) :
  RunW prog false (proto A base).Wd (AtW prog A base K n j .d0) v (G (Frame.enter prog 130 #[wgP A,.int .i64 (-1)] .normal) (cf::cs)):=by
 refine A3b (ys:=[_,_]) func130 Z nB fun b hbn hbr hbf=>?_
 have hbk:b.kind≠.early:=by rw [hbn];simp
 refine gb ?_
 refine gs ?_
 refine B1t D hbk hbr Z Z Z (tab.und_ok _ _ Z) (tab.und_ok _ _ Z) (A7v Z) Z (.inr Z) oM ?_
 refine s_d0 D hb0 hj hbk hbr Z Z Z e150 Z (jr_run Z fun m1 hm1=>?_)
 refine gs ?_
 refine s_d1 D hb0 hj hbk hbr Z Z Z e151 (jr_run Z fun m2 hm2=>?_)
 refine gs ?_
 refine F_defer (xs:=[]) hbk hbr Z Z Z ?_
 refine gs ?_
 refine F_ext hbk hbr Z Z Z e153 (x:=.bool false) (fun _=>Pu.pure _) ?_
 refine gb ?_
 refine bi ?_
 refine A5b (ys:=[wgP A,.int .u64 18446744069414584320]) hbk hbr Z Z Z Z Z func157 Z dM Z fun cf1 _ hcf1=>add157_x D hb0 hj (fun v wt h1 h2 h3=>hcf1 _ _ ?_) (hcf1 _ _ ?_)
 ·have hv6:v<256:=oM
  refine gb ?_
  refine fP R4 (vB (g_bub hv6 h2) Z) ?_
  refine gb ?_
  refine fP R4 (vI (g_v hv6 h2) Z) ?_
  refine gb ?_
  refine fP R4 (vI (g_w hv6 h2) Z) ?_
  refine gb ?_
  refine gs ?_
  cases v with
  | zero=>
   obtain rfl:wt=0:=oM
   refine bi ?_
   refine gb ?_
   refine gb ?_
   refine gb ?_
   refine gs ?_
   exact A6w hbr (B2m hbr e152 (A7h hbn (by rw [hbf];exact func130) Z hq))
  | succ v=>
   have hlt:decide (((v+1:Nat):Int)<0)=false:=by simp;omega
   have hgt:decide (((v+1:Nat):Int) > 0)=true:=by simp
   refine fP R4 (vB hlt Z) ?_
   refine gs ?_
   cases wt with
   | zero=>
    refine bi ?_
    refine gs ?_
    refine fP R4 (vB hgt Z) ?_
    refine gs ?_
    exact A6w hbr (B2m hbr e152 (A7h hbn (by rw [hbf];exact func130) Z hq))
   | succ wt=>
    obtain rfl:wt=0:=oM
    refine bi ?_
    refine gb ?_
    refine gs ?_
    refine fP R4 (vB hgt Z) ?_
    refine gs ?_
    exact A6w hbr (B2m hbr e152 (A7h hbn (by rw [hbf];exact func130) Z hq))
 ·haveI:=B1z (P:=prog) (A:=A) (K:=K) (base:=base) (n:=m2) (j:=j) (q:=.d3) Z
  refine gb ?_
  refine fP R4 (vB (g_bub (v:=0) (wt:=1) oM oM) Z) ?_
  refine gb ?_
  refine fP R4 (vI (g_v (v:=0) (wt:=1) oM oM) Z) ?_
  refine gb ?_
  refine fP R4 (vI (g_w (v:=0) (wt:=1) oM oM) Z) ?_
  refine gb ?_
  refine gb ?_
  refine gb ?_
  refine gb ?_
  refine gb ?_
  refine gb ?_
  refine gs ?_
  refine jr_run Z fun m3 hm3=>?_
  refine A5b (ys:=[wgP A]) hbk hbr Z Z Z Z Z func159 Z dM Z fun cf2 _ hcf2=>load159_x D hb0 hj (hcf2 _ _ (jr_run Z fun m4 hm4=>?_))
  refine gb ?_
  refine gs ?_
  refine A5b (ys:=[wgP A,.int .u64 0]) hbk hbr Z Z Z Z Z func160 Z dM Z fun cf3 _ hcf3=>store160_x D hb0 hj (hcf3 _ _ (jr_run Z fun m5 hm5=>?_))
  refine gs ?_
  refine F_loop ?_
  refine gb ?_
  refine gs ?_
  refine s_d5 (o1:=.tmp 115) D hb0 hj hbk hbr Z Z Z Z e162 Z ?_
  refine gb ?_
  refine gs ?_
  refine B2k ?_
  refine gb ?_
  refine gs ?_
  exact B4f hbr (B2m hbr e152 (A7h hbn (by rw [hbf];exact func130) Z hq))
theorem done_x(D:Dist A)(hb0:0<base)(hj:j<A.J){n:Nat}(hc:cf.mode = .returning)(hq:B1w prog 0 (G cf cs)) :
  RunW prog false (proto A base).Wd (AtW prog A base K n j .d0) v (G (Frame.enter prog 132 #[wgP A] .deferred) (cf::cs)):=by
 refine A3b (ys:=[_]) func132 Z nB fun b hbn hbr hbf=>?_
 have hbk:b.kind≠.early:=by rw [hbn];simp
 refine gs ?_
 refine A5b (ys:=[wgP A,.int .i64 (-1)]) hbk hbr Z Z Z Z Z func130 Z dM Z fun cf1 _ hcf1=>addneg_x D hb0 hj (hcf1 _ _ ?_)
 refine gs ?_
 exact B4f hbr (B_retD hbn (by rw [hbf];exact func132) Z hc hq)
end
end Go.Proofs.YtiolobmgibdfmaaGreat
end
section
namespace Go.Pal.Mu
open Go Go.Conc Go.Pal View
open Go.ConcN (sumTo upd sumTo_upd upd_ne upd_same sumTo_congr le_sumTo)
section
variable{P:Program}{A:Par}{base:Nat}{K:View→Goroutine→Prop}{n:Nat}{N:Nat}{b:Frame}{cs:List Frame}{ds:List Deferred}{ρ:Regs}{v:View}{k:List Item}{ops:Array Oper}{i:Nat}{rest:List Nat}{d:Nat}{op:Op}{ty:TypeId}{pos:String}{af:Array Edge}{gu:Option (Nat×Bool)}
variable{f:FuncId}{fn:Func}{aS:Array Operand}{ats:Array TypeId}{o1 o2 o3:Operand}{γ:WS}
abbrev AtM(P:Program)(A:Par)(base:Nat)(K:View→Goroutine→Prop)(n:Nat)(q:Mn):View→Goroutine→Prop:=AtF P (proto A base) K (Job P (proto A base) K n) 0 (.inl q)
abbrev JM(P:Program)(A:Par)(base:Nat)(K:View→Goroutine→Prop)(n:Nat)(q:Mn)(N:Nat)(b:Frame)(its:List Item)(cs:List Frame)(ds:List Deferred)(ρ:Regs)(v:View):Prop:=
 XG (Job P (proto A base) K n 0 (.inl q) v) N b its cs ds ρ
abbrev XFm(P:Program)(A:Par)(base:Nat)(K:View→Goroutine→Prop)(n:Nat)(q:Mn)(N:Nat)(b:Frame)(its:List Item)(cs:List Frame)(ds:List Deferred)(ρ:Regs)(v:View):Prop:=
 XF P true (proto A base).Wd (AtM P A base K n q) N b its cs ds ρ v
theorem A3o{q:Mn}:Sil P true (Job P (proto A base) K n 0 (.inl q) v):=⟨fun {g g'} hs h r=>by
 cases n with
 | zero=>trivial
 | succ m=>
  rcases r with ⟨h1,h2⟩|⟨h1,_⟩
  ·exact .inl ⟨h1,(Sil.step (R:=RunW P true (proto A base).Wd (AtM P A base K m q) v) hs h h2)⟩
  ·cases h1⟩
theorem jobM_run{q:Mn}{g:Goroutine}(h:∀m,n=m+1→RunW P true (proto A base).Wd (AtM P A base K m q) v g):Job P (proto A base) K n 0 (.inl q) v g:=by
 cases n with
 | zero=>trivial
 | succ m=>exact .inl ⟨rfl,h m rfl⟩
theorem A5h{q:Mn}{its:List Item}(h:∀m,n=m+1→XFm P A base K m q N b its cs ds ρ v):JM P A base K n q N b its cs ds ρ v:=fun a hf=>jobM_run fun m hm=>h m hm a hf
theorem ev_bk{B:Nat}{w:World}{es:Array Event}(hlt:A.Wg<w.heap.size)(h:∀e∈es,BkE A.Wg e):∀e∈es,EvS (proto A base) 0 w.heap.size e:=fun e he=>evS_bk (.inr (.inl Z)) hlt (h e he)
theorem s_mn(D:Dist A)(hb0:0<base){q:Mn}(hq:q≠.w3)(hn:Nat.blt d N=true)
  (h:∀γ w c,Ok A.J A.N A.keep γ→γ.mn=q→w.heap[A.Wg]?=some (wgB A.tW γ.v γ.wt γ.sm)→Fits N ⟨ds,ρ,[]⟩ c→∃y q' γ' w' es,stepG P true (G (b.on c (.inRegion ops (i::rest)::k)) cs) w = .go (G (b.on (c.put (some d) y) (.inRegion ops rest::k)) cs) w' es∧
   Tr A.J A.N A.keep base γ 0 γ'∧γ'.st=γ.st∧γ'.mn=q'∧γ'.ph=γ.ph∧γ'.L=γ.L∧γ'.x=γ.x∧γ'.m=γ.m∧γ'.c=γ.c∧OnB A.Wg (wgB A.tW γ'.v γ'.wt γ'.sm) w w'∧(∀e∈es,EvS (proto A base) 0 w.heap.size e)∧deafBehind (dfM q) es=dfM q'∧
   (q' = .fin→es=#[mkE (.acquire ⟨A.Wg,0,none⟩)]∧dfM q=0)∧JM P A base K n q' N b (.inRegion ops rest::k) cs ds ((d,y)::ρ) v) :
  XFm P A base K n q N b (.inRegion ops (i::rest)::k) cs ds ρ v:=fun c hf=>by
 refine .stop (Le.refl v) (at_mn D hb0 Z Z fun γ w O hm hS=>⟨fun⟨e,_⟩=>absurd e hq,fun _=>?_⟩)
 have hwg:w.heap[A.Wg]?=some (wgB A.tW γ.v γ.wt γ.sm):=hS A.Wg true _ (B1f D)
 obtain⟨y,q',γ',w',es,h1,h2,h3,h4,h5,h6,h7,h8,h9,h10,h11,h12,h13,h14⟩:=h γ w c O hm hwg hf
 exact⟨q',γ',A.Wg,_,_,w',es,h1,h2,h3,h4,.inr (.inl Z),h10,B1f D,A7n D (by rw [h5]) h6 (.inr (.inl ⟨Z,h7,h8,h9⟩)),h11,h12,h13,h14 _ (A1h hf (show A3j N (some d)=true from hn))⟩
theorem s_mark0(mk:Mark)(hmk:mk = .disable∨mk = .enable)(D:Dist A)(hb0:0<base){q q':Mn}(hq:q≠.w3)(hq':q'≠.fin)(hk:b.kind≠.early)(hr:b.roundOf=none)(ho:ops[i]?=some ⟨some d,.call {callee:=.value (.func f),args:=aS,argTypes:=ats },ty,pos,af,gu⟩)
  (hw:A0x ops gu ρ=some true)(hn:Nat.blt d N=true)(E:Ext P f fn (fun _=>do mark mk;pure Extern.Race.none_))(htr:∀γ:WS,γ.mn=q→Tr A.J A.N A.keep base γ 0 {γ with mn:=q' })(hdf:deafBehind (dfM q) #[mkE mk]=dfM q')
  (h:JM P A base K n q' N b (.inRegion ops rest::k) cs ds ((d,.tuple #[])::ρ) v):XFm P A base K n q N b (.inRegion ops (i::rest)::k) cs ds ρ v:=
 s_mn D hb0 hq hn fun γ w c O hm hwg hf=>⟨.tuple #[],q',{γ with mn:=q' },w,#[mkE mk],by
  rw [A1i hr,A1i hr]
  exact stepG_mark0 mk (by rcases hmk with rfl|rfl<;>intro g e<;>cases e) ho (A0q hf (A0p hw)) hk rfl E.hf E.hname E.hb E.hn E.he,htr γ hm,rfl,rfl,rfl,rfl,rfl,rfl,rfl,.same hwg,by
  intro e he
  simp only [List.mem_toArray,List.mem_singleton]at he
  subst he
  rcases hmk with rfl|rfl<;>trivial,hdf,fun e=>absurd e hq',h⟩
theorem B2a(mk:Addr→Mark)(hmk:mk = .read∨mk = .write∨mk = .acquire){off:Nat}(D:Dist A)(hb0:0<base){q q':Mn}(hq:q≠.w3)(hq':q' = .fin→mk = .acquire∧off=0∧dfM q=0)(hk:b.kind≠.early)(hr:b.roundOf=none)
  (ho:ops[i]?=some ⟨some d,.call {callee:=.value (.func f),args:=#[o1],argTypes:=ats },ty,pos,af,gu⟩)
  (hw:A0x ops gu ρ=some true)(hn:Nat.blt d N=true)(E:Ext P f fn (Extern.Race.marked mk))(h1:ρ.val o1=some (.pointer (some ⟨A.Wg,off,none⟩)))(htr:∀γ:WS,γ.mn=q→Tr A.J A.N A.keep base γ 0 {γ with mn:=q' })(hdf:dfM q=dfM q')
  (h:JM P A base K n q' N b (.inRegion ops rest::k) cs ds ((d,.tuple #[])::ρ) v):XFm P A base K n q N b (.inRegion ops (i::rest)::k) cs ds ρ v:=
 s_mn D hb0 hq hn fun γ w c O hm hwg hf=>by
  have ea:((#[o1]:Array Operand).map c.eval)[0]?=some (.pointer (some ⟨A.Wg,off,none⟩)):=by simp [A0o hf _ _ h1]
  refine⟨.tuple #[],q',{γ with mn:=q' },w,#[mkE (mk ⟨A.Wg,off,none⟩)],?_,htr γ hm,rfl,rfl,rfl,rfl,rfl,rfl,rfl,.same hwg,?_,?_,?_,h⟩
  ·rw [A1i hr,A1i hr]
   exact stepG_markAt mk (by rcases hmk with rfl|rfl|rfl<;>intro ad g e<;>cases e) ho (A0q hf (A0p hw)) hk rfl E.hf E.hname E.hb E.hn E.he ea
  ·intro e he
   simp only [List.mem_toArray,List.mem_singleton]at he
   subst he
   rcases hmk with rfl|rfl|rfl
   ·exact⟨Z,.inr (.inl Z),A8z hwg⟩
   ·exact⟨Z,.inr (.inl Z),A8z hwg⟩
   ·exact A8z hwg
  ·rw [←hdf]
   rcases hmk with rfl|rfl|rfl<;>simp [deafBehind]
  ·intro e
   obtain⟨rfl,rfl,e3⟩:=hq' e
   exact⟨Z,e3⟩
theorem s_a1{kk:Nat}(D:Dist A)(hb0:0<base)(hk:b.kind≠.early)(hr:b.roundOf=none)(ho:ops[i]?=some ⟨some d,.call {callee:=.value (.func f),args:=#[o1,o2],argTypes:=ats },ty,pos,af,gu⟩)
  (hw:A0x ops gu ρ=some true)(hn:Nat.blt d N=true)(E:Ext P f fn (Extern.Atomic.update (Op.intArith .add) .u64 true))(h1:ρ.val o1=some (.pointer (some ⟨A.Wg,0,none⟩)))(h2:ρ.val o2=some (.int .u64 4294967296))
  (h:∀v':Nat,v'≤201→JM P A base K n (if v'=0 then .ar kk else .a2 kk) N b (.inRegion ops rest::k) cs ds ((d,.int .u64 (wgV (v'+1) 0))::ρ) v) :
  XFm P A base K n (.a1 kk) N b (.inRegion ops (i::rest)::k) cs ds ρ v:=
 s_mn D hb0 sM hn fun γ w c O hm hwg hf=>by
  have hwt:=(O.wn (by rw [hm];rfl)).1
  have hvl:=v_le O
  have hst:=stepG_add_atomic (P:=P) (main:=true) (b:=b) (cs:=cs) (kk:=k) (rest:=rest) (w:=w) ho (A0q hf (A0p hw)) hk Z E.hf E.hname E.hb E.hn .u64 E.he (A0o hf _ _ h1) (A0o hf _ _ h2) (v:=wgV γ.v γ.wt) (by rw [A3n hwg];rfl) (A5d hwg)
  have hwr:IntKind.u64.wrap (wgV γ.v γ.wt+4294967296)=wgV (γ.v+1) γ.wt:=by rw [wrap_u64];simp only [wgV];omega
  rw [hwr]at hst
  refine⟨_,(if γ.v=0 then .ar kk else .a2 kk),{γ with mn:=if γ.v=0 then .ar kk else .a2 kk,v:=γ.v+1 },_,_,by rw [A1i hr,A1i hr];exact hst,.a1 hm,Z,Z,Z,Z,Z,Z,Z,onWg0 hwg,ev_bk (B:=A.Wg) (A8z hwg) bk_rw,by rw [A8a];split<;>rfl,fun e=>absurd e (by split<;>simp),?_⟩
  rw [hwt];exact h γ.v hvl
theorem s_w1(D:Dist A)(hb0:0<base)(hk:b.kind≠.early)(hr:b.roundOf=none)(ho:ops[i]?=some ⟨some d,.call {callee:=.value (.func f),args:=#[o1],argTypes:=ats },ty,pos,af,gu⟩)
  (hw:A0x ops gu ρ=some true)(hn:Nat.blt d N=true)(E:Ext P f fn (Extern.Atomic.loadT (.int .u64)))(h1:ρ.val o1=some (.pointer (some ⟨A.Wg,0,none⟩)))
  (h:∀v':Nat,v'≤201→JM P A base K n (if v'=0 then .w5 else .wc v') N b (.inRegion ops rest::k) cs ds ((d,.int .u64 (wgV v' 0))::ρ) v) :
  XFm P A base K n .w1 N b (.inRegion ops (i::rest)::k) cs ds ρ v:=
 s_mn D hb0 sM hn fun γ w c O hm hwg hf=>by
  have hwt:=(O.wn (by rw [hm];rfl)).1
  have hvl:=v_le O
  have hst:=stepG_load_atomic (P:=P) (main:=true) (b:=b) (cs:=cs) (kk:=k) (rest:=rest) (w:=w) ho (A0q hf (A0p hw)) hk Z E.hf E.hname E.hb E.hn .u64 E.he (A0o hf _ _ h1) (v:=wgV γ.v γ.wt) (by rw [A3n hwg];rfl)
  have hj:=h γ.v hvl
  rw [hwt]at hst
  by_cases hv:γ.v=0
  ·rw [if_pos hv]at hj
   exact⟨_,.w5,{γ with mn:=.w5 },_,_,by rw [A1i hr,A1i hr];exact hst,.w1Z hm hv,Z,Z,Z,Z,Z,Z,Z,.same hwg,ev_bk (B:=A.Wg) (A8z hwg) bk_r,by rw [B3s];rfl,fun e=>(by cases e),hj⟩
  ·rw [if_neg hv]at hj
   exact⟨_,.wc γ.v,{γ with mn:=.wc γ.v },_,_,by rw [A1i hr,A1i hr];exact hst,.w1 hm hv,Z,Z,Z,Z,Z,Z,Z,.same hwg,ev_bk (B:=A.Wg) (A8z hwg) bk_r,by rw [B3s];rfl,fun e=>(by cases e),hj⟩
theorem s_wc{o:Nat}{u w0:Int}(D:Dist A)(hb0:0<base)(hk:b.kind≠.early)(hr:b.roundOf=none)(ho:ops[i]?=some ⟨some d,.call {callee:=.value (.func f),args:=#[o1,o2,o3],argTypes:=ats },ty,pos,af,gu⟩)
  (hw:A0x ops gu ρ=some true)(hn:Nat.blt d N=true)(E:Ext P f fn (Extern.Atomic.casT (.int .u64)))(h1:ρ.val o1=some (.pointer (some ⟨A.Wg,0,none⟩)))(h2:ρ.val o2=some (.int .u64 u))(h3:ρ.val o3=some (.int .u64 w0))(hu:u=wgV o 0)(hw0:w0=wgV o 1)
  (hY:JM P A base K n .ww N b (.inRegion ops rest::k) cs ds ((d,.bool true)::ρ) v)(hN:JM P A base K n .w1 N b (.inRegion ops rest::k) cs ds ((d,.bool false)::ρ) v) :
  XFm P A base K n (.wc o) N b (.inRegion ops (i::rest)::k) cs ds ρ v:=
 s_mn D hb0 sM hn fun γ w c O hm hwg hf=>by
  subst hu hw0
  have hwt:=(O.wn (by rw [hm];rfl)).1
  have hc:w.cell? ⟨A.Wg,0,none⟩=some (.int .u64 (wgV γ.v 0)):=by rw [A3n hwg,hwt];rfl
  by_cases hv:γ.v=o
  ·subst hv
   exact⟨_,.ww,{γ with mn:=.ww,wt:=1 },_,_,by rw [A1i hr,A1i hr];exact stepG_cas_hit ho (A0q hf (A0p hw)) hk Z E.hf E.hname E.hb E.hn .u64 E.he (A0o hf _ _ h1) (A0o hf _ _ h2) (A0o hf _ _ h3) hc (A5d hwg),.wcY hm,Z,Z,Z,Z,Z,Z,Z,onWg0 hwg,ev_bk (B:=A.Wg) (A8z hwg) bk_rw,by rw [A8a];rfl,fun e=>(by cases e),hY⟩
  ·exact⟨_,.w1,{γ with mn:=.w1 },_,_,by rw [A1i hr,A1i hr];exact stepG_cas_miss ho (A0q hf (A0p hw)) hk Z E.hf E.hname E.hb E.hn .u64 E.he (A0o hf _ _ h1) (A0o hf _ _ h2) (A0o hf _ _ h3) hc (A5d hwg) (fun e=>hv (wgV_inj e)),.wcN hm hv,Z,Z,Z,Z,Z,Z,Z,.same hwg,ev_bk (B:=A.Wg) (A8z hwg) bk_r,by rw [B3s];rfl,fun e=>(by cases e),hN⟩
theorem s_w4(D:Dist A)(hb0:0<base)(hk:b.kind≠.early)(hr:b.roundOf=none)(ho:ops[i]?=some ⟨some d,.call {callee:=.value (.func f),args:=#[o1],argTypes:=ats },ty,pos,af,gu⟩)
  (hw:A0x ops gu ρ=some true)(hn:Nat.blt d N=true)(E:Ext P f fn (Extern.Atomic.loadT (.int .u64)))(h1:ρ.val o1=some (.pointer (some ⟨A.Wg,0,none⟩)))
  (h:JM P A base K n .w5 N b (.inRegion ops rest::k) cs ds ((d,.int .u64 (wgV 0 0))::ρ) v) :
  XFm P A base K n .w4 N b (.inRegion ops (i::rest)::k) cs ds ρ v:=
 s_mn D hb0 sM hn fun γ w c O hm hwg hf=>by
  have hwt:=(O.wn (by rw [hm];rfl)).1
  have hv:=O.post (by rw [hm];rfl)
  have hst:=stepG_load_atomic (P:=P) (main:=true) (b:=b) (cs:=cs) (kk:=k) (rest:=rest) (w:=w) ho (A0q hf (A0p hw)) hk Z E.hf E.hname E.hb E.hn .u64 E.he (A0o hf _ _ h1) (v:=wgV γ.v γ.wt) (by rw [A3n hwg];rfl)
  rw [hwt,hv]at hst
  exact⟨_,.w5,{γ with mn:=.w5 },_,_,by rw [A1i hr,A1i hr];exact hst,.w4 hm,Z,Z,Z,Z,Z,Z,Z,.same hwg,ev_bk (B:=A.Wg) (A8z hwg) bk_r,by rw [B3s];rfl,fun e=>(by cases e),h⟩
theorem s_w3{as':List Operand}(D:Dist A)(hb0:0<base)(hk:b.kind≠.early)(hr:b.roundOf=none)(ho:ops[i]?=some ⟨some d,.call {callee:=.value (.func f),args:=aS,argTypes:=ats },ty,pos,af,gu⟩)(has:aS.toList=o1::as')
  (hw:A0x ops gu ρ=some true)(hn:Nat.blt d N=true)(E:Ext P f fn Extern.Sync.semacquire)(h1:ρ.val o1=some (.pointer (some ⟨A.Wg,1,none⟩)))
  (h:JM P A base K n .w4 N b (.inRegion ops rest::k) cs ds ((d,.tuple #[])::ρ) v) :
  XFm P A base K n .w3 N b (.inRegion ops (i::rest)::k) cs ds ρ v:=fun c hf=>by
 have ea:(aS.map c.eval)[0]?=some (.pointer (some ⟨A.Wg,1,none⟩)):=by
  have:aS=(o1::as').toArray:=by rw [←has]
  subst this
  have:=A0o hf _ _ h1
  simp [this]
 refine .stop (Le.refl v) (at_mn D hb0 Z Z fun γ w O hm hS=>?_)
 have hwg:w.heap[A.Wg]?=some (wgB A.tW γ.v γ.wt γ.sm):=hS A.Wg true _ (B1f D)
 have hc:w.cell? ⟨A.Wg,1,none⟩=some (.int .u32 γ.sm):=by rw [A3n hwg];rfl
 refine⟨fun⟨_,e⟩=>?_,fun hne=>?_⟩
 ·rw [e]at hc
  rw [A1i hr]
  exact stepG_semacquire_wait ho (A0q hf (A0p hw)) Z E.hf E.hname E.hb E.hn E.he ea hc
 ·obtain⟨s,hs⟩:∃s,γ.sm=s+1:=⟨γ.sm-1,by
   have:γ.sm≠0:=fun e=>hne ⟨Z,e⟩
   omega⟩
  rw [hs]at hc hwg
  have hst:=stepG_semacquire (P:=P) (main:=true) (b:=b) (cs:=cs) (kk:=k) (rest:=rest) ho (A0q hf (A0p hw)) hk Z E.hf E.hname E.hb E.hn E.he ea hc oM (A5d hwg)
  rw [show((s+1:Nat):Int)-1=(s:Int) by omega]at hst
  refine⟨.w4,{γ with mn:=.w4,sm:=s },A.Wg,_,_,_,_,by rw [A1i hr];exact hst,.w3 hm hs,Z,Z,.inr (.inl Z),onWg1 hwg,B1f D,A7n D Iff.rfl Z (.inr (.inl ⟨Z,Z,Z,Z⟩)),?_,by rw [B2d];rfl,fun e=>(by cases e),?_⟩
  ·exact ev_bk (B:=A.Wg) ((Array.getElem?_eq_some_iff.1 hwg).1) bk_sem
  ·rw [←A1i hr];exact h _ (A1h hf (show A3j N (some d)=true from hn))
theorem s_a2{kk:Nat}{its:List Item}{args:Array Value}(D:Dist A)(hb0:0<base)(hr:b.roundOf=none)(E:Ext P f fn (fun _=>do mark .enable;pure Extern.Race.none_))
  (h:XB (Job P (proto A base) K n 0 (.inl (.go kk)) v) N b its cs ds ρ):XB (RunW P true (proto A base).Wd (AtM P A base K n (.a2 kk)) v) N b its cs (dcall f args::ds) ρ:=fun c hf=>by
 refine .stop (Le.refl v) (at_mn D hb0 Z Z fun γ w O hm hS=>⟨fun⟨e,_⟩=>(by cases e),fun _=>?_⟩)
 have hwg:w.heap[A.Wg]?=some (wgB A.tW γ.v γ.wt γ.sm):=hS A.Wg true _ (B1f D)
 refine⟨.go kk,{γ with mn:=.go kk },A.Wg,_,G (b.out ⟨c.tmps,ds⟩ its) cs,w,#[mkE .enable],?_,.a2 hm,rfl,rfl,.inr (.inl rfl),.same hwg,B1f D,A7n D Iff.rfl rfl (.inr (.inl ⟨rfl,rfl,rfl,rfl⟩)),?_,by rw [deaf_en];rfl,fun e=>(by cases e),h _ ⟨hf.size,rfl,hf.get⟩⟩
 ·have:=stepG_unwind_entry (P:=P) (main:=true) (b:=b) (a:=c) (cs:=cs) (w:=w) (todo:=its) (ds:=ds) (args:=args) hf.defers E.hf E.hname E.hb E.hn E.he (v:=.tuple #[]) (w':=w) (evs:=#[mkE .enable]) Z Z (by
   intro e he;simp at he;subst he;exact⟨rfl,fun g h=>by cases h⟩)
  simp only [Frame.out,A1i hr]
  exact this
 ·intro e he
  simp only [List.mem_toArray,List.mem_singleton]at he
  subst he
  trivial
theorem loop_gom{q:Mn}{body:Code}{k:List Item}{ρ:Regs}(n0:Nat)
  (h:∀m,m<n0→(∀m',m'≤m→JM P A base K m' q N b (.inLoop body::k) cs ds ρ v)→XFm P A base K m q N b (.code body::.inLoop body::k) cs ds ρ v):JM P A base K n0 q N b (.code (.loop body)::k) cs ds ρ v:=by
 have key:∀n,n≤n0→JM P A base K n q N b (.inLoop body::k) cs ds ρ v:=by
  intro n
  induction n using Nat.strongRecOn with
  | _ n ih=>
   intro hn
   refine A5h fun m hm=>B2k ?_
   exact h m oM fun m' hm'=>ih m' oM oM
 exact A5h fun m hm=>F_loop (h m oM fun m' hm'=>key m' oM)
end
end Go.Pal.Mu
end
section
namespace Go.Proofs.YtiolobmgibdfmaaGreat
open Go Go.Pal Go.Pal.Mu Go.Conc View
open Go.Proofs.Tryz
set_option maxHeartbeats 4000000
section
variable{A:Par}{base:Nat}{K:View→Goroutine→Prop}{v:View}{cf:Frame}{cs:List Frame}{kk:Nat}
theorem add157m_x(D:Dist A)(hb0:0<base){n:Nat}(h:∀v':Nat,v'≤201→Job prog (proto A base) K n 0 (.inl (if v'=0 then .ar kk else .a2 kk)) v (G (cf.finish (.int .u64 (wgV (v'+1) 0))) cs)) :
  RunW prog true (proto A base).Wd (AtM prog A base K n (.a1 kk)) v (G (Frame.enter prog 157 #[wgP A,.int .u64 4294967296] .normal) (cf::cs)):=by
 refine A3b (ys:=[_,_]) func157 Z nB fun b hbn hbr hbf=>?_
 have hbk:b.kind≠.early:=by rw [hbn];simp
 refine gs ?_
 refine s_a1 D hb0 hbk hbr Z Z Z e177 Z Z (fun v' hv'=>?_)
 haveI:=A3o (P:=prog) (A:=A) (K:=K) (base:=base) (n:=n) (v:=v) (q:=if v'=0 then .ar kk else .a2 kk)
 refine gs ?_
 refine A6w hbr ?_
 refine A9e hbn (by rw [hbf];exact func157) Z Z ?_
 exact h v' hv'
theorem addpos_x(D:Dist A)(hb0:0<base){n:Nat}(hend:∀m,m≤n→Job prog (proto A base) K m 0 (.inl (.go kk)) v (G (cf.finish (.tuple #[])) cs)) :
  RunW prog true (proto A base).Wd (AtM prog A base K n (.a0 kk)) v (G (Frame.enter prog 130 #[wgP A,.int .i64 1] .normal) (cf::cs)):=by
 refine A3b (ys:=[_,_]) func130 Z nB fun b hbn hbr hbf=>?_
 have hbk:b.kind≠.early:=by rw [hbn];simp
 refine gb ?_
 refine gs ?_
 refine s_mark0 .disable (.inl Z) D hb0 (q':=.a1 kk) sM sM hbk hbr Z Z Z e151 (fun γ h=>.a0 h) B0q (A5h fun m1 hm1=>?_)
 refine gs ?_
 refine F_defer (xs:=[]) hbk hbr Z Z Z ?_
 refine gs ?_
 refine F_ext hbk hbr Z Z Z e153 (x:=.bool false) (fun _=>Pu.pure _) ?_
 refine gb ?_
 refine bi ?_
 refine A5b (ys:=[wgP A,.int .u64 4294967296]) hbk hbr Z Z Z Z Z func157 Z dM Z fun cf1 _ hcf1=>add157m_x D hb0 fun v' hv'=>hcf1 _ _ (A5h fun m2 hm2=>?_)
 have hv6:v'+1<256:=oM
 refine gb ?_
 refine fP R4 (vB (g_bub hv6 (Nat.zero_le 1)) Z) ?_
 refine gb ?_
 refine fP R4 (vI (g_v hv6 (Nat.zero_le 1)) Z) ?_
 refine gb ?_
 refine fP R4 (vI (g_w hv6 (Nat.zero_le 1)) Z) ?_
 refine gb ?_
 refine gb ?_
 have hlt:decide (((v'+1:Nat):Int)<0)=false:=by simp;omega
 have hgt:decide (((v'+1:Nat):Int) > 0)=true:=by simp
 cases v' with
 | zero=>
  refine bi ?_
  refine gs ?_
  refine B1t D hbk hbr Z Z Z (tab.und_ok _ _ Z) (tab.und_ok _ _ Z) (A7v Z) Z (.inr Z) (Nat.le_refl 2) ?_
  refine B2a .read (.inl Z) D hb0 (q:=.ar kk) (q':=.a2 kk) sM sM hbk hbr Z Z Z e158 Z (fun γ h=>.ar h) Z (A5h fun m3 hm3=>?_)
  refine gs ?_
  refine fP R4 (vB hlt Z) ?_
  refine gb ?_
  refine gs ?_
  refine fP R4 (vB hgt Z) ?_
  refine gs ?_
  refine A6w hbr (s_a2 D hb0 hbr e152 ?_)
  haveI:=A3o (P:=prog) (A:=A) (K:=K) (base:=base) (n:=m3) (v:=v) (q:=.go kk)
  exact A7h hbn (by rw [hbf];exact func130) Z (hend _ oM)
 | succ v'=>
  have hne:(((v'+1+1:Nat):Int)==IntKind.i32.wrap 1)=false:=by
   have:IntKind.i32.wrap 1=1:=rfl
   rw [this];simp;omega
  refine fP R4 (vB hne Z) ?_
  refine gs ?_
  refine fP R4 (vB hlt Z) ?_
  refine gb ?_
  refine gs ?_
  refine fP R4 (vB hgt Z) ?_
  refine gs ?_
  refine A6w hbr (s_a2 D hb0 hbr e152 ?_)
  haveI:=A3o (P:=prog) (A:=A) (K:=K) (base:=base) (n:=m2) (v:=v) (q:=.go kk)
  exact A7h hbn (by rw [hbf];exact func130) Z (hend _ oM)
theorem load159m1_x(D:Dist A)(hb0:0<base){n:Nat}(h:∀v':Nat,v'≤201→Job prog (proto A base) K n 0 (.inl (if v'=0 then .w5 else .wc v')) v (G (cf.finish (.int .u64 (wgV v' 0))) cs)) :
  RunW prog true (proto A base).Wd (AtM prog A base K n .w1) v (G (Frame.enter prog 159 #[wgP A] .normal) (cf::cs)):=by
 refine A3b (ys:=[_]) func159 Z nB fun b hbn hbr hbf=>?_
 have hbk:b.kind≠.early:=by rw [hbn];simp
 refine gs ?_
 refine s_w1 D hb0 hbk hbr Z Z Z e178 Z (fun v' hv'=>?_)
 haveI:=A3o (P:=prog) (A:=A) (K:=K) (base:=base) (n:=n) (v:=v) (q:=if v'=0 then .w5 else .wc v')
 refine gs ?_
 refine A6w hbr ?_
 refine A9e hbn (by rw [hbf];exact func159) Z Z ?_
 exact h v' hv'
theorem load159m4_x(D:Dist A)(hb0:0<base){n:Nat}(h:Job prog (proto A base) K n 0 (.inl .w5) v (G (cf.finish (.int .u64 (wgV 0 0))) cs)) :
  RunW prog true (proto A base).Wd (AtM prog A base K n .w4) v (G (Frame.enter prog 159 #[wgP A] .normal) (cf::cs)):=by
 refine A3b (ys:=[_]) func159 Z nB fun b hbn hbr hbf=>?_
 have hbk:b.kind≠.early:=by rw [hbn];simp
 refine gs ?_
 refine s_w4 D hb0 hbk hbr Z Z Z e178 Z ?_
 haveI:=A3o (P:=prog) (A:=A) (K:=K) (base:=base) (n:=n) (v:=v) (q:=.w5)
 refine gs ?_
 refine A6w hbr ?_
 refine A9e hbn (by rw [hbf];exact func159) Z Z ?_
 exact h
theorem cas168_x(D:Dist A)(hb0:0<base){n o:Nat}(hY:Job prog (proto A base) K n 0 (.inl .ww) v (G (cf.finish (.bool true)) cs))(hN:Job prog (proto A base) K n 0 (.inl .w1) v (G (cf.finish (.bool false)) cs)) :
  RunW prog true (proto A base).Wd (AtM prog A base K n (.wc o)) v (G (Frame.enter prog 168 #[wgP A,.int .u64 (wgV o 0),.int .u64 (wgV o 1)] .normal) (cf::cs)):=by
 refine A3b (ys:=[_,_,_]) func168 Z nB fun b hbn hbr hbf=>?_
 have hbk:b.kind≠.early:=by rw [hbn];simp
 refine gs ?_
 refine s_wc D hb0 hbk hbr Z Z Z e184 Z Z Z Z Z ?_ ?_
 ·haveI:=A3o (P:=prog) (A:=A) (K:=K) (base:=base) (n:=n) (v:=v) (q:=.ww)
  refine gs ?_
  refine A6w hbr ?_
  refine A9e hbn (by rw [hbf];exact func168) Z Z ?_
  exact hY
 ·haveI:=A3o (P:=prog) (A:=A) (K:=K) (base:=base) (n:=n) (v:=v) (q:=.w1)
  refine gs ?_
  refine A6w hbr ?_
  refine A9e hbn (by rw [hbf];exact func168) Z Z ?_
  exact hN
theorem wait_x(D:Dist A)(hb0:0<base){n:Nat}(hend:∀m,m≤n→Job prog (proto A base) K m 0 (.inl .fin) v (G (cf.finish (.tuple #[])) cs)) :
  RunW prog true (proto A base).Wd (AtM prog A base K n .w0) v (G (Frame.enter prog 136 #[wgP A] .normal) (cf::cs)):=by
 refine A3b (ys:=[_]) func136 Z nB fun b hbn hbr hbf=>?_
 have hbk:b.kind≠.early:=by rw [hbn];simp
 refine gs ?_
 refine s_mark0 .disable (.inl Z) D hb0 (q':=.w1) sM sM hbk hbr Z Z Z e151 (fun γ h=>.w0 h) B0q ?_
 haveI:=A3o (P:=prog) (A:=A) (K:=K) (base:=base) (n:=n) (v:=v) (q:=.w1)
 refine gs ?_
 refine F_in [(0,wgP A)] (loop_gom n ?_) ⟨Z,trivial⟩
 clear this
 intro n' hn' IH
 refine gs ?_
 refine A5b (ys:=[wgP A]) hbk hbr Z Z Z Z Z func159 Z dM Z fun cf1 _ hcf1=>load159m1_x D hb0 fun v' hv'=>hcf1 _ _ (A5h fun m1 hm1=>?_)
 have hv6:v'<256:=oM
 refine gb ?_
 refine fP R4 (vI (g_v hv6 (Nat.zero_le 1)) Z) ?_
 refine gb ?_
 refine fP R4 (vI (g_w hv6 (Nat.zero_le 1)) Z) ?_
 refine gs ?_
 cases v' with
 | zero=>
  refine bi ?_
  refine gs ?_
  refine s_mark0 .enable (.inr Z) D hb0 (q:=.w5) (q':=.w6) sM sM hbk hbr Z Z Z e152 (fun γ h=>.w5 h) B2e (A5h fun m2 hm2=>?_)
  refine gs ?_
  refine B1t D hbk hbr Z Z Z (tab.und_ok _ _ Z) (tab.und_ok _ _ Z) (A7v Z) Z (.inr Z) oM ?_
  refine B2a .acquire (.inr (.inr Z)) D hb0 (q:=.w6) (q':=.fin) sM (fun _=>⟨Z,Z,Z⟩) hbk hbr Z Z Z e166 Z (fun γ h=>.w6 h) Z ?_
  haveI:=A3o (P:=prog) (A:=A) (K:=K) (base:=base) (n:=m2) (v:=v) (q:=.fin)
  refine gb ?_
  refine gb ?_
  refine fP R4 (vB (g_bub (v:=0) (wt:=0) oM oM) Z) ?_
  refine gs ?_
  exact A6w hbr (A7h hbn (by rw [hbf];exact func136) Z (hend _ oM))
 | succ v'=>
  have hne:(((v'+1:Nat):Int)==0)=false:=by simp;omega
  refine fP R4 (vB hne Z) ?_
  refine gs ?_
  refine fP R4 (vI (g_p1 hv6 (Nat.zero_le 1)) Z) ?_
  refine gs ?_
  refine A5b (ys:=[wgP A,.int .u64 (wgV (v'+1) 0),.int .u64 (wgV (v'+1) 1)]) hbk hbr Z Z Z Z Z func168 Z dM Z fun cf2 _ hcf2=>cas168_x D hb0 (hcf2 _ _ (A5h fun m2 hm2=>?_)) (hcf2 _ _ ?_)
  ·refine gb ?_
   refine gs ?_
   refine B1t D hbk hbr Z Z Z (tab.und_ok _ _ Z) (tab.und_ok _ _ Z) (A7v Z) Z (.inr Z) (Nat.le_refl 2) ?_
   refine B2a .write (.inr (.inl Z)) D hb0 (q:=.ww) (q':=.w3) sM sM hbk hbr Z Z Z e169 Z (fun γ h=>.ww h) Z (A5h fun m3 hm3=>?_)
   refine gb ?_
   refine fP R4 (vB (g_bub hv6 (Nat.zero_le 1)) Z) ?_
   refine gs ?_
   refine s_w3 (o1:=.tmp 70) D hb0 hbk hbr Z Z Z Z e170 Z (A5h fun m4 hm4=>?_)
   refine gs ?_
   refine A5b (ys:=[wgP A]) hbk hbr Z Z Z Z Z func159 Z dM Z fun cf3 _ hcf3=>load159m4_x D hb0 (hcf3 _ _ (A5h fun m5 hm5=>?_))
   refine gb ?_
   refine gs ?_
   refine s_mark0 .enable (.inr Z) D hb0 (q:=.w5) (q':=.w6) sM sM hbk hbr Z Z Z e152 (fun γ h=>.w5 h) B2e (A5h fun m6 hm6=>?_)
   refine gs ?_
   refine B1t D hbk hbr Z Z Z (tab.und_ok _ _ Z) (tab.und_ok _ _ Z) (A7v Z) Z (.inr Z) oM ?_
   refine B2a .acquire (.inr (.inr Z)) D hb0 (q:=.w6) (q':=.fin) sM (fun _=>⟨Z,Z,Z⟩) hbk hbr Z Z Z e166 Z (fun γ h=>.w6 h) Z ?_
   haveI:=A3o (P:=prog) (A:=A) (K:=K) (base:=base) (n:=m6) (v:=v) (q:=.fin)
   refine gs ?_
   exact A6w hbr (A7h hbn (by rw [hbf];exact func136) Z (hend _ oM))
  ·haveI:=A3o (P:=prog) (A:=A) (K:=K) (base:=base) (n:=m1) (v:=v) (q:=.w1)
   refine gs ?_
   exact F_in [(0,wgP A)] (IH _ oM) ⟨Z,trivial⟩
end
end Go.Proofs.YtiolobmgibdfmaaGreat
end
