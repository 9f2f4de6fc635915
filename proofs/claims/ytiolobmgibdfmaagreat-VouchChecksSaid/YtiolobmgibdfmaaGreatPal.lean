/- Part 12. -/
import Derived.Test.YtiolobmgibdfmaaGreatPak
set_option linter.all false
section
namespace Go.Pal.Mu
open Go Go.Conc Go.Pal View
open Go.ConcN (sumTo upd sumTo_upd upd_ne upd_same sumTo_congr le_sumTo)
theorem B1x(n:Int):IntKind.i64.wrap n=(n+9223372036854775808) % 18446744073709551616-9223372036854775808:=by
 simp [IntKind.wrap,IntKind.bits,IntKind.signed];split<;>omega
theorem wrap_u64(n:Int):IntKind.u64.wrap n=n % 18446744073709551616:=by simp [IntKind.wrap,IntKind.bits,IntKind.signed]
theorem wrap_u32(n:Int):IntKind.u32.wrap n=n % 4294967296:=by simp [IntKind.wrap,IntKind.bits,IntKind.signed]
def del(v:View)(r:Nat):View:=fun b=>if b=r then none else v b
section
variable{P:Program}{A:Par}{base:Nat}{K:View→Goroutine→Prop}{γ:WS}{j:Nat}
theorem ph_of(hb0:0<base){q:Wk}(h:thW A base γ (base+j)=some (.inr q)):γ.ph j=q∧q≠.off:=by
 rcases B2r h with ⟨h0,_⟩|⟨j',h1,h2,h3,h4⟩
 ·omega
 ·obtain rfl:j=j':=oM
  simp only [Sum.inr.injEq]at h4
  exact⟨h4.symm,by rw [h4];exact h3⟩
theorem hc_one(O:Ok A.J A.N A.keep γ)(hj:j<A.J)(hh:hold (mp (γ.ph j))=1)(q:Wk):Sw A.J (upd γ.ph j q) hc=hc q:=by
 have e1:=A1s (ph:=γ.ph) hj .off hc
 have e2:=S_upd (ph:=fun a=>mp (γ.ph a)) hj .out hold
 have e3:=O.mi.i1
 have e4:γ.x.l.toNat≤1:=Bool.toNat_le _
 have e5:Sw A.J (upd γ.ph j .off) hc≤S A.J (upd (fun a=>mp (γ.ph a)) j .out) hold:=by
  have:=B2t (c:=0) (f:=fun a=>hold (upd (fun a=>mp (γ.ph a)) j .out a)) (g:=fun a=>hc (upd γ.ph j .off a)) (n:=A.J) fun a ha=>by
   by_cases e:a=j
   ·subst e;rw [upd_same,upd_same];exact Nat.le_refl _
   ·rw [upd_ne _ _ e,upd_ne _ _ e]
    cases γ.ph a<;>simp only [hc,mp]<;>first|omega|skip
    rename_i i L p
    cases p<;>simp [hold]
  unfold Sw S
  omega
 have e6:hold Mp.out=0:=rfl
 have e7:hold (mp (γ.ph j))=1:=hh
 have e8:=A1s (ph:=upd γ.ph j .off) hj q hc
 have e9:upd (upd γ.ph j .off) j q=upd γ.ph j q:=by
  funext a
  by_cases e:a=j
  ·subst e;rw [upd_same,upd_same]
  ·rw [upd_ne _ _ e,upd_ne _ _ e,upd_ne _ _ e]
 rw [e9,upd_same]at e8
 have e10:hc .off=0:=rfl
 omega
theorem hc_self(O:Ok A.J A.N A.keep γ)(hj:j<A.J)(hh:hold (mp (γ.ph j))=1):Sw A.J γ.ph hc=hc (γ.ph j):=by
 have:=hc_one O hj hh (γ.ph j)
 rwa [show upd γ.ph j (γ.ph j)=γ.ph from by
  funext a
  by_cases e:a=j
  ·subst e;rw [upd_same]
  ·rw [upd_ne _ _ e]]at this
variable{n:Nat}{N:Nat}{b:Frame}{cs:List Frame}{ds:List Deferred}{ρ:Regs}{v:View}{k:List Item}{ops:Array Oper}{i:Nat}{rest:List Nat}{d:Nat}{op:Op}{ty:TypeId}{pos:String}{af:Array Edge}{gu:Option (Nat×Bool)}{a:Nat}{L:List Nat}
variable{f:FuncId}{fn:Func}{aS:Array Operand}{ats:Array TypeId}{o1 o2:Operand}
theorem mu_low{w:World}(h:w.heap[A.Mu]?=some (muB A.tM γ.x γ.m)):A.Mu<w.heap.size:=(Array.getElem?_eq_some_iff.1 h).1
theorem st_la(D:Dist A)(hb0:0<base)(hj:j<A.J)(hk:b.kind≠.early)(hr:b.roundOf=none)(ho:ops[i]?=some ⟨some d,.call {callee:=.value (.func f),args:=#[o1],argTypes:=ats },ty,pos,af,gu⟩)
  (hw:A0x ops gu ρ=some true)(hn:Nat.blt d N=true)(E:Ext P f fn (Extern.Race.marked .acquire))(h1:ρ.val o1=some (.pointer (some ⟨A.Mu,0,none⟩)))
  (h:∀L',JX P A base K n j (.mx a L' .u0) N b (.inRegion ops rest::k) cs ds ((d,.tuple #[])::ρ) (v.set A.Cm true (A.con L'))) :
  XF P false (proto A base).Wd (AtW P A base K n j (.mx a L .la)) N b (.inRegion ops (i::rest)::k) cs ds ρ v:=fun c hf=>by
 refine .stop (Le.refl v) ⟨Z,Z,fun e=>(by cases e),fun γ w O hth hag hS hd hcalm=>?_⟩
 have O:Ok A.J A.N A.keep γ:=O.1
 obtain⟨hph,_⟩:=ph_of hb0 (show thW A base γ (base+j)=some (.inr (.mx a L .la))from hth)
 have hi0:base+j≠0:=oM
 have hbq:(base+j==0)=false:=by simpa using hi0
 rw [hbq]
 have hmu:w.heap[A.Mu]?=some (muB A.tM γ.x γ.m):=hS A.Mu true _ (sh_mu (A:=A))
 have hh:hold (mp (γ.ph j))=1:=by rw [hph];rfl
 have hs1:Sw A.J γ.ph hc=0:=by rw [hc_self O hj hh,hph];rfl
 have hs2:Sw A.J (upd γ.ph j (.mx a γ.L .u0)) hc=1:=by rw [hc_one O hj hh];rfl
 have hcm:shW A γ A.Cm=some (true,A.con γ.L):=by rw [sh_cm D,if_pos hs1]
 have hcmw:w.heap[A.Cm]?=some (A.con γ.L):=hS A.Cm true _ hcm
 have hcm':shW A {γ with ph:=upd γ.ph j (.mx a γ.L .u0) } A.Cm=none:=by rw [sh_cm D];rw [if_neg (by simp only;omega)]
 have hels:∀b',b'≠A.Cm→shW A {γ with ph:=upd γ.ph j (.mx a γ.L .u0) } b'=shW A γ b':=fun b' hb'=>by unfold shW;simp only [if_neg hb']
 refine⟨fun hbl=>?_,fun _=>?_⟩
 ·rcases hbl with ⟨h0,_⟩|⟨j',e1,e2,⟨i',L',sv,e3⟩,e4⟩
  ·omega
  ·obtain rfl:j=j':=oM
   rw [hph]at e3;cases e3
 have e1:((#[o1]:Array Operand).map c.eval)[0]?=some (.pointer (some ⟨A.Mu,0,none⟩)):=by simp [A0o hf _ _ h1]
 have A5e:stepG P false (G (b.on c (.inRegion ops (i::rest)::k)) cs) w = .go (G (b.on (c.put (some d) (.tuple #[])) (.inRegion ops rest::k)) cs) w #[mkE (.acquire ⟨A.Mu,0,none⟩)]:=by
  rw [A1i hr,A1i hr]
  exact stepG_markAt .acquire (fun ad g e=>by cases e) ho (A0q hf (A0p hw)) hk rfl E.hf E.hname E.hb E.hn E.he e1
 have hth':thW A base {γ with ph:=upd γ.ph j (.mx a γ.L .u0) } (base+j)=some (.inr (.mx a γ.L .u0)):=A7j hb0 hj (by simp only [upd_same]) sM
 have hvc:v A.Cm=none:=(hd A.Cm).resolve_right (by show shW A γ A.Cm≠none;rw [hcm];simp)
 refine .on _ (.inr (.mx a γ.L .u0)) (v.set A.Cm true (A.con γ.L)) _ w _ (by rw [hbq];exact A5e) ?_ hth' (fun h=>(by cases h)) (h γ.L _ (A1h hf (show A3j N (some d)=true from hn)))
 refine⟨.la hj hph,Z,Z,Z,.refl _,Z,?_,?_,fun _ _ _=>rfl,?_,?_,?_,?_,?_,?_,fun h=>(by cases h),fun _=>.inl ⟨_,hth',rfl⟩,fun σ h=>absurd h hi0⟩
 ·intro b' p x e
  unfold View.set at e
  split at e
  ·rename_i hb;subst hb;cases e;exact hcmw
  ·exact hag b' p x e
 ·intro b' p x e
  have e:shW A _ b'=some (p,x):=e
  by_cases hb:b'=A.Cm
  ·subst hb;rw [hcm']at e;cases e
  ·rw [hels b' hb]at e;exact hS b' p x e
 ·intro b'
  by_cases hb:b'=A.Cm
  ·subst hb;exact .inr hcm'
  ·rcases hd b' with e|e
   ·exact .inl (by unfold View.set;rw [if_neg hb];exact e)
   ·exact .inr (by show shW A _ b'=none;rw [hels b' hb];exact e)
 ·intro e he
  simp only [List.mem_toArray,List.mem_singleton]at he
  subst he
  exact mu_low hmu
 ·intro σ hσ
  rw [show(proto A base).th _ (base+j)=thW A base _ (base+j)from Z,hth']at hσ
  cases hσ
  simp [deafBehind,dfW,dfP]
 ·intro b' hb'
  by_cases hb:b'=A.Cm
  ·subst hb;exact .inr ⟨rfl,rfl,by show shW A γ A.Cm≠none;rw [hcm];simp⟩
  ·exact .inl (by unfold View.set at hb';rwa [if_neg hb]at hb')
 ·intro b' ⟨o,hb'⟩
  by_cases hb:b'=A.Cm
  ·subst hb;exact .inr ⟨rfl,rfl,by show shW A γ A.Cm≠none;rw [hcm];simp⟩
  ·exact .inl ⟨o,by unfold View.set at hb';rwa [if_neg hb]at hb'⟩
 ·intro b' hb'
  have hb':shW A _ b'≠none:=hb'
  by_cases hb:b'=A.Cm
  ·subst hb;exact absurd hcm' hb'
  ·rw [hels b' hb]at hb';exact .inl hb'
theorem st_ur(D:Dist A)(hb0:0<base)(hj:j<A.J)(hk:b.kind≠.early)(hr:b.roundOf=none)(ho:ops[i]?=some ⟨some d,.call {callee:=.value (.func f),args:=#[o1],argTypes:=ats },ty,pos,af,gu⟩)
  (hw:A0x ops gu ρ=some true)(hn:Nat.blt d N=true)(E:Ext P f fn (Extern.Race.marked .releaseMerge))(h1:ρ.val o1=some (.pointer (some ⟨A.Mu,0,none⟩)))
  (hv:v A.Cm=some (true,A.con (L++[a])))(h:JX P A base K n j (.mx a L .ud) N b (.inRegion ops rest::k) cs ds ((d,.tuple #[])::ρ) (del v A.Cm)) :
  XF P false (proto A base).Wd (AtW P A base K n j (.mx a L .ur)) N b (.inRegion ops (i::rest)::k) cs ds ρ v:=fun c hf=>by
 refine .stop (Le.refl v) ⟨Z,Z,fun e=>(by cases e),fun γ w O hth hag hS hd hcalm=>?_⟩
 have O:Ok A.J A.N A.keep γ:=O.1
 obtain⟨hph,_⟩:=ph_of hb0 (show thW A base γ (base+j)=some (.inr (.mx a L .ur))from hth)
 have hi0:base+j≠0:=oM
 have hbq:(base+j==0)=false:=by simpa using hi0
 rw [hbq]
 have hmu:w.heap[A.Mu]?=some (muB A.tM γ.x γ.m):=hS A.Mu true _ (sh_mu (A:=A))
 have hh:hold (mp (γ.ph j))=1:=by rw [hph];rfl
 have hL:L=γ.L:=O.own j a L .ur hph (.inr Z)
 have hs1:Sw A.J γ.ph hc=1:=by rw [hc_self O hj hh,hph];rfl
 have hs2:Sw A.J (upd γ.ph j (.mx a L .ud)) hc=0:=by rw [hc_one O hj hh];rfl
 have hcm:shW A γ A.Cm=none:=by rw [sh_cm D,if_neg oM]
 have hcmw:w.heap[A.Cm]?=some (A.con (L++[a])):=hag A.Cm true _ hv
 have hcm':shW A {γ with ph:=upd γ.ph j (.mx a L .ud),L:=L++[a] } A.Cm=some (true,A.con (L++[a])):=by rw [sh_cm D];rw [if_pos (by simp only;omega)]
 have hels:∀b',b'≠A.Cm→shW A {γ with ph:=upd γ.ph j (.mx a L .ud),L:=L++[a] } b'=shW A γ b':=fun b' hb'=>by unfold shW;simp only [if_neg hb']
 refine⟨fun hbl=>?_,fun _=>?_⟩
 ·rcases hbl with ⟨h0,_⟩|⟨j',e1,e2,⟨i',L',sv,e3⟩,e4⟩
  ·omega
  ·obtain rfl:j=j':=oM
   rw [hph]at e3;cases e3
 have e1:((#[o1]:Array Operand).map c.eval)[0]?=some (.pointer (some ⟨A.Mu,0,none⟩)):=by simp [A0o hf _ _ h1]
 have A5e:stepG P false (G (b.on c (.inRegion ops (i::rest)::k)) cs) w = .go (G (b.on (c.put (some d) (.tuple #[])) (.inRegion ops rest::k)) cs) w #[mkE (.releaseMerge ⟨A.Mu,0,none⟩)]:=by
  rw [A1i hr,A1i hr]
  exact stepG_markAt .releaseMerge (fun ad g e=>by cases e) ho (A0q hf (A0p hw)) hk rfl E.hf E.hname E.hb E.hn E.he e1
 have hth':thW A base {γ with ph:=upd γ.ph j (.mx a L .ud),L:=L++[a] } (base+j)=some (.inr (.mx a L .ud)):=A7j hb0 hj (by simp only [upd_same]) sM
 refine .on _ (.inr (.mx a L .ud)) (del v A.Cm) _ w _ (by rw [hbq];exact A5e) ?_ hth' (fun h=>(by cases h)) (h _ (A1h hf (show A3j N (some d)=true from hn)))
 refine⟨.ur hj hph,Z,Z,Z,.refl _,Z,?_,?_,fun _ _ _=>rfl,?_,?_,?_,?_,?_,?_,fun h=>(by cases h),fun _=>.inl ⟨_,hth',rfl⟩,fun σ h=>absurd h hi0⟩
 ·intro b' p x e
  unfold del at e
  split at e
  ·cases e
  ·exact hag b' p x e
 ·intro b' p x e
  have e:shW A _ b'=some (p,x):=e
  by_cases hb:b'=A.Cm
  ·subst hb;rw [hcm']at e;cases e;exact hcmw
  ·rw [hels b' hb]at e;exact hS b' p x e
 ·intro b'
  by_cases hb:b'=A.Cm
  ·subst hb;exact .inl (by simp [del])
  ·rcases hd b' with e|e
   ·exact .inl (by unfold del;rw [if_neg hb];exact e)
   ·exact .inr (by show shW A _ b'=none;rw [hels b' hb];exact e)
 ·intro e he
  simp only [List.mem_toArray,List.mem_singleton]at he
  subst he
  exact mu_low hmu
 ·intro σ hσ
  rw [show(proto A base).th _ (base+j)=thW A base _ (base+j)from Z,hth']at hσ
  cases hσ
  simp [deafBehind,dfW,dfP]
 ·intro b' hb'
  refine .inl fun e=>hb' ?_
  unfold del
  split
  ·rfl
  ·exact e
 ·intro b' ⟨o,hb'⟩
  unfold del at hb'
  split at hb'
  ·cases hb'
  ·exact .inl ⟨o,hb'⟩
 ·intro b' hb'
  have hb':shW A _ b'≠none:=hb'
  by_cases hb:b'=A.Cm
  ·subst hb;exact .inr ⟨rfl,rfl,_,hv⟩
  ·rw [hels b' hb]at hb';exact .inl hb'
theorem at_wk(D:Dist A)(hb0:0<base)(hj:j<A.J){q:Wk}{X:Nat→Mn ⊕ Wk→View→Goroutine→Prop}{g:Goroutine}(hrun:g.status = .running)(hoff:g.offers=none)(hr:relW q=false)(hnw:∀i L sv,q≠.mx i L (.wait sv))(hwk:wakesW q=true→mayWake P g=true)
  (h:∀γ w,Ok A.J A.N A.keep γ→Cb A.J A.N γ→γ.ph j=q→(shW A γ).Agree w→∃q' γ' B o g' w' es,stepG P false g w = .go g' w' es∧Tr A.J A.N A.keep base γ (base+j) γ'∧γ'.st=γ.st∧γ'.ph j=q'∧q'≠.off∧relW q'=false∧(B=A.Mu∨B=A.Wg∨B=A.Cn)∧
   OnB B o w w'∧shW A γ' B=some (true,o)∧(∀b',b'≠B→shW A γ' b'=shW A γ b')∧(∀e∈es,BkE B e)∧deafBehind (dfW q) es=dfW q'∧X (base+j) (.inr q') v g') :
  AtF P (proto A base) K X (base+j) (.inr q) v g:=by
 refine⟨hrun,hoff,fun e=>hwk e,fun γ w O hth hag hS hd hcalm=>?_⟩
 obtain⟨hph,_⟩:=ph_of hb0 (show thW A base γ (base+j)=some (.inr q)from hth)
 have hi0:base+j≠0:=oM
 have hbq:(base+j==0)=false:=by simpa using hi0
 rw [hbq]
 refine⟨fun hbl=>?_,fun _=>?_⟩
 ·rcases hbl with ⟨h0,_⟩|⟨j',e1,e2,⟨i',L',sv,e3⟩,e4⟩
  ·omega
  ·obtain rfl:j=j':=oM
   rw [hph]at e3;exact absurd e3 (hnw _ _ _)
 obtain⟨q',γ',B,o,g',w',es,h1,h2,h3,h4,h5,h6,h7,h8,h9,h10,h11,h12,h13⟩:=h γ w O.1 O.2 hph hS
 have hBlt:B<w.heap.size:=by
  rw [←h8.size];exact(Array.getElem?_eq_some_iff.1 h8.here).1
 have hth':thW A base γ' (base+j)=some (.inr q'):=A7j hb0 hj h4 h5
 exact .on γ' (.inr q') v g' w' es (by rw [hbq];exact h1) (ss_of D h2 h3 hag hS hd h7 h8 h9 h10 (fun e he=>evS_bk h7 hBlt (h11 e he)) (fun σ hσ=>by rw [hth']at hσ;cases hσ;exact h12) (fun h=>(by rw [show(proto A base).rel (.inr q)=relW q from Z,hr]at h;cases h)) (fun _=>.inl ⟨_,hth',h6⟩) (fun σ h=>absurd h hi0)) hth' (fun h=>(by rw [show(proto A base).rel (.inr q')=relW q' from rfl,h6]at h;cases h)) h13
theorem st_ue(D:Dist A)(hb0:0<base)(hj:j<A.J)(hk:b.kind≠.early)(hr:b.roundOf=none)(ho:ops[i]?=some ⟨some d,.call {callee:=.value (.func f),args:=aS,argTypes:=ats },ty,pos,af,gu⟩)
  (hw:A0x ops gu ρ=some true)(hn:Nat.blt d N=true)(E:Ext P f fn (fun _=>do mark .enable;pure Extern.Race.none_))
  (h:JX P A base K n j .take N b (.inRegion ops rest::k) cs ds ((d,.tuple #[])::ρ) v) :
  XF P false (proto A base).Wd (AtW P A base K n j (.mx a L .ue)) N b (.inRegion ops (i::rest)::k) cs ds ρ v:=fun c hf=>by
 refine .stop (Le.refl v) (at_wk D hb0 hj Z Z Z sM (fun e=>by cases e) fun γ w O C hph hS=>?_)
 have hmu:w.heap[A.Mu]?=some (muB A.tM γ.x γ.m):=hS A.Mu true _ (sh_mu (A:=A))
 have e1:=A1s (ph:=γ.ph) hj .take hc
 rw [hph]at e1
 simp only [hc]at e1
 exact⟨.take,{γ with ph:=upd γ.ph j .take },A.Mu,_,_,w,#[mkE .enable],by rw [A1i hr,A1i hr];exact stepG_mark0 .enable (fun g e=>by cases e) ho (A0q hf (A0p hw)) hk rfl E.hf E.hname E.hb E.hn E.he,
  .ue hj hph,rfl,upd_same _ _ _,by simp,rfl,.inl rfl,.same hmu,sh_mu,A7n D (by simp only;omega) rfl (.inl ⟨rfl,rfl,rfl,rfl,rfl⟩),bk_en,by rw [deaf_en];rfl,h _ (A1h hf (show A3j N (some d)=true from hn))⟩
theorem st_take(D:Dist A)(hb0:0<base)(hj:j<A.J)(hk:b.kind≠.early)(hr:b.roundOf=none)(ho:ops[i]?=some ⟨some d,.call {callee:=.value (.func f),args:=#[o1,o2],argTypes:=ats },ty,pos,af,gu⟩)
  (hw:A0x ops gu ρ=some true)(hn:Nat.blt d N=true)(E:Ext P f fn (Extern.Atomic.update (Op.intArith .add) .i64 true))(h1:ρ.val o1=some (.pointer (some ⟨A.Cn,0,none⟩)))(h2:ρ.val o2=some (.int .i64 1))
  (hY:∀t,t<A.N→JX P A base K n j (if A.keep t then .take else .mx t [] .l0) N b (.inRegion ops rest::k) cs ds ((d,.int .i64 ((t+1:Nat):Int))::ρ) v)
  (hE:∀t,A.N≤t→t≤2^62+200→JX P A base K n j .d0 N b (.inRegion ops rest::k) cs ds ((d,.int .i64 ((t+1:Nat):Int))::ρ) v) :
  XF P false (proto A base).Wd (AtW P A base K n j .take) N b (.inRegion ops (i::rest)::k) cs ds ρ v:=fun c hf=>by
 refine .stop (Le.refl v) (at_wk D hb0 hj Z Z Z sM (fun e=>by cases e) fun γ w O C hph hS=>?_)
 have hcn:w.heap[A.Cn]?=some (cnB A.tC γ.c):=hS A.Cn true _ (sh_cn D)
 have hcb:γ.c≤2^62+200:=by
  have:=D.nN;have:=A.J2;have:=O.stJ
  have C:=C.1
  unfold Cb1 at C
  omega
 have hwr:IntKind.i64.wrap ((γ.c:Int)+1)=((γ.c+1:Nat):Int):=by
  have h62:(2:Nat)^62=4611686018427387904:=by decide
  rw [B1x]
  omega
 have hst:=stepG_add_atomic (main:=false) (cs:=cs) (kk:=k) (rest:=rest) (w:=w) ho (A0q hf (A0p hw)) hk Z E.hf E.hname E.hb E.hn .i64 E.he (A0o hf _ _ h1) (A0o hf _ _ h2) (v:=(γ.c:Int)) (by rw [A3n hcn];rfl) (A5d hcn)
 rw [hwr]at hst
 have hon:OnB A.Cn (cnB A.tC (γ.c+1)) w (w.setCell ⟨A.Cn,0,none⟩ (.int .i64 ((γ.c+1:Nat):Int))):=OnB.set (off:=0) (.int .i64 ((γ.c+1:Nat):Int)) hcn
 by_cases hlt:γ.c<A.N
 ·have e1:=A1s (ph:=γ.ph) hj (if A.keep γ.c then Wk.take else .mx γ.c [] .l0) hc
  have e2:hc (if A.keep γ.c then Wk.take else .mx γ.c [] .l0)=0:=by split<;>rfl
  rw [hph,e2]at e1
  simp only [hc]at e1
  exact⟨_,{γ with ph:=upd γ.ph j (if A.keep γ.c then .take else .mx γ.c [] .l0),c:=γ.c+1 },A.Cn,_,_,_,_,by rw [A1i hr,A1i hr];exact hst,.take hj hph hlt,Z,upd_same _ _ _,by split<;>simp,by split<;>rfl,.inr (.inr Z),hon,sh_cn D,
   A7n D (by simp only;omega) rfl (.inr (.inr ⟨rfl,rfl,rfl,rfl,rfl,rfl⟩)),bk_rw,by rw [A8a];split<;>rfl,hY γ.c hlt _ (A1h hf (show A3j N (some d)=true from hn))⟩
 ·have e1:=A1s (ph:=γ.ph) hj .d0 hc
  rw [hph]at e1
  simp only [hc]at e1
  exact⟨.d0,{γ with ph:=upd γ.ph j .d0,c:=γ.c+1 },A.Cn,_,_,_,_,by rw [A1i hr,A1i hr];exact hst,.takeE hj hph oM,Z,upd_same _ _ _,by simp,Z,.inr (.inr Z),hon,sh_cn D,
   A7n D (by simp only;omega) rfl (.inr (.inr ⟨rfl,rfl,rfl,rfl,rfl,rfl⟩)),bk_rw,by rw [A8a];rfl,hE γ.c oM hcb _ (A1h hf (show A3j N (some d)=true from hn))⟩
theorem B1t{main:Bool}{Stop:View→Goroutine→Prop}{t1 t2 t:TypeId}{B off:Nat}(D:Dist A)(hk:b.kind≠.early)(hr:b.roundOf=none)(ho:ops[i]?=some ⟨some d,.convert t1 t2 o1,ty,pos,af,gu⟩)(hw:A0x ops gu ρ=some true)(hn:Nat.blt d N=true)
  (hs:P.underlying t1=some (.pointer t))(hd:P.underlying t2=some .unsafePointer)(hsz:(P.info? t).map (fun i=>decide (i.size=0))=some false)(h1:ρ.val o1=some (.pointer (some ⟨B,off,none⟩)))(hB:B=A.Mu∨B=A.Wg)(hoff:off<2)
  (h:XF P main (proto A base).Wd Stop N b (.inRegion ops rest::k) cs ds ((d,.pointer (some ⟨B,off,none⟩))::ρ) v):XF P main (proto A base).Wd Stop N b (.inRegion ops (i::rest)::k) cs ds ρ v:=fun c hf=>by
 refine .step Z (fun _=>G (b.on (c.put (some d) (.pointer (some ⟨B,off,none⟩))) (.inRegion ops rest::k)) cs) (fun w=>w) (fun _=>#[]) (fun _=>v) (fun w hW hag=>⟨?_,.refl hag⟩) (fun _ _ _=>h _ (A1h hf (show A3j N (some d)=true from hn)))
 obtain⟨γ,O,hS⟩:=hW
 have hcell:∃y,w.cell? ⟨B,off,none⟩=some y:=by
  rcases hB with rfl|rfl
  ·have hmu:w.heap[A.Mu]?=some (muB A.tM γ.x γ.m):=hS A.Mu true _ (sh_mu (A:=A))
   rw [A3n hmu]
   match off,hoff with
   | 0,_=>exact⟨_,rfl⟩
   | 1,_=>exact⟨_,rfl⟩
  ·have hwg:w.heap[A.Wg]?=some (wgB A.tW γ.v γ.wt γ.sm):=hS A.Wg true _ (B1f D)
   rw [A3n hwg]
   match off,hoff with
   | 0,_=>exact⟨_,rfl⟩
   | 1,_=>exact⟨_,rfl⟩
 obtain⟨y,hy⟩:=hcell
 have e1:c.eval o1=_:=A0o hf _ _ h1
 have hrun:(execOp c.eval ⟨some d,.convert t1 t2 o1,ty,pos,af,gu⟩).run P w = .ok (.value (.pointer (some ⟨B,off,none⟩))) w:=by
  unfold execOp
  simp only [e1]
  rw [Sem.run_bind,run_convert_to_unsafe hs hd hsz hy];rfl
 have hev:(execOp c.eval ⟨some d,.convert t1 t2 o1,ty,pos,af,gu⟩).events P w #[]=#[]:=by
  unfold execOp
  simp only [e1]
  rw [Sem.events_bind,run_convert_to_unsafe hs hd hsz hy]
  exact events_convert_to_unsafe hs hd hsz hy #[]
 rw [A1i hr,A1i hr,stepG_value (v:=.pointer (some ⟨B,off,none⟩)) (w':=w) ho (A0q hf (A0p hw)) hk hrun]
 unfold listed
 rw [hev]
 simp [seen_none]
end
end Go.Pal.Mu
end
section
namespace Go.Proofs.YtiolobmgibdfmaaGreat
open Go Go.Pal
open Go.Proofs.Tryz
set_option maxHeartbeats 400000
theorem e150:Ext prog 150 f150 (Extern.Race.marked .releaseMerge):=⟨func150,Z,Z,by kernel_rfl,kR⟩
theorem e151:Ext prog 151 f151 (fun _=>do mark .disable;pure Extern.Race.none_):=⟨func151,Z,Z,by kernel_rfl,kR⟩
theorem e152:Ext prog 152 f152 (fun _=>do mark .enable;pure Extern.Race.none_):=⟨func152,Z,Z,by kernel_rfl,kR⟩
theorem e153:Ext prog 153 f153 (fun _=>pure (.bool false)):=⟨func153,Z,Z,by kernel_rfl,kR⟩
theorem e177:Ext prog 177 f177 (Extern.Atomic.update (Op.intArith .add) .u64 true):=⟨func177,Z,Z,by kernel_rfl,kR⟩
theorem e158:Ext prog 158 f158 (Extern.Race.marked .read):=⟨func158,Z,Z,by kernel_rfl,kR⟩
theorem e178:Ext prog 178 f178 (Extern.Atomic.loadT (.int .u64)):=⟨func178,Z,Z,by kernel_rfl,kR⟩
theorem e179:Ext prog 179 f179 Extern.Atomic.storeT:=⟨func179,Z,Z,by kernel_rfl,kR⟩
theorem e162:Ext prog 162 f162 Extern.Sync.semrelease:=⟨func162,Z,Z,by kernel_rfl,kR⟩
theorem e163:Ext prog 163 f163 (Extern.Atomic.update (Op.intArith .add) .i64 true):=⟨func163,Z,Z,by kernel_rfl,kR⟩
theorem e166:Ext prog 166 f166 (Extern.Race.marked .acquire):=⟨func166,Z,Z,by kernel_rfl,kR⟩
theorem e184:Ext prog 184 f184 (Extern.Atomic.casT (.int .u64)):=⟨func184,Z,Z,by kernel_rfl,kR⟩
theorem e169:Ext prog 169 f169 (Extern.Race.marked .write):=⟨func169,Z,Z,by kernel_rfl,kR⟩
theorem e170:Ext prog 170 f170 Extern.Sync.semacquire:=⟨func170,Z,Z,by kernel_rfl,kR⟩
theorem e180:Ext prog 180 f180 (Extern.Atomic.casT (.int .i32)):=⟨func180,Z,Z,by kernel_rfl,kR⟩
theorem e182:Ext prog 182 f182 (Extern.Atomic.update (Op.intArith .add) .i32 true):=⟨func182,Z,Z,by kernel_rfl,kR⟩
theorem e196:Ext prog 196 f196 Extern.Sync.canSpin:=⟨func196,Z,Z,by kernel_rfl,kR⟩
theorem e197:Ext prog 197 f197 Extern.Sync.nothing:=⟨func197,Z,Z,by kernel_rfl,kR⟩
theorem e199:Ext prog 199 f199 Extern.OsHooks.nano:=⟨func199,Z,Z,by kernel_rfl,kR⟩
theorem e200:Ext prog 200 f200 Extern.Sync.semacquire:=⟨func200,Z,Z,by kernel_rfl,kR⟩
theorem e202:Ext prog 202 f202 Extern.Sync.semrelease:=⟨func202,Z,Z,by kernel_rfl,kR⟩
theorem A5p(l:Array Value):Pu prog (Extern.Sync.nothing l) (.tuple #[]):=Pu.pure _
theorem A1v:f181.norace=true:=rfl
theorem nr183:f183.norace=true:=rfl
theorem nr165:f165.norace=true:=rfl
theorem A4v:f199.norace=true:=rfl
end Go.Proofs.YtiolobmgibdfmaaGreat
end
section
namespace Go.Pal.Mu
open Go Go.Conc Go.Pal
def chkW(f:MW→Bool):Bool:=(List.range 256).all fun n=>f ⟨false,false,false,n⟩&&f ⟨false,false,true,n⟩&&f ⟨false,true,false,n⟩&&f ⟨false,true,true,n⟩&&f ⟨true,false,false,n⟩&&f ⟨true,false,true,n⟩&&f ⟨true,true,false,n⟩&&f ⟨true,true,true,n⟩
theorem A1g{f:MW→Bool}(h:chkW f=true)(x:MW)(hx:x.n<256):f x=true:=by
 have:=List.all_eq_true.1 h x.n (List.mem_range.2 hx)
 simp only [Bool.and_eq_true]at this
 obtain⟨l,w,s,n⟩:=x
 cases l<;>cases w<;>cases s<;>simp_all
abbrev andI(a b:Int):Int:=IntKind.i32.wrap (BitVec.ofInt IntKind.i32.bits a &&& BitVec.ofInt IntKind.i32.bits b).toNat
abbrev orI(a b:Int):Int:=IntKind.i32.wrap (BitVec.ofInt IntKind.i32.bits a ||| BitVec.ofInt IntKind.i32.bits b).toNat
abbrev andNotI(a b:Int):Int:=IntKind.i32.wrap (BitVec.ofInt IntKind.i32.bits a &&& ~~~ BitVec.ofInt IntKind.i32.bits b).toNat
abbrev shrI(a b:Int):Int:=a.fdiv (2 ^ (min b.toNat IntKind.i32.bits))
section
variable{x:MW}(hx:x.n<256)
include hx
theorem b5:(andI (encW x) 5==1)=(x.l && !x.s):=by
 have:=A1g (f:=fun x=>(andI (encW x) 5==1)==(x.l && !x.s)) kR x hx
 exact eq_of_beq this
theorem b5n:(andI (encW x) 5 != 0)=(x.l||x.s):=by
 have:=A1g (f:=fun x=>(andI (encW x) 5 != 0)==(x.l||x.s)) kR x hx
 exact eq_of_beq this
theorem b5z:(andI (encW x) 5==0)=(!x.l && !x.s):=by
 have:=A1g (f:=fun x=>(andI (encW x) 5==0)==(!x.l && !x.s)) kR x hx
 exact eq_of_beq this
theorem b2z:(andI (encW x) 2==0)=!x.w:=by
 have:=A1g (f:=fun x=>(andI (encW x) 2==0) == !x.w) kR x hx
 exact eq_of_beq this
theorem b4z:(andI (encW x) 4==0)=!x.s:=by
 have:=A1g (f:=fun x=>(andI (encW x) 4==0) == !x.s) kR x hx
 exact eq_of_beq this
theorem b4n:(andI (encW x) 4 != 0)=x.s:=by
 have:=A1g (f:=fun x=>(andI (encW x) 4 != 0)==x.s) kR x hx
 exact eq_of_beq this
theorem b1n:(andI (encW x) 1 != 0)=x.l:=by
 have:=A1g (f:=fun x=>(andI (encW x) 1 != 0)==x.l) kR x hx
 exact eq_of_beq this
theorem b3n:(andI (encW x) 3 != 0)=(x.l||x.w):=by
 have:=A1g (f:=fun x=>(andI (encW x) 3 != 0)==(x.l||x.w)) kR x hx
 exact eq_of_beq this
theorem b7n:(andI (encW x) 7 != 0)=(x.l||x.w||x.s):=by
 have:=A1g (f:=fun x=>(andI (encW x) 7 != 0)==(x.l||x.w||x.s)) kR x hx
 exact eq_of_beq this
theorem s3n:(shrI (encW x) 3 != 0)=(x.n != 0):=by
 have:=A1g (f:=fun x=>(shrI (encW x) 3 != 0)==(x.n != 0)) kR x hx
 exact eq_of_beq this
theorem s3z:(shrI (encW x) 3==0)=(x.n==0):=by
 have:=A1g (f:=fun x=>(shrI (encW x) 3==0)==(x.n==0)) kR x hx
 exact eq_of_beq this
theorem s31:(shrI (encW x) 3==1)=(x.n==1):=by
 have:=A1g (f:=fun x=>(shrI (encW x) 3==1)==(x.n==1)) kR x hx
 exact eq_of_beq this
theorem o1:orI (encW x) 1=encW {x with l:=true }:=by
 have:=A1g (f:=fun x=>orI (encW x) 1==encW {x with l:=true }) kR x hx
 exact eq_of_beq this
theorem o2:orI (encW x) 2=encW {x with w:=true }:=by
 have:=A1g (f:=fun x=>orI (encW x) 2==encW {x with w:=true }) kR x hx
 exact eq_of_beq this
theorem o4:orI (encW x) 4=encW {x with s:=true }:=by
 have:=A1g (f:=fun x=>orI (encW x) 4==encW {x with s:=true }) kR x hx
 exact eq_of_beq this
theorem n2:andNotI (encW x) 2=encW {x with w:=false }:=by
 have:=A1g (f:=fun x=>andNotI (encW x) 2==encW {x with w:=false }) kR x hx
 exact eq_of_beq this
theorem p8:IntKind.i32.wrap (encW x+8)=encW {x with n:=x.n+1 }:=by
 have:=A1g (f:=fun x=>IntKind.i32.wrap (encW x+8)==encW {x with n:=x.n+1 }) kR x hx
 exact eq_of_beq this
theorem m8(h:1≤x.n)(hw:x.w=false):orI (IntKind.i32.wrap (encW x-8)) 2=encW {x with w:=true,n:=x.n-1 }:=by
 have:=A1g (f:=fun x=>x.n==0||x.w||orI (IntKind.i32.wrap (encW x-8)) 2==encW {x with w:=true,n:=x.n-1 }) kR x hx
 simp only [hw,Bool.or_false,Bool.or_eq_true,beq_iff_eq]at this
 rcases this with h'|h'
 ·omega
 ·exact h'
theorem p1z(hl:x.l=false):(andI (IntKind.i32.wrap (encW x+1)) 1==0)=false:=by
 have:=A1g (f:=fun x=>x.l||(andI (IntKind.i32.wrap (encW x+1)) 1==0)==false) kR x hx
 simpa [hl]using this
theorem m1(hl:x.l=true):IntKind.i32.wrap (encW x + -1)=encW {x with l:=false }:=by
 have:=A1g (f:=fun x=>!x.l||IntKind.i32.wrap (encW x + -1)==encW {x with l:=false }) kR x hx
 simpa [hl]using this
theorem m7(hl:x.l=false)(hn:1≤x.n):IntKind.i32.wrap (encW x + -7)=encW {x with l:=true,n:=x.n-1 }:=by
 have:=A1g (f:=fun x=>x.l||x.n==0||IntKind.i32.wrap (encW x + -7)==encW {x with l:=true,n:=x.n-1 }) kR x hx
 have h0:(x.n==0)=false:=by simp;omega
 simpa [hl,h0]using this
theorem m11(hl:x.l=false)(hs:x.s=true)(hn:1≤x.n):IntKind.i32.wrap (encW x + -11)=encW {x with l:=true,s:=false,n:=x.n-1 }:=by
 have:=A1g (f:=fun x=>x.l || !x.s||x.n==0||IntKind.i32.wrap (encW x + -11)==encW {x with l:=true,s:=false,n:=x.n-1 }) kR x hx
 have h0:(x.n==0)=false:=by simp;omega
 simpa [hl,hs,h0]using this
theorem encz:(encW x != 0)=(x.l||x.w||x.s||x.n != 0):=by
 have:=A1g (f:=fun x=>(encW x != 0)==(x.l||x.w||x.s||x.n != 0)) kR x hx
 exact eq_of_beq this
end
end Go.Pal.Mu
end
section
namespace Go.Proofs.YtiolobmgibdfmaaGreat
open Go Go.Pal Go.Pal.Mu Go.Conc View
open Go.Proofs.Tryz
set_option maxHeartbeats 4000000
section
variable{A:Par}{base:Nat}{K:View→Goroutine→Prop}{j a:Nat}{L:List Nat}{v:View}{cf:Frame}{cs:List Frame}
abbrev muP(A:Par):Value:=.pointer (some ⟨A.Mu,0,none⟩)
theorem gs{p q:Prop}(h:q)(k:Hold q→p:=by(intro h;(repeat (first|(with_reducible apply F_seq)|(with_reducible apply A4a)|(with_reducible apply B4x)|(with_reducible apply F_scope)|(with_reducible apply B4w)|(with_reducible apply F_skip)|(with_reducible apply F_label)|(with_reducible apply F_nil)|((with_reducible apply F_mv tab);(focus (assumption));(focus (assumption));(focus (exact Z));(focus (exact Z));(focus (exact Z));(focus (exact Z));(focus (exact Z));(focus (exact Z)))|((with_reducible apply F_skipop);(focus (exact Z));(focus (exact Z));(focus (exact Z)))|(first|((with_reducible apply A2b (l:=[0]));(focus (exact Z)))|((with_reducible apply A2b (l:=[0,1]));(focus (exact Z)))|((with_reducible apply A2b (l:=[0,1,2]));(focus (exact Z)))|((with_reducible apply A2b (l:=[0,1,2,3]));(focus (exact Z)))|((with_reducible apply A2b (l:=[0,1,2,3,4]));(focus (exact Z)))|((with_reducible apply A2b (l:=[0,1,2,3,4,5]));(focus (exact Z)))|((with_reducible apply A2b (l:=[0,1,2,3,4,5,6]));(focus (exact Z)))|((with_reducible apply A2b (l:=[0,1,2,3,4,5,6,7]));(focus (exact Z)))|((with_reducible apply A2b (l:=[0,1,2,3,4,5,6,7,8]));(focus (exact Z)))|((with_reducible apply A2b (l:=[0,1,2,3,4,5,6,7,8,9]));(focus (exact Z)))|((with_reducible apply A2b (l:=[0,1,2,3,4,5,6,7,8,9,10]));(focus (exact Z)))|((with_reducible apply A2b (l:=[0,1,2,3,4,5,6,7,8,9,10,11]));(focus (exact Z)))|((with_reducible apply A2b (l:=[0,1,2,3,4,5,6,7,8,9,10,11,12]));(focus (exact Z)))|((with_reducible apply A2b (l:=[0,1,2,3,4,5,6,7,8,9,10,11,12,13]));(focus (exact Z)))|((with_reducible apply A2b (l:=[0,1,2,3,4,5,6,7,8,9,10,11,12,13,14]));(focus (exact Z)))|((with_reducible apply A2b (l:=[0,1,2,3,4,5,6,7,8,9,10,11,12,13,14,15]));(focus (exact Z)))|((with_reducible apply A2b (l:=[0,1,2,3,4,5,6,7,8,9,10,11,12,13,14,15,16]));(focus (exact Z)))|((with_reducible apply A2b (l:=[0,1,2,3,4,5,6,7,8,9,10,11,12,13,14,15,16,17]));(focus (exact Z)))|((with_reducible apply A2b (l:=[0,1,2,3,4,5,6,7,8,9,10,11,12,13,14,15,16,17,18]));(focus (exact Z)))|((with_reducible apply A2b (l:=[0,1,2,3,4,5,6,7,8,9,10,11,12,13,14,15,16,17,18,19]));(focus (exact Z)))|((with_reducible apply A2b (l:=[0,1,2,3,4,5,6,7,8,9,10,11,12,13,14,15,16,17,18,19,20]));(focus (exact Z))))|((with_reducible apply F_condT);(focus (exact Z)))|((with_reducible apply F_condF);(focus (exact Z)))|((with_reducible apply F_exit);(focus (exact Z)))));exact h.h)):p:=k ⟨h⟩
theorem gn{p q:Prop}(h:q)(k:Hold q→p:=by(intro h;(repeat (first|(with_reducible apply F_seq)|(with_reducible apply A4a)|(with_reducible apply B4x)|(with_reducible apply F_scope)|(with_reducible apply B4w)|(with_reducible apply F_skip)|(with_reducible apply F_label)|(with_reducible apply F_nil)|((with_reducible apply F_mv tab);(focus (assumption));(focus (assumption));(focus (exact Z));(focus (exact Z));(focus (exact Z));(focus (exact Z));(focus (exact Z));(focus (exact Z)))|((with_reducible apply F_skipop);(focus (exact Z));(focus (exact Z));(focus (exact Z)))|((with_reducible apply F_condT);(focus (exact Z)))|((with_reducible apply F_condF);(focus (exact Z)))|((with_reducible apply F_exit);(focus (exact Z)))));exact h.h)):p:=k ⟨h⟩
theorem bi{p q:Prop}(h:q)(k:Hold q→p:=by(intro h;((with_reducible apply A0a tab);(focus (assumption));(focus (assumption));(focus (exact Z));(focus (exact Z));(focus (exact Z));(focus (exact Z));(focus (exact Z)));exact h.h)):p:=k ⟨h⟩
theorem gb{p q:Prop}(h:q)(k:Hold q→p:=by(intro h;((repeat (first|(with_reducible apply F_seq)|(with_reducible apply A4a)|(with_reducible apply B4x)|(with_reducible apply F_scope)|(with_reducible apply B4w)|(with_reducible apply F_skip)|(with_reducible apply F_label)|(with_reducible apply F_nil)|((with_reducible apply F_mv tab);(focus (assumption));(focus (assumption));(focus (exact Z));(focus (exact Z));(focus (exact Z));(focus (exact Z));(focus (exact Z));(focus (exact Z)))|((with_reducible apply F_skipop);(focus (exact Z));(focus (exact Z));(focus (exact Z)))|(first|((with_reducible apply A2b (l:=[0]));(focus (exact Z)))|((with_reducible apply A2b (l:=[0,1]));(focus (exact Z)))|((with_reducible apply A2b (l:=[0,1,2]));(focus (exact Z)))|((with_reducible apply A2b (l:=[0,1,2,3]));(focus (exact Z)))|((with_reducible apply A2b (l:=[0,1,2,3,4]));(focus (exact Z)))|((with_reducible apply A2b (l:=[0,1,2,3,4,5]));(focus (exact Z)))|((with_reducible apply A2b (l:=[0,1,2,3,4,5,6]));(focus (exact Z)))|((with_reducible apply A2b (l:=[0,1,2,3,4,5,6,7]));(focus (exact Z)))|((with_reducible apply A2b (l:=[0,1,2,3,4,5,6,7,8]));(focus (exact Z)))|((with_reducible apply A2b (l:=[0,1,2,3,4,5,6,7,8,9]));(focus (exact Z)))|((with_reducible apply A2b (l:=[0,1,2,3,4,5,6,7,8,9,10]));(focus (exact Z)))|((with_reducible apply A2b (l:=[0,1,2,3,4,5,6,7,8,9,10,11]));(focus (exact Z)))|((with_reducible apply A2b (l:=[0,1,2,3,4,5,6,7,8,9,10,11,12]));(focus (exact Z)))|((with_reducible apply A2b (l:=[0,1,2,3,4,5,6,7,8,9,10,11,12,13]));(focus (exact Z)))|((with_reducible apply A2b (l:=[0,1,2,3,4,5,6,7,8,9,10,11,12,13,14]));(focus (exact Z)))|((with_reducible apply A2b (l:=[0,1,2,3,4,5,6,7,8,9,10,11,12,13,14,15]));(focus (exact Z)))|((with_reducible apply A2b (l:=[0,1,2,3,4,5,6,7,8,9,10,11,12,13,14,15,16]));(focus (exact Z)))|((with_reducible apply A2b (l:=[0,1,2,3,4,5,6,7,8,9,10,11,12,13,14,15,16,17]));(focus (exact Z)))|((with_reducible apply A2b (l:=[0,1,2,3,4,5,6,7,8,9,10,11,12,13,14,15,16,17,18]));(focus (exact Z)))|((with_reducible apply A2b (l:=[0,1,2,3,4,5,6,7,8,9,10,11,12,13,14,15,16,17,18,19]));(focus (exact Z)))|((with_reducible apply A2b (l:=[0,1,2,3,4,5,6,7,8,9,10,11,12,13,14,15,16,17,18,19,20]));(focus (exact Z))))|((with_reducible apply F_condT);(focus (exact Z)))|((with_reducible apply F_condF);(focus (exact Z)))|((with_reducible apply F_exit);(focus (exact Z))))));((with_reducible apply A0a tab);(focus (assumption));(focus (assumption));(focus (exact Z));(focus (exact Z));(focus (exact Z));(focus (exact Z));(focus (exact Z)));exact h.h)):p:=k ⟨h⟩
theorem sJ(A:Mu.Par){base:Nat}(K:View→Goroutine→Prop)(n j:Nat)(q:Mu.Wk)(v:View)(hb0:0<base)(hr:Mu.relW q=false):Sil prog false (Job prog (Mu.proto A base) K n (base+j) (.inr q) v):=Mu.sil_job hb0 hr
theorem A7v{t n:Nat}(h:tab.siz t=some (n+1)):(prog.info? t).map (fun i=>decide (i.size=0))=some false:=by
 obtain⟨i,hi,hs⟩:=tab.siz_ok _ _ h
 rw [hi];simp [hs]
theorem B2e:deafBehind 1 #[mkE .enable]=0:=by simp [deafBehind]
theorem B0q:deafBehind 0 #[mkE .disable]=1:=by simp [deafBehind]
theorem wr_it{it:Nat}(h:it<4):IntKind.i64.wrap ((it:Int)+1)=((it+1:Nat):Int):=by rw [B1x];omega
def B1r:Code→Option Code
 | .loop c=>some c
 | .seq a b=>match B1r a with|some c=>some c|none=>B1r b
 | .block _ c=>B1r c
 | .scope c=>B1r c
 | .cond _ a b=>match B1r a with|some c=>some c|none=>B1r b
 | _=>none
noncomputable def A5y:Code:=match f181.body with
 | some c=>(match B1r c with|some d=>d|none=>.skip)
 | none=>.skip
def A8e(A:Par)(a:Nat)(q:Wk)(ρ:Regs):Prop:=∃x aw sv it,∃wst:Nat,q = .mx a [] (hd x aw sv it)∧ρ=[(0,muP A),(2,.int .i64 (wst:Nat)),(3,.bool sv),(4,.bool aw),(5,.int .i64 (it:Nat)),(6,.int .i32 (encW x))]∧x.n≤201∧it≤4∧(aw=true→x.w=true)∧(sv=true→aw=true)
end
section
theorem R4{α β γ δ:Type}{a:α}{b:β}{c:γ}{d:δ}:a=a∧b=b∧c=c∧d=d:=⟨Z,Z,Z,Z⟩
theorem R6{α β γ δ ε ζ:Type}{a:α}{b:β}{c:γ}{d:δ}{e:ε}{f:ζ}:a=a∧b=b∧c=c∧d=d∧e=e∧f=f:=⟨Z,Z,Z,Z,Z,Z⟩
abbrev lkR(A:Par)(wst:Nat)(sv aw:Bool)(it:Nat)(y:MW):Regs:=[(0,muP A),(2,.int .i64 ((wst:Nat):Int)),(3,.bool sv),(4,.bool aw),(5,.int .i64 ((it:Nat):Int)),(6,.int .i32 (encW y))]
variable{mq:Bool}{R:Goroutine→Prop}{n:Nat}{b:Frame}{its k:List Item}{cs:List Frame}{ρ:Regs}{ds:List Deferred}{ops:Array Oper}{i:Nat}{rest:List Nat}{d:Nat}{op:Op}{ty:TypeId}{pos:String}{af:Array Edge}{gu:Option (Nat×Bool)}
theorem fP [S:Sil prog mq R]{x:Value}(h4:ops[i]?=some ⟨some d,op,ty,pos,af,gu⟩∧A0x ops gu ρ=some true∧Nat.blt d n=true∧silOp ρ.val op=true)(hx:A1z tab ρ.val op=some x)(h:XG R n b (.inRegion ops rest::k) cs ds ((d,x)::ρ))(hk:b.kind≠.early:=by assumption)(hr:b.roundOf=none:=by assumption) :
  XG R n b (.inRegion ops (i::rest)::k) cs ds ρ:=A0a tab hk hr h4.1 h4.2.1 h4.2.2.1 h4.2.2.2 hx h
theorem F_i0{A:Par}(h:XG R n b its cs ds [(0,muP A)])(hs:RIn ρ [(0,muP A)]:=by exact⟨Z,trivial⟩):XG R n b its cs ds ρ:=F_in _ h hs
theorem F_iL(A:Par)(wst:Nat)(sv aw:Bool)(it:Nat)(y:MW)(h:XG R n b its cs ds (lkR A wst sv aw it y))(hs:RIn ρ (lkR A wst sv aw it y):=by exact⟨Z,Z,Z,Z,Z,Z,trivial⟩):XG R n b its cs ds ρ:=F_in _ h hs
variable{A:Par}{base:Nat}{K:View→Goroutine→Prop}{j a:Nat}{v:View}{L:List Nat}{p:Mp}{ats:Array TypeId}{o1 o2:Operand}
theorem ldL{tI:TypeId}{kd:IntKind}(D:Dist A)(hb0:0<base)(hj:j<A.J)(hbf:b.fn=181)(h6:ops[i]?=some ⟨some d,.load tI o1,ty,pos,af,gu⟩∧A0x ops gu ρ=some true∧Nat.blt d n=true∧tab.und tI=some (.int kd)∧A9u p=false∧ρ.val o1=some (.pointer (some ⟨A.Mu,0,none⟩)))
  {m:Nat}(h:∀x s,Kn p x s→∃p',Ms p x s p' x s∧dfP p=dfP p'∧JX prog A base K m j (.mx a L p') n b (.inRegion ops rest::k) cs ds ((d,.int .i32 (encW x))::ρ) v)(hk:b.kind≠.early:=by assumption)(hr:b.roundOf=none:=by assumption)
  (hnw:∀sv,p≠.wait sv:=by simp)(n1:p≠.la:=by simp)(n2:p≠.ur:=by simp)(n3:p≠.ue:=by simp) :
  XF prog false (proto A base).Wd (AtW prog A base K m j (.mx a L p)) n b (.inRegion ops (i::rest)::k) cs ds ρ v:=
 A0r D hb0 hj hk hr h6.1 h6.2.1 h6.2.2.1 (by rw [hbf];exact func181) A1v (tab.und_ok _ _ h6.2.2.2.1) hnw n1 n2 n3 h6.2.2.2.2.1 h6.2.2.2.2.2 h
theorem adL{u:Int}(D:Dist A)(hb0:0<base)(hj:j<A.J)(h6:ops[i]?=some ⟨some d,.call {callee:=.value (.func 182),args:=#[o1,o2],argTypes:=ats },ty,pos,af,gu⟩∧A0x ops gu ρ=some true∧Nat.blt d n=true∧A9u p=false∧ρ.val o1=some (.pointer (some ⟨A.Mu,0,none⟩))∧ρ.val o2=some (.int .i32 u))
  {m:Nat}(h:∀x s,Kn p x s→∃p' x',IntKind.i32.wrap (encW x+u)=encW x'∧Ms p x s p' x' s∧dfP p=dfP p'∧JX prog A base K m j (.mx a L p') n b (.inRegion ops rest::k) cs ds ((d,.int .i32 (encW x'))::ρ) v)(hk:b.kind≠.early:=by assumption)(hr:b.roundOf=none:=by assumption)
  (hnw:∀sv,p≠.wait sv:=by simp)(n1:p≠.la:=by simp)(n2:p≠.ur:=by simp)(n3:p≠.ue:=by simp) :
  XF prog false (proto A base).Wd (AtW prog A base K m j (.mx a L p)) n b (.inRegion ops (i::rest)::k) cs ds ρ v:=
 A1d D hb0 hj hk hr h6.1 h6.2.1 h6.2.2.1 e182 hnw n1 n2 n3 h6.2.2.2.1 h6.2.2.2.2.1 h6.2.2.2.2.2 h
end
end Go.Proofs.YtiolobmgibdfmaaGreat
end
section
namespace Go.Pal.Mu
open Go Go.Conc Go.Pal View
open Go.ConcN (sumTo upd sumTo_upd upd_ne upd_same sumTo_congr le_sumTo)
def MuteD(d:Nat)(es:Array Event):Prop:=∀j e,es[j]?=some e→(MemAct.ofEvent e).touch?=none∨((∃ad wr,e=⟨.cell ad,wr,true⟩)∧0<deafBehind d (es.extract 0 j))
theorem mute_dis{d:Nat}:MuteD d #[mkE .disable]:=fun j e he=>.inl (by
 have:=Array.mem_of_getElem? he
 simp at this;subst this;rfl)
theorem mute_one{d:Nat}{ad:Addr}{wr:Bool}:MuteD (d+1) #[⟨.cell ad,wr,true⟩]:=fun j e he=>by
 match j,he with
 | 0,he=>simp at he;subst he;exact .inr ⟨⟨_,_,rfl⟩,by simp [deafBehind]⟩
 | j+1,he=>simp at he
theorem mute_rw{d:Nat}{ad:Addr}:MuteD (d+1) #[⟨.cell ad,false,true⟩,⟨.cell ad,true,true⟩]:=fun j e he=>by
 match j,he with
 | 0,he=>simp at he;subst he;exact .inr ⟨⟨_,_,rfl⟩,by simp [deafBehind]⟩
 | 1,he=>simp at he;subst he;exact .inr ⟨⟨_,_,rfl⟩,by simp [deafBehind]⟩
 | j+2,he=>simp at he
theorem mute_sem{d:Nat}{ad:Addr}:MuteD (d+1) (semEvents ad):=fun j e he=>by
 match j,he with
 | 0,he=>simp [semEvents]at he;subst he;exact .inl rfl
 | 1,he=>simp [semEvents]at he;subst he;exact .inr ⟨⟨_,_,rfl⟩,by simp [deafBehind,semEvents]⟩
 | 2,he=>simp [semEvents]at he;subst he;exact .inr ⟨⟨_,_,rfl⟩,by simp [deafBehind,semEvents]⟩
 | 3,he=>simp [semEvents]at he;subst he;exact .inl rfl
 | j+4,he=>simp [semEvents]at he
theorem SS.none{Pr:Proto}{i:Nat}{γ γ':Pr.G}{τ:Pr.T}{u u':View}{w w':World}{es:Array Event}(h:SS Pr i γ τ u w γ' u' w' es):SS Pr i γ τ u w γ' noView w' es:=
 ⟨h.tr,h.size,h.tape,h.output,h.os,h.heap,fun _ _ _ e=>(by cases e),h.agreeS,h.keep,fun _=>.inl rfl,h.ev,h.deaf,fun _ e=>absurd rfl e,fun _ ⟨_,e⟩=>(by cases e),h.lose,h.mute,h.rel,h.acq⟩
section
variable{P:Program}{A:Par}{base:Nat}{K:View→Goroutine→Prop}{j:Nat}{v:View}{X:Nat→Mn ⊕ Wk→View→Goroutine→Prop}{g:Goroutine}
theorem at_rl(D:Dist A)(hb0:0<base)(hj:j<A.J){q:Wk}(hrun:g.status = .running)(hoff:g.offers=none)(hr:relW q=true)(hwk:wakesW q=true→mayWake P g=true)
  (h:∀γ w,Ok A.J A.N A.keep γ→γ.ph j=q→(shW A γ).Agree w→∃γ' B o g' w' es,stepG P false g w = .go g' w' es∧Tr A.J A.N A.keep base γ (base+j) γ'∧γ'.st=γ.st∧(B=A.Mu∨B=A.Wg∨B=A.Cn)∧
   OnB B o w w'∧shW A γ' B=some (true,o)∧(∀b',b'≠B→shW A γ' b'=shW A γ b')∧(∀e∈es,BkE B e)∧MuteD (dfW q) es∧
   ((∃q',γ'.ph j=q'∧q'≠.off∧relW q'=true∧deafBehind (dfW q) es=dfW q'∧X (base+j) (.inr q') noView g')∨(γ'.ph j = .off∧g'.status = .running∧B1w P (deafBehind (dfW q) es) g'))) :
  AtF P (proto A base) K X (base+j) (.inr q) noView g:=by
 refine⟨hrun,hoff,fun e=>hwk e,fun γ w O hth hag hS hd hcalm=>?_⟩
 obtain⟨hph,_⟩:=ph_of hb0 (show thW A base γ (base+j)=some (.inr q)from hth)
 have hi0:base+j≠0:=oM
 have hbq:(base+j==0)=false:=by simpa using hi0
 rw [hbq]
 refine⟨fun hbl=>?_,fun _=>?_⟩
 ·rcases hbl with ⟨h0,_⟩|⟨j',e1,e2,⟨i',L',sv,e3⟩,e4⟩
  ·omega
  ·obtain rfl:j=j':=oM
   rw [hph]at e3
   rw [e3]at hr;cases hr
 obtain⟨γ',B,o,g',w',es,h1,h2,h3,h7,h8,h9,h10,h11,h12,h13⟩:=h γ w O.1 hph hS
 have hBlt:B<w.heap.size:=by
  rw [←h8.size];exact(Array.getElem?_eq_some_iff.1 h8.here).1
 rcases h13 with ⟨q',h4,h5,h6,h14,hx⟩|⟨h4,hs,hq⟩
 ·have hth':thW A base γ' (base+j)=some (.inr q'):=A7j hb0 hj h4 h5
  exact .on γ' (.inr q') noView g' w' es (by rw [hbq];exact h1) (ss_of D h2 h3 hag hS hd h7 h8 h9 h10 (fun e he=>evS_bk h7 hBlt (h11 e he)) (fun σ hσ=>by rw [hth']at hσ;cases hσ;exact h14) (fun _=>h12) (fun _=>.inr (.inl hr)) (fun σ h=>absurd h hi0)) hth' (fun _=>rfl) hx
 ·have hth':thW A base γ' (base+j)=none:=th_off hb0 h4
  obtain⟨k,hk⟩:=hq
  exact .quit γ' g' w' es k hi0 h1 hs (ss_of D h2 h3 hag hS hd h7 h8 h9 h10 (fun e he=>evS_bk h7 hBlt (h11 e he)) (fun σ hσ=>by rw [hth']at hσ;cases hσ) (fun _=>h12) (fun _=>.inr (.inl hr)) (fun σ h=>absurd h hi0)) hth' hk
theorem at_mn(D:Dist A)(hb0:0<base){q:Mn}(hrun:g.status = .running)(hoff:g.offers=none)
  (h:∀γ w,Ok A.J A.N A.keep γ→γ.mn=q→(shW A γ).Agree w→((q = .w3∧γ.sm=0)→stepG P true g w = .go {g with status:=.blocked } w #[])∧(¬(q = .w3∧γ.sm=0)→∃q' γ' B o g' w' es,stepG P true g w = .go g' w' es∧Tr A.J A.N A.keep base γ 0 γ'∧γ'.st=γ.st∧γ'.mn=q'∧(B=A.Mu∨B=A.Wg∨B=A.Cn)∧
   OnB B o w w'∧shW A γ' B=some (true,o)∧(∀b',b'≠B→shW A γ' b'=shW A γ b')∧(∀e∈es,EvS (proto A base) 0 w.heap.size e)∧deafBehind (dfM q) es=dfM q'∧(q' = .fin→es=#[mkE (.acquire ⟨A.Wg,0,none⟩)]∧dfM q=0)∧X 0 (.inl q') v g')) :
  AtF P (proto A base) K X 0 (.inl q) v g:=by
 refine⟨hrun,hoff,fun e=>(by cases e),fun γ w O hth hag hS hd hcalm=>?_⟩
 have hm:γ.mn=q:=by
  have hth:thW A base γ 0=some (.inl q):=hth
  rw [A4f]at hth;simpa using hth
 obtain⟨k1,k2⟩:=h γ w O.1 hm hS
 have hiff:blkW A base γ 0↔(q = .w3∧γ.sm=0):=by
  constructor
  ·rintro(⟨_,h1,h2⟩|⟨j',e1,_,⟨_,_,_,e3⟩,_⟩)
   ·exact⟨hm ▸ h1,h2⟩
   ·omega
  ·rintro⟨rfl,h2⟩
   exact .inl ⟨Z,hm,h2⟩
 refine⟨fun hbl=>k1 (hiff.1 hbl),fun hbl=>?_⟩
 obtain⟨q',γ',B,o,g',w',es,h1,h2,h3,h4,h7,h8,h9,h10,h11,h12,h14,hx⟩:=k2 (fun e=>hbl (hiff.2 e))
 have hth':thW A base γ' 0=some (.inl q'):=by rw [A4f,h4]
 exact .on γ' (.inl q') v g' w' es h1 (ss_of D h2 h3 hag hS hd h7 h8 h9 h10 h11 (fun σ hσ=>by rw [hth']at hσ;cases hσ;exact h12) (fun h=>(by cases h)) (fun h=>absurd rfl h) (fun σ _ hσ ha=>by
  rw [hth']at hσ;cases hσ
  refine .inr (h14 ?_)
  revert ha
  show(match (Sum.inl q':Mn ⊕ Wk)with | .inl .fin=>true|_=>false)=true→_
  cases q'<;>simp)) hth' (fun h=>(by cases h)) hx
end
theorem wgV_inj{v v':Nat}(h:wgV v 0=wgV v' 0):v=v':=by simp only [wgV]at h;omega
theorem onWg0{A:Par}{w:World}{v wt sm v' wt':Nat}(h:w.heap[A.Wg]?=some (wgB A.tW v wt sm)):OnB A.Wg (wgB A.tW v' wt' sm) w (w.setCell ⟨A.Wg,0,none⟩ (.int .u64 (wgV v' wt'))):=OnB.set (off:=0) (.int .u64 (wgV v' wt')) h
theorem onWg1{A:Par}{w:World}{v wt sm sm':Nat}(h:w.heap[A.Wg]?=some (wgB A.tW v wt sm)):OnB A.Wg (wgB A.tW v wt sm') w (w.setCell ⟨A.Wg,1,none⟩ (.int .u32 sm')):=OnB.set (off:=1) (.int .u32 sm') h
section
variable{P:Program}{A:Par}{base:Nat}{K:View→Goroutine→Prop}{n j:Nat}{N:Nat}{b:Frame}{cs:List Frame}{ds:List Deferred}{ρ:Regs}{v:View}{k:List Item}{ops:Array Oper}{i:Nat}{rest:List Nat}{d:Nat}{op:Op}{ty:TypeId}{pos:String}{af:Array Edge}{gu:Option (Nat×Bool)}
variable{f:FuncId}{fn:Func}{aS:Array Operand}{ats:Array TypeId}{o1 o2 o3:Operand}{γ:WS}
abbrev AtR(P:Program)(A:Par)(base:Nat)(K:View→Goroutine→Prop)(n j:Nat)(q:Wk):Goroutine→Prop:=AtF P (proto A base) K (Job P (proto A base) K n) (base+j) (.inr q) noView
theorem B1z{q:Wk}(hr:relW q=true):Sil P false (Job P (proto A base) K n (base+j) (.inr q) noView):=⟨fun {g g'} hs h r=>by
 cases n with
 | zero=>trivial
 | succ m=>
  rcases r with ⟨h1,_⟩|⟨h1,h2,h3⟩
  ·rw [show(proto A base).rel (.inr q)=relW q from Z,hr]at h1;cases h1
  ·exact .inr ⟨h1,h2,.step hs h h3⟩⟩
theorem jr_run{q:Wk}{its:List Item}(hr:relW q=true)(h:∀m,n=m+1→XG (MRun P (AtR P A base K m j q)) N b its cs ds ρ):JX P A base K n j q N b its cs ds ρ noView:=fun a hf=>by
 cases n with
 | zero=>trivial
 | succ m=>exact .inr ⟨hr,rfl,h m rfl a hf⟩
theorem A8z{w:World}(h:w.heap[A.Wg]?=some (wgB A.tW γ.v γ.wt γ.sm)):A.Wg<w.heap.size:=(Array.getElem?_eq_some_iff.1 h).1
theorem v_le(O:Ok A.J A.N A.keep γ):γ.v≤201:=by
  have h1:=O.cnt
  have h2:Sw A.J γ.ph A6s≤A.J:=by
    have:∀n,sumTo n (fun a=>A6s (γ.ph a))≤n:=fun n=>by
      induction n with
      | zero=>exact Nat.le_refl _
      | succ n ih => simp only [sumTo];have:A6s (γ.ph n)≤1:=by cases γ.ph n<;>simp [A6s]
                     omega
    exact this A.J
  have h3:pend γ.mn≤1:=by cases γ.mn<;>simp [pend]
  have:=A.J2
  omega
theorem wt_le(O:Ok A.J A.N A.keep γ):γ.wt≤1:=by
 cases h:isQ γ.mn with
 | true=>rcases O.wq h with ⟨h1,_⟩|⟨h1,_⟩<;>omega
 | false=>have:=(O.wn h).1;omega
theorem at_d34(O:Ok A.J A.N A.keep γ)(hj:j<A.J)(h:d34 (γ.ph j)=1):γ.v=0∧γ.wt=1:=by
 have h1:=le_Sw (ph:=γ.ph) hj d34
 cases hq:isQ γ.mn with
 | true=>
  rcases O.wq hq with ⟨a,b,c,e⟩|⟨a,b,c,e⟩
  ·refine⟨?_,a⟩
   apply Classical.byContradiction
   intro hv
   have:=e hv
   omega
  ·omega
 | false=>have:=(O.wn hq).2.1;omega
theorem at_d5c(O:Ok A.J A.N A.keep γ)(hj:j<A.J)(h:d5c (γ.ph j)=1):γ.v=0∧γ.wt=0∧γ.sm=0:=by
 have h1:=le_Sw (ph:=γ.ph) hj d5c
 cases hq:isQ γ.mn with
 | true=>
  rcases O.wq hq with ⟨a,b,c,e⟩|⟨a,b,c,e⟩
  ·omega
  ·exact⟨b,a,oM⟩
 | false=>have:=(O.wn hq).2.2;omega
theorem hc_0{q q':Wk}(hj:j<A.J)(h:γ.ph j=q)(h1:hc q=0)(h2:hc q'=0):Sw A.J (upd γ.ph j q') hc=0↔Sw A.J γ.ph hc=0:=by
 have:=A1s (ph:=γ.ph) hj q' hc
 rw [h,h1,h2]at this
 omega
theorem s_d0(D:Dist A)(hb0:0<base)(hj:j<A.J)(hk:b.kind≠.early)(hr:b.roundOf=none)(ho:ops[i]?=some ⟨some d,.call {callee:=.value (.func f),args:=#[o1],argTypes:=ats },ty,pos,af,gu⟩)
  (hw:A0x ops gu ρ=some true)(hn:Nat.blt d N=true)(E:Ext P f fn (Extern.Race.marked .releaseMerge))(h1:ρ.val o1=some (.pointer (some ⟨A.Wg,0,none⟩)))
  (h:JX P A base K n j .d1 N b (.inRegion ops rest::k) cs ds ((d,.tuple #[])::ρ) noView) :
  XF P false (proto A base).Wd (AtW P A base K n j .d0) N b (.inRegion ops (i::rest)::k) cs ds ρ v:=fun c hf=>by
 refine .stop (Le.refl v) ⟨Z,Z,fun e=>(by cases e),fun γ w O hth hag hS hd hcalm=>?_⟩
 obtain⟨hph,_⟩:=ph_of hb0 (show thW A base γ (base+j)=some (.inr .d0)from hth)
 have hi0:base+j≠0:=oM
 have hbq:(base+j==0)=false:=by simpa using hi0
 rw [hbq]
 have hwg:w.heap[A.Wg]?=some (wgB A.tW γ.v γ.wt γ.sm):=hS A.Wg true _ (B1f D)
 refine⟨fun hbl=>?_,fun _=>?_⟩
 ·rcases hbl with ⟨h0,_⟩|⟨j',e1,e2,⟨i',L',sv,e3⟩,e4⟩
  ·omega
  ·obtain rfl:j=j':=oM
   rw [hph]at e3;cases e3
 have e1:((#[o1]:Array Operand).map c.eval)[0]?=some (.pointer (some ⟨A.Wg,0,none⟩)):=by simp [A0o hf _ _ h1]
 have A5e:stepG P false (G (b.on c (.inRegion ops (i::rest)::k)) cs) w = .go (G (b.on (c.put (some d) (.tuple #[])) (.inRegion ops rest::k)) cs) w #[mkE (.releaseMerge ⟨A.Wg,0,none⟩)]:=by
  rw [A1i hr,A1i hr]
  exact stepG_markAt .releaseMerge (fun ad g e=>by cases e) ho (A0q hf (A0p hw)) hk rfl E.hf E.hname E.hb E.hn E.he e1
 have hth':thW A base {γ with ph:=upd γ.ph j .d1 } (base+j)=some (.inr .d1):=A7j hb0 hj (by simp only [upd_same]) sM
 refine .on {γ with ph:=upd γ.ph j .d1 } (.inr .d1) noView _ w _ (by rw [hbq];exact A5e) (SS.none (ss_of D (.d0 hj hph) Z hag hS hd (.inr (.inl Z)) (.same hwg) (B1f D) (A7n D (hc_0 hj hph Z Z) Z (.inr (.inl ⟨Z,Z,Z,Z⟩))) ?_ ?_ (fun h=>(by cases h)) (fun _=>.inr (.inr ⟨rfl,rfl⟩)) (fun σ h=>absurd h hi0))) hth' (fun _=>rfl) (h _ (A1h hf (show A3j N (some d)=true from hn)))
 ·intro e he
  simp only [List.mem_toArray,List.mem_singleton]at he
  subst he
  exact A8z hwg
 ·intro σ hσ;rw [hth']at hσ;cases hσ;simp [deafBehind,dfW]
theorem s_rl(D:Dist A)(hb0:0<base)(hj:j<A.J){q:Wk}(hr:relW q=true)(hn:Nat.blt d N=true)(hwk:wakesW q=true→∀c,mayWake P (G (b.on c (.inRegion ops (i::rest)::k)) cs)=true)
  (h:∀γ w c,Ok A.J A.N A.keep γ→γ.ph j=q→w.heap[A.Wg]?=some (wgB A.tW γ.v γ.wt γ.sm)→Fits N ⟨ds,ρ,[]⟩ c→∃y γ' w' es,stepG P false (G (b.on c (.inRegion ops (i::rest)::k)) cs) w = .go (G (b.on (c.put (some d) y) (.inRegion ops rest::k)) cs) w' es∧
   Tr A.J A.N A.keep base γ (base+j) γ'∧γ'.st=γ.st∧(Sw A.J γ'.ph hc=0↔Sw A.J γ.ph hc=0)∧γ'.L=γ.L∧γ'.x=γ.x∧γ'.m=γ.m∧γ'.c=γ.c∧OnB A.Wg (wgB A.tW γ'.v γ'.wt γ'.sm) w w'∧(∀e∈es,BkE A.Wg e)∧MuteD (dfW q) es∧
   ((∃q',γ'.ph j=q'∧q'≠.off∧relW q'=true∧deafBehind (dfW q) es=dfW q'∧JX P A base K n j q' N b (.inRegion ops rest::k) cs ds ((d,y)::ρ) noView)∨(γ'.ph j = .off∧XG (B1w P (deafBehind (dfW q) es)) N b (.inRegion ops rest::k) cs ds ((d,y)::ρ)))) :
  XG (MRun P (AtR P A base K n j q)) N b (.inRegion ops (i::rest)::k) cs ds ρ:=fun c hf=>by
 refine .stop (at_rl D hb0 hj Z Z hr (fun e=>hwk e c) fun γ w O hph hS=>?_)
 have hwg:w.heap[A.Wg]?=some (wgB A.tW γ.v γ.wt γ.sm):=hS A.Wg true _ (B1f D)
 obtain⟨y,γ',w',es,h1,h2,h3,h4,h5,h6,h7,h8,h9,h10,h11,h12⟩:=h γ w c O hph hwg hf
 refine⟨γ',A.Wg,_,_,w',es,h1,h2,h3,.inr (.inl Z),h9,B1f D,A7n D h4 h5 (.inr (.inl ⟨Z,h6,h7,h8⟩)),h10,h11,?_⟩
 rcases h12 with ⟨q',a1,a2,a3,a4,a5⟩|⟨a1,a2⟩
 ·exact .inl ⟨q',a1,a2,a3,a4,a5 _ (A1h hf (show A3j N (some d)=true from hn))⟩
 ·exact .inr ⟨a1,Z,a2 _ (A1h hf (show A3j N (some d)=true from hn))⟩
theorem s_d1(D:Dist A)(hb0:0<base)(hj:j<A.J)(hk:b.kind≠.early)(hr:b.roundOf=none)(ho:ops[i]?=some ⟨some d,.call {callee:=.value (.func f),args:=aS,argTypes:=ats },ty,pos,af,gu⟩)
  (hw:A0x ops gu ρ=some true)(hn:Nat.blt d N=true)(E:Ext P f fn (fun _=>do mark .disable;pure Extern.Race.none_))
  (h:JX P A base K n j .d2 N b (.inRegion ops rest::k) cs ds ((d,.tuple #[])::ρ) noView) :
  XG (MRun P (AtR P A base K n j .d1)) N b (.inRegion ops (i::rest)::k) cs ds ρ:=
 s_rl D hb0 hj rfl hn (fun e=>by cases e) fun γ w c O hph hwg hf=>
  ⟨.tuple #[],{γ with ph:=upd γ.ph j .d2 },w,#[mkE .disable],by
   rw [A1i hr,A1i hr]
   exact stepG_mark0 .disable (fun g e=>by cases e) ho (A0q hf (A0p hw)) hk rfl E.hf E.hname E.hb E.hn E.he,.d1 hj hph,rfl,hc_0 hj hph rfl rfl,rfl,rfl,rfl,rfl,.same hwg,bk_dis,mute_dis,
   .inl ⟨.d2,upd_same _ _ _,by simp,rfl,by rw [deaf_dis];rfl,h⟩⟩
theorem s_d2(D:Dist A)(hb0:0<base)(hj:j<A.J)(hk:b.kind≠.early)(hr:b.roundOf=none)(ho:ops[i]?=some ⟨some d,.call {callee:=.value (.func f),args:=#[o1,o2],argTypes:=ats },ty,pos,af,gu⟩)
  (hw:A0x ops gu ρ=some true)(hn:Nat.blt d N=true)(E:Ext P f fn (Extern.Atomic.update (Op.intArith .add) .u64 true))(h1:ρ.val o1=some (.pointer (some ⟨A.Wg,0,none⟩)))(h2:ρ.val o2=some (.int .u64 18446744069414584320))
  (hq:∀v wt:Nat,v≤201→wt≤1→(v≠0∨wt=0)→XG (B1w P 1) N b (.inRegion ops rest::k) cs ds ((d,.int .u64 (wgV v wt))::ρ))
  (hL:JX P A base K n j .d3 N b (.inRegion ops rest::k) cs ds ((d,.int .u64 (wgV 0 1))::ρ) noView) :
  XG (MRun P (AtR P A base K n j .d2)) N b (.inRegion ops (i::rest)::k) cs ds ρ:=
 s_rl D hb0 hj rfl hn (fun e=>by cases e) fun γ w c O hph hwg hf=>by
  have hv:∃v',γ.v=v'+1:=by
   have h1:=le_Sw (ph:=γ.ph) hj A6s
   have h2:=O.cnt
   rw [hph]at h1
   simp only [A6s]at h1
   exact⟨γ.v-1,oM⟩
  obtain⟨v',hv'⟩:=hv
  have hvl:=v_le O
  have hwl:=wt_le O
  have hwr:IntKind.u64.wrap (wgV γ.v γ.wt+18446744069414584320)=wgV v' γ.wt:=by
   rw [wrap_u64];simp only [wgV];omega
  have hst:=stepG_add_atomic (P:=P) (main:=false) (b:=b) (cs:=cs) (kk:=k) (rest:=rest) (w:=w) ho (A0q hf (A0p hw)) hk Z E.hf E.hname E.hb E.hn .u64 E.he (A0o hf _ _ h1) (A0o hf _ _ h2) (v:=wgV γ.v γ.wt) (by rw [A3n hwg];rfl) (A5d hwg)
  rw [hwr]at hst
  by_cases hc:v'≠0∨γ.wt=0
  ·exact⟨_,{γ with ph:=upd γ.ph j .off,v:=v' },_,_,by rw [A1i hr,A1i hr];exact hst,.d2 hj hph hv' hc,Z,hc_0 hj hph Z Z,Z,Z,Z,Z,onWg0 hwg,bk_rw,mute_rw,.inr ⟨upd_same _ _ _,by rw [A8a];exact hq v' γ.wt oM hwl hc⟩⟩
  ·simp only [not_or,Classical.not_not]at hc
   obtain⟨rfl,hc2⟩:=hc
   have hwt:γ.wt=1:=oM
   refine⟨_,{γ with ph:=upd γ.ph j .d3,v:=0 },_,_,by rw [A1i hr,A1i hr];exact hst,.d2L hj hph hv' hc2,Z,hc_0 hj hph Z Z,Z,Z,Z,Z,onWg0 hwg,bk_rw,mute_rw,.inl ⟨.d3,upd_same _ _ _,by simp,Z,by rw [A8a];rfl,?_⟩⟩
   rw [hwt];exact hL
theorem s_d3(D:Dist A)(hb0:0<base)(hj:j<A.J)(hk:b.kind≠.early)(hr:b.roundOf=none)(ho:ops[i]?=some ⟨some d,.call {callee:=.value (.func f),args:=#[o1],argTypes:=ats },ty,pos,af,gu⟩)
  (hw:A0x ops gu ρ=some true)(hn:Nat.blt d N=true)(E:Ext P f fn (Extern.Atomic.loadT (.int .u64)))(h1:ρ.val o1=some (.pointer (some ⟨A.Wg,0,none⟩)))
  (h:JX P A base K n j .d4 N b (.inRegion ops rest::k) cs ds ((d,.int .u64 (wgV 0 1))::ρ) noView) :
  XG (MRun P (AtR P A base K n j .d3)) N b (.inRegion ops (i::rest)::k) cs ds ρ:=
 s_rl D hb0 hj rfl hn (fun e=>by cases e) fun γ w c O hph hwg hf=>by
  obtain⟨e1,e2⟩:=at_d34 O hj (by rw [hph];rfl)
  have hst:=stepG_load_atomic (P:=P) (main:=false) (b:=b) (cs:=cs) (kk:=k) (rest:=rest) (w:=w) ho (A0q hf (A0p hw)) hk Z E.hf E.hname E.hb E.hn .u64 E.he (A0o hf _ _ h1) (v:=wgV γ.v γ.wt) (by rw [A3n hwg];rfl)
  rw [e1,e2]at hst
  exact⟨_,{γ with ph:=upd γ.ph j .d4 },_,_,by rw [A1i hr,A1i hr];exact hst,.d3 hj hph,Z,hc_0 hj hph Z Z,Z,Z,Z,Z,.same hwg,bk_r,mute_one,.inl ⟨.d4,upd_same _ _ _,by simp,Z,by rw [B3s];rfl,h⟩⟩
theorem s_d4(D:Dist A)(hb0:0<base)(hj:j<A.J)(hk:b.kind≠.early)(hr:b.roundOf=none)(ho:ops[i]?=some ⟨some d,.call {callee:=.value (.func f),args:=#[o1,o2],argTypes:=ats },ty,pos,af,gu⟩)
  (hw:A0x ops gu ρ=some true)(hn:Nat.blt d N=true)(E:Ext P f fn Extern.Atomic.storeT)(h1:ρ.val o1=some (.pointer (some ⟨A.Wg,0,none⟩)))(h2:ρ.val o2=some (.int .u64 0))
  (h:JX P A base K n j .d5 N b (.inRegion ops rest::k) cs ds ((d,.tuple #[])::ρ) noView) :
  XG (MRun P (AtR P A base K n j .d4)) N b (.inRegion ops (i::rest)::k) cs ds ρ:=
 s_rl D hb0 hj rfl hn (fun e=>by cases e) fun γ w c O hph hwg hf=>by
  obtain⟨e1,e2⟩:=at_d34 O hj (by rw [hph];rfl)
  have hst:=stepG_store_atomic (P:=P) (main:=false) (b:=b) (cs:=cs) (kk:=k) (rest:=rest) (w:=w) ho (A0q hf (A0p hw)) hk Z E.hf E.hname E.hb E.hn E.he (A0o hf _ _ h1) (A0o hf _ _ h2) (u:=.int .u64 (wgV γ.v γ.wt)) (by rw [A3n hwg];rfl) (A5d hwg)
  refine⟨_,{γ with ph:=upd γ.ph j .d5,wt:=0 },_,_,by rw [A1i hr,A1i hr];exact hst,.d4 hj hph,Z,hc_0 hj hph Z Z,Z,Z,Z,Z,?_,bk_w,mute_one,.inl ⟨.d5,upd_same _ _ _,by simp,Z,by rw [B3s];rfl,h⟩⟩
  simp only [e1]
  exact onWg0 (v':=0) (wt':=0) hwg
theorem s_d5{as':List Operand}(D:Dist A)(hb0:0<base)(hj:j<A.J)(hk:b.kind≠.early)(hr:b.roundOf=none)(ho:ops[i]?=some ⟨some d,.call {callee:=.value (.func f),args:=aS,argTypes:=ats },ty,pos,af,gu⟩)(has:aS.toList=o1::as')
  (hw:A0x ops gu ρ=some true)(hn:Nat.blt d N=true)(E:Ext P f fn Extern.Sync.semrelease)(h1:ρ.val o1=some (.pointer (some ⟨A.Wg,1,none⟩)))
  (h:XG (B1w P 1) N b (.inRegion ops rest::k) cs ds ((d,.tuple #[])::ρ)) :
  XG (MRun P (AtR P A base K n j .d5)) N b (.inRegion ops (i::rest)::k) cs ds ρ:=
 s_rl D hb0 hj rfl hn (fun _ c=>mayWake_on ho rfl E.hf E.hb) fun γ w c O hph hwg hf=>by
  obtain⟨e1,e2,e3⟩:=at_d5c O hj (by rw [hph];rfl)
  have ea:(aS.map c.eval)[0]?=some (.pointer (some ⟨A.Wg,1,none⟩)):=by
   have:aS=(o1::as').toArray:=by rw [←has]
   subst this
   have:=A0o hf _ _ h1
   simp [this]
  have hwr:IntKind.u32.wrap ((γ.sm:Int)+1)=((γ.sm+1:Nat):Int):=by rw [wrap_u32,e3];rfl
  have hst:=stepG_semrelease (P:=P) (main:=false) (b:=b) (cs:=cs) (kk:=k) (rest:=rest) (w:=w) (n:=(γ.sm:Int)) ho (A0q hf (A0p hw)) hk Z E.hf E.hname E.hb E.hn E.he ea (by rw [A3n hwg];rfl) (A5d hwg)
  rw [hwr]at hst
  exact⟨_,{γ with ph:=upd γ.ph j .off,sm:=γ.sm+1 },_,_,by rw [A1i hr,A1i hr];exact hst,.d5 hj hph,Z,hc_0 hj hph Z Z,Z,Z,Z,Z,onWg1 hwg,bk_sem,mute_sem,.inr ⟨upd_same _ _ _,by rw [B2d];exact h⟩⟩
theorem B2m(hr:b.roundOf=none)(E:Ext P f fn (fun _=>do mark .enable;pure Extern.Race.none_)){args:Array Value}{dd:Nat}(h:XB (B1w P dd) N b k cs ds ρ):XB (B1w P (dd+1)) N b k cs (dcall f args::ds) ρ:=fun a hf=>by
 obtain⟨q,hq⟩:=h ⟨a.tmps,ds⟩ ⟨hf.size,rfl,hf.get⟩
 refine⟨q+1,.inr ⟨Z,G (b.out ⟨a.tmps,ds⟩ k) cs,#[mkE .enable],?_,fun w=>?_,?_⟩⟩
 ·intro e he;simp at he;subst he;rfl
 ·have:=stepG_unwind_entry (P:=P) (main:=false) (b:=b) (a:=a) (cs:=cs) (w:=w) (todo:=k) (ds:=ds) (args:=args) hf.defers E.hf E.hname E.hb E.hn E.he (v:=.tuple #[]) (w':=w) (evs:=#[mkE .enable]) Z Z (by
   intro e he;simp at he;subst he;exact⟨rfl,fun g h=>by cases h⟩)
  simp only [Frame.out,A1i hr]
  exact this
 ·rw [deaf_en];exact hq
end
end Go.Pal.Mu
end
section
namespace Go.Pal.Mu
open Go Go.Conc Go.Pal
def chkG(f:Nat→Nat→Bool):Bool:=(List.range 256).all fun v=>f v 0&&f v 1
theorem A8p{f:Nat→Nat→Bool}(h:chkG f=true)(v wt:Nat)(hv:v<256)(hw:wt≤1):f v wt=true:=by
 have:=List.all_eq_true.1 h v (List.mem_range.2 hv)
 simp only [Bool.and_eq_true]at this
 match wt,hw with
 | 0,_=>exact this.1
 | 1,_=>exact this.2
abbrev andU(a b:Int):Int:=IntKind.u64.wrap (BitVec.ofInt IntKind.u64.bits a &&& BitVec.ofInt IntKind.u64.bits b).toNat
abbrev shrU(a b:Int):Int:=a.fdiv (2 ^ (min b.toNat IntKind.u64.bits))
section
variable{v wt:Nat}(hv:v<256)(hw:wt≤1)
include hv hw
theorem g_bub:(andU (wgV v wt) 2147483648 != 0)=false:=by
 have:=A8p (f:=fun v wt=>(andU (wgV v wt) 2147483648 != 0)==false) kR v wt hv hw
 exact eq_of_beq this
theorem g_v:IntKind.i32.wrap (shrU (wgV v wt) 32)=v:=by
 have:=A8p (f:=fun v wt=>IntKind.i32.wrap (shrU (wgV v wt) 32)==(v:Int)) kR v wt hv hw
 exact eq_of_beq this
theorem g_w:IntKind.u32.wrap (andU (wgV v wt) 2147483647)=wt:=by
 have:=A8p (f:=fun v wt=>IntKind.u32.wrap (andU (wgV v wt) 2147483647)==(wt:Int)) kR v wt hv hw
 exact eq_of_beq this
theorem g_p1:IntKind.u64.wrap (wgV v wt+1)=wgV v (wt+1):=by
 have:=A8p (f:=fun v wt=>IntKind.u64.wrap (wgV v wt+1)==wgV v (wt+1)) kR v wt hv hw
 exact eq_of_beq this
end
end Go.Pal.Mu
end
