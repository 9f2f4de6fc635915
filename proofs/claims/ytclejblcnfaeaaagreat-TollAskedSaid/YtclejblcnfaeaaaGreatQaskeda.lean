/- 'palfreylaw12.TollAsked' returns true for every list of numbers, whatever the goroutines of its calls do, and the list reads as it did, as its row says it. No condition. -/
import Derived.Conc.Holds
import Derived.Conc.LeavingOf
import Derived.Handed
import Derived.JoinedOf
import Derived.OpenShut
import Derived.ProofKit
import Derived.WalkKit
import Derived.Test.YtclejblcnfaeaaaGreatPbq
import Derived.Test.YtclejblcnfaeaaaGreatPbr
set_option linter.all false
section
namespace Go.Proofs.YtclejblcnfaeaaaGreat
open Go Go.Pal Go.Proofs.Tryz
theorem bod17:A0i Tryz.prog 17:=⟨_,_,func17,Y,by decide⟩
theorem bod18:A0i Tryz.prog 18:=⟨_,_,func18,Y,by decide⟩
theorem bod19:A0i Tryz.prog 19:=⟨_,_,func19,Y,by decide⟩
theorem bod44:A0i Tryz.prog 44:=⟨_,_,func44,Y,by decide⟩
theorem bod48:A0i Tryz.prog 48:=⟨_,_,func48,Y,by decide⟩
end Go.Proofs.YtclejblcnfaeaaaGreat
end
section
namespace Go.Pal
open Go Go.Conc View
section
variable{P:Program}{mn:Who}(T:Tab P){rd:Option Nat}{n:Nat}{Q:Exit→St→View→Prop}{ds:List Deferred}{ρ:Regs}{β:A0f}{v:View}
 {ops:Array Oper}{i k:Nat}{S:List Rec}{done:List Nat}{ms:List Nat}{v0:View}{todo:List Nat}
def twoB(ops:Array Oper)(ms done:List Nat)(i k:Nat):Bool:=(Region.ready .any ops (mkL ops done)).contains i&&(Region.ready .any ops (mkL ops done)).all (fun j=>Nat.beq j i||Nat.beq j k)&&ms.contains i&&ms.contains k
theorem S_two(k:Nat)(hB:twoB ops ms done i k=true)(h1:XOp P mn (some 4294967295) n ops i (fun _ _ _=>False) (fun σ' u=>v.Le u∧KeepS ops i S σ'.β∧XS P mn n ops ms v0 Q (k::todo) S (i::done) σ' u) ⟨ds,ρ,β⟩ v)
  (h2:XOp P mn (some 4294967295) n ops k (fun _ _ _=>False) (fun σ' u=>v.Le u∧KeepS ops k S σ'.β∧XS P mn n ops ms v0 Q (i::todo) S (k::done) σ' u) ⟨ds,ρ,β⟩ v):XS P mn n ops ms v0 Q (i::k::todo) S done ⟨ds,ρ,β⟩ v:=fun a hf hb hv hc=>by
 simp only [twoB,Bool.and_eq_true]at hB
 obtain⟨⟨⟨hb1,hb2⟩,hb3⟩,hb4⟩:=hB
 have hri:i∈Region.ready .any ops (mkL ops done):=by simpa using hb1
 show AnyS P mn ops ms v0 (fun a u=>Post n Q .normal a u) (todo.length+1+1) (SV S) (mkL ops done) a (v.union (A0c β))
 refine⟨fun e=>(by rw [e]at hri;cases hri),fun j hj=>?_⟩
 have hr:=hj
 have hx:ms.contains j=true∧XOp P mn (some 4294967295) n ops j (fun _ _ _=>False) (fun σ' u=>v.Le u∧KeepS ops j S σ'.β∧XS P mn n ops ms v0 Q (k::todo) S (j::done) σ' u) ⟨ds,ρ,β⟩ v:=by
  have hji:=List.all_eq_true.1 hb2 j hj
  rw [Bool.or_eq_true]at hji
  rcases hji with hji|hji
  ·have:=Nat.eq_of_beq_eq_true hji;subst this;exact⟨hb3,h1⟩
  ·have:=Nat.eq_of_beq_eq_true hji;subst this;exact⟨hb4,h2⟩
 obtain⟨h3,h⟩:=hx
 obtain⟨o,ho,hw,hd,hs⟩:=h a hf hb
 unfold OpS
 simp only [ho,hw,if_true]
 have key:∀{a' w},KP n (fun σ' u=>v.Le u∧KeepS ops j S σ'.β∧XS P mn n ops ms v0 Q (k::todo) S (j::done) σ' u) a' w→Keeps ops ms v0 (SV S) j (v.union (A0c β)) w∧AnyS P mn ops ms v0 (fun a u=>Post n Q .normal a u) (todo.length+1) (SV S) ((mkL ops done).setIfInBounds j true) a' w:=by
  rintro a' w ⟨σ',u,⟨hl,hk,hx⟩,hf',hb',hw'⟩
  refine⟨?_,?_⟩
  ·unfold Keeps
   rw [if_pos h3]
   refine⟨((hv.trans hl).trans (A0e _ _)).trans hw',fun p hp hdp=>?_⟩
   obtain⟨b,c,t,he,hin⟩:=B0o hk p hp hdp
   rw [he]
   intro j' x e
   simp only [A0c]at e
   split at e
   ·rename_i hj';subst hj';cases e;exact hw' _ _ (A0p hb' hin)
   ·cases e
  ·exact A5k (K:=fun a u=>Post n Q .normal a u) (fun a u v hl hp=>post_le hl hp) _ _ _ _ _ _ hw' (hx _ hf' hb' (hv.trans hl) (A4z hc hr A9f))
 refine A2c _ (fun nx w hK=>?_) (fun x w hE=>?_) hs
 ·cases nx with
  | value x=>exact key hK
  | skip=>exact key hK
  | defer d=>exact absurd hK.1 sM
  | enter f args=>exact CallsX.mono hK fun e w' hR=>⟨w',Le.refl _,by
    cases e with
    | ret x=>exact key hR
    | pan ch=>obtain⟨_,_,hq,_⟩:=hR;exact hq⟩
  | round l f tmps assign body=>exact absurd rfl hK.1
  | _=>exact hK.elim
 ·obtain⟨_,_,hq,_⟩:=hE;exact hq
end
end Go.Pal
end
section
namespace Go.Pal.To
open Go
theorem laidR_void{P:Int}{d:List Int}{a b:List MA}(h:LOk P d a b)(hb:A1q a b d=[]):joinR P d a b=(11,[],[])∧B2z P d a b=(0,0,11):=by
 have hl:A4o P d a b true=(11,0,[]):=by
  unfold A4o
  rw [if_neg (by simpa using layE_ok.2 h),if_neg dM,if_pos hb,bestN_nil hb]
 constructor
 ·unfold joinR;rw [hl];rfl
 ·unfold B2z;rw [hl];rfl
end Go.Pal.To
end
section
namespace Go.Proofs.YtclejblcnfaeaaaGreat
open Go Go.Pal Go.Pal.To Go.Conc View
open Go.Proofs.Tryz
set_option maxHeartbeats 4000000
set_option maxRecDepth 20000
def B3q(l:List MA):List MA:=l.filter fun x=>x.k==0
theorem ext_at{c:Array Value}{o n j:Nat}{l:List Value}(h:c.extract o (o+n)=l.toArray)(hs:o+n≤c.size)(hj:j<n):c[o+j]?=l[j]?:=by
 have:=congrArg (fun z:Array Value=>z[j]?) h
 simp only [Array.getElem?_extract,List.getElem?_toArray]at this
 rw [←this,if_pos oM]
structure DeS where
 i:Nat
 sg:A0f
 a:Option Addr
 cap:Nat
section
variable{mn:Who}{v:View}
theorem deals_x{aA:Option Addr}{cA:Nat}{l:List MA}(ha:ActsAt v aA l)(hl:l.length<2^20) :
  CallsB prog mn 48 #[.slice aA l.length cA] (RetB fun r β'=>∃a c,r = .slice a (B3q l).length c∧OwnS 26 4 β' a (B3q l).length c ((B3q l).map MA.cells).flatten) [] v:=by
 refine A0d tab func48 Y nB (args:=[_]) ?_
 repeat (first|refine st ?_|refine qb fun bx=>?_)
 refine A1k (α:=DeS) (fun z=>⟨[],[(4,.int .i64 z.i),(0,.slice aA l.length cA),(3,.slice z.a (B3q (l.take z.i)).length z.cap)],z.sg⟩)
  (fun z u=>u=v∧z.i≤l.length∧OwnS 26 4 z.sg z.a (B3q (l.take z.i)).length z.cap ((B3q (l.take z.i)).map MA.cells).flatten) (fun z=>l.length-z.i) ⟨0,[],none,0⟩
  ⟨Y,rg,cntL⟩ (Le.refl _) ⟨Y,Nat.zero_le _,.nil⟩ ?_
 rintro⟨i,sg,a,cap⟩ u ⟨rfl,hi,hS⟩
 simp only at hi hS
 dsimp only
 repeat (first|refine st ?_|refine qb fun bx=>?_)
 refine A0y Y (fun h=>?_) (fun h=>?_)
 ·replace h:=fa h
  have hlt:i<l.length:=oM
  have hdl:(B3q (l.take i)).length≤i:=by
   have:=List.length_filter_le (fun x:MA=>x.k==0) (l.take i)
   rw [List.length_take]at this
   show(List.filter _ _).length≤i
   omega
  obtain⟨bb,off,p,c,e,f,rfl,hv,hc⟩:=ha.get hlt
  have hci:=hc i hlt
  have htk:B3q (l.take (i+1))=B3q (l.take i)++(if l[i].k==0 then [l[i]]else []):=by
   rw [List.take_succ_eq_append_getElem hlt]
   unfold B3q
   rw [List.filter_append]
   congr 1
   simp only [List.filter_cons,List.filter_nil]
  generalize l[i]=y at hci htk
  repeat (first|refine st ?_|refine qb fun bx=>?_)
  refine A4j tab i Y Y Y Y Y Y Y hlt ?_
  refine B3n tab Y Y Y ?_
  refine A1w tab Y Y Y hv (A0j tab Y Y Y (show c[off+i*4+0]?=some (intV y.k)from ext_at hci.2 hci.1 dM)) ?_
  repeat (first|refine st ?_|refine qb fun bx=>?_)
  refine A0y Y (fun h=>?_) (fun h=>?_)
  ·rw [if_pos h]at htk
   repeat (first|refine st ?_|refine qb fun bx=>?_)
   refine A4j tab i Y Y Y Y Y Y Y hlt ?_
   refine A1w tab Y Y Y hv (A1i tab Y Y Y hci) ?_
   repeat (first|refine st ?_|refine qb fun bx=>?_)
   refine Q_op fun ho=>A3i tab ho Y Y Y Y Y Y Y Y Y (fun b3 c3 hL=>?_)
   clear ho
   repeat (first|refine st ?_|refine qb fun bx=>?_)
   refine Q_op fun ho=>A2r tab (xs:=y.cells) sg [(b3,c3,26)] [] ho Y Y Y Y Y Y Y Y Y Y cntA hS
    (fun hb=>RowAt.own hb cntL hL) Y Y (by show(2*((B3q (l.take i)).length+1)+768)*32≤2^48;omega) oM (fun sg' a' cap' hS'=>?_)
   clear ho
   repeat (first|refine st ?_|refine qb fun bx=>?_)
   refine A0a ⟨⟨i+1,sg',a',cap'⟩,u,by simp only;omega,⟨Y,?_,cntL⟩,Le.refl _,Y,hlt,?_⟩
   ·rw [htk]
    simp only [List.length_append,List.length_singleton]
    exact rg
   ·rw [htk]
    simp only [List.map_append,List.map_cons,List.map_nil,List.flatten_append,List.flatten_cons,List.flatten_nil,List.append_nil,List.length_append,List.length_singleton]
    exact hS'
  ·rw [if_neg (by rw [h];decide),List.append_nil]at htk
   repeat (first|refine st ?_|refine qb fun bx=>?_)
   refine A0a ⟨⟨i+1,sg,a,cap⟩,u,by simp only;omega,⟨Y,?_,cntL⟩,Le.refl _,Y,hlt,?_⟩
   ·rw [htk]
    exact rg
   ·rw [htk];exact hS
 ·replace h:=fa h
  have hil:i=l.length:=oM
  subst hil
  rw [List.take_length]at hS⊢
  repeat (first|refine st ?_|refine qb fun bx=>?_)
  refine A0g tab sg (by exact .tmp rfl .nil) (Back.here cntL) ?_
  exact⟨a,cap,Y,hS⟩
end
end Go.Proofs.YtclejblcnfaeaaaGreat
end
section
namespace Go.Pal.To
open Go
def sales(l:List MA):List MA:=l.filter fun x=>x.k==0
theorem B3r{x:MA}{l:List MA}(h:x.k=0):sales (x::l)=x::sales l:=by
 unfold sales;rw [List.filter_cons_of_pos (by simpa using h)]
theorem B3s{x:MA}{l:List MA}(h:x.k≠0):sales (x::l)=sales l:=by
 unfold sales;rw [List.filter_cons_of_neg (by simpa using h)]
theorem refd_not{x:MA}{os:List Int}(h:x.k≠0):refd os x=false:=by simp [refd,h]
theorem doN_not{x:MA}{os:List Int}(h:x.k≠0):doN os x=os:=by simp [doN,sold,h]
theorem W.to_sales{a b:List MA}{os dk:List Int}{ms:List Nat}{bk:List MA}(h:W a b os ms bk dk):∃ms' bk',W (sales a) (sales b) os ms' bk' dk:=by
 induction h with
 | nil=>exact⟨[],[],.nil⟩
 | @step a b a' b' os dk m x ms bk h1 h2 h3 _ ih=>
  obtain⟨ms',bk',ih⟩:=ih
  by_cases hx:x.k=0
  ·rcases A8l h1 h2 with ⟨rfl,rfl,rfl⟩|⟨rfl,rfl,rfl⟩|⟨rfl,rfl,rfl⟩
   ·rw [B3r hx,B3r hx]
    exact⟨_,_,.step dM stepM_0 h3 ih⟩
   ·rw [B3r hx]
    exact⟨_,_,.step dM stepM_1 h3 ih⟩
   ·rw [B3r (l:=b') hx]
    exact⟨_,_,.step dM stepM_2 h3 ih⟩
  ·rw [doN_not hx]at ih
   rcases A8l h1 h2 with ⟨rfl,rfl,rfl⟩|⟨rfl,rfl,rfl⟩|⟨rfl,rfl,rfl⟩
   ·rw [B3s hx,B3s hx]
    exact⟨_,_,ih⟩
   ·rw [B3s hx]
    exact⟨_,_,ih⟩
   ·rw [B3s (l:=b') hx]
    exact⟨_,_,ih⟩
theorem W.of_sales:∀(n:Nat) {a b:List MA} {os dk:List Int} {ms:List Nat} {bk:List MA},a.length+b.length≤n→W (sales a) (sales b) os ms bk dk→∃ms' bk',W a b os ms' bk' dk
  | n,a,b,os,dk,ms,bk,hn,h=>by
    match n,hn with
    | 0,hn=>
      obtain rfl:a=[]:=List.length_eq_zero_iff.1 oM
      obtain rfl:b=[]:=List.length_eq_zero_iff.1 oM
      exact⟨_,_,h⟩
    | n+1,hn=>
      by_cases ha:∃x a',a=x::a'∧x.k≠0
      · obtain⟨x,a',rfl,hx⟩:=ha
        rw [B3s hx]at h
        obtain⟨ms',bk',h'⟩:=W.of_sales n (a:=a') (b:=b) (by simp only [List.length_cons]at hn;omega) h
        exact⟨_,_,.step (m:=1) dM stepM_1 (refd_not hx) (by rw [doN_not hx];exact h')⟩
      · by_cases hb:∃x b',b=x::b'∧x.k≠0
        · obtain⟨x,b',rfl,hx⟩:=hb
          rw [B3s hx]at h
          obtain⟨ms',bk',h'⟩:=W.of_sales n (a:=a) (b:=b') (by simp only [List.length_cons]at hn;omega) h
          exact⟨_,_,.step (m:=2) dM stepM_2 (refd_not hx) (by rw [doN_not hx];exact h')⟩
        · have key:∀{c:List MA} {x:MA} {c1:List MA},(¬∃x c',c=x::c'∧x.k≠0)→sales c=x::c1→∃c',c=x::c'∧c1=sales c':=by
            intro c x c1 hc e
            match c with
            | []=>cases e
            | y::c'=>
              have hy:y.k=0:=by
                refine Classical.byContradiction fun hy=>hc ⟨y,c',Y,hy⟩
              rw [B3r hy]at e
              cases e
              exact⟨c',Y,Y⟩
          have key0:∀{c:List MA},(¬∃x c',c=x::c'∧x.k≠0)→sales c=[]→c=[]:=by
            intro c hc e
            match c with
            | []=>rfl
            | y::c'=>
              have hy:y.k=0:=by
                refine Classical.byContradiction fun hy=>hc ⟨y,c',Y,hy⟩
              rw [B3r hy]at e
              cases e
          generalize hsa:sales a=sa at h
          generalize hsb:sales b=sb at h
          cases h with
          | nil=>
            rw [key0 ha hsa,key0 hb hsb]
            exact⟨_,_,.nil⟩
          | step h1 h2 h3 h4=>
            rcases A8l h1 h2 with ⟨rfl,e1,e2⟩|⟨rfl,e1,e2⟩|⟨rfl,e1,e2⟩
            · obtain⟨a',rfl,rfl⟩:=key ha (hsa.trans e1)
              obtain⟨b',rfl,rfl⟩:=key hb (hsb.trans e2)
              obtain⟨ms',bk',h'⟩:=W.of_sales n (by simp only [List.length_cons]at hn;omega) h4
              exact⟨_,_,.step dM stepM_0 h3 h'⟩
            · obtain⟨a',rfl,rfl⟩:=key ha (hsa.trans e1)
              subst e2;subst hsb
              obtain⟨ms',bk',h'⟩:=W.of_sales n (by simp only [List.length_cons]at hn;omega) h4
              exact⟨_,_,.step dM stepM_1 h3 h'⟩
            · obtain⟨b',rfl,rfl⟩:=key hb (hsb.trans e2)
              subst e1;subst hsa
              obtain⟨ms',bk',h'⟩:=W.of_sales n (by simp only [List.length_cons]at hn;omega) h4
              exact⟨_,_,.step dM stepM_2 h3 h'⟩
theorem ways_ne{a b:List MA}{os:List Int}:ways a b ⟨[],[],os⟩≠[]↔∃ms bk dk,W a b os ms bk dk:=by
 constructor
 ·intro h
  obtain⟨u,hu⟩:=List.exists_mem_of_ne_nil _ h
  obtain⟨ms,bk,dk,hW,_⟩:=mem_ways0.1 hu
  exact⟨ms,bk,dk,hW⟩
 ·rintro⟨ms,bk,dk,hW⟩ e
  have:=mem_ways0.2 ⟨ms,bk,dk,hW,Y⟩
  rw [e]at this
  cases this
theorem ways_sales{a b:List MA}{os:List Int}:ways a b ⟨[],[],os⟩≠[]↔ways (sales a) (sales b) ⟨[],[],os⟩≠[]:=by
 rw [ways_ne,ways_ne]
 constructor
 ·rintro⟨ms,bk,dk,h⟩
  obtain⟨ms',bk',h'⟩:=h.to_sales
  exact⟨ms',bk',dk,h'⟩
 ·rintro⟨ms,bk,dk,h⟩
  obtain⟨ms',bk',h'⟩:=W.of_sales _ (Nat.le_refl _) h
  exact⟨ms',bk',dk,h'⟩
theorem LOk.sales{P:Int}{d:List Int}{a b:List MA}(h:LOk P d a b):LOk P d (sales a) (sales b):=
 ⟨h.m,Nat.le_trans (List.length_filter_le _ _) h.la,Nat.le_trans (List.length_filter_le _ _) h.lb,fun x hx=>h.a x ((List.mem_filter.1 hx).1),fun x hx=>h.b x ((List.mem_filter.1 hx).1)⟩
theorem countE{P:Int}{d:List Int}{a b:List MA}(h:LOk P d a b):(B2z P d a b).2.2=0∧ways a b ⟨[],[],d⟩≠[]∨(B2z P d a b).2.2=11∧ways a b ⟨[],[],d⟩=[]:=by
 by_cases hb:A1q a b d=[]
 ·right
  rw [(laidR_void h hb).2]
  exact⟨Y,bests_nil.1 hb⟩
 ·left
  refine⟨?_,fun e=>hb (bests_nil.2 e)⟩
  unfold B2z A4o
  rw [if_neg (by simpa using layE_ok.2 h),if_neg dM,if_neg hb]
theorem count_sales{P:Int}{d:List Int}{a b:List MA}(h:LOk P d a b):(B2z P d (sales a) (sales b)).2.2=(B2z P d a b).2.2∧((B2z P d a b).2.2=0∨(B2z P d a b).2.2=11):=by
 have h1:=countE h
 have h2:=countE h.sales
 have h3:=@ways_sales a b d
 rcases h1 with ⟨e1,w1⟩|⟨e1,w1⟩
 ·rcases h2 with ⟨e2,w2⟩|⟨e2,w2⟩
  ·exact⟨by rw [e1,e2],.inl e1⟩
  ·exact absurd w2 (h3.1 w1)
 ·rcases h2 with ⟨e2,w2⟩|⟨e2,w2⟩
  ·exact absurd w1 (h3.2 w2)
  ·exact⟨by rw [e1,e2],.inr e1⟩
theorem countP_lt{α:Type}{p q:α→Bool}:∀{l:List α},(∀x∈l,p x=true→q x=true)→(∃x∈l,q x=true∧p x=false)→l.countP p<l.countP q
 | [],_,⟨_,h,_⟩=>by cases h
 | y::l,h,⟨x,hx,hq,hp⟩=>by
  have hle:l.countP p≤l.countP q:=List.countP_mono_left fun z hz=>h z (by simp [hz])
  rw [List.countP_cons,List.countP_cons]
  rcases List.mem_cons.1 hx with rfl|hx
  ·rw [hp,hq];simp;omega
  ·have:=countP_lt (l:=l) (fun z hz=>h z (by simp [hz])) ⟨x,hx,hq,hp⟩
   have hy:=h y sM
   cases h1:p y with
   | false=>simp;omega
   | true=>rw [hy h1];simp;omega
theorem B3t(s n i:Nat):hasN (s ^^^ 2 ^ n) i=(hasN s i ^^ decide (n=i)):=by
 rw [hasN_bit,hasN_bit,Nat.testBit_xor,Nat.testBit_two_pow]
theorem cnt_drop{s n:Nat}(hn:n<8)(h:hasN s n=true):cntN (s ^^^ 2 ^ n)<cntN s:=by
 unfold cntN
 refine countP_lt (fun i _ hi=>?_) ⟨n,List.mem_range.2 hn,h,by rw [B3t,h];simp⟩
 rw [B3t]at hi
 by_cases e:n=i
 ·subst e;exact h
 ·simpa [e]using hi
theorem B3u:∀{l:List MA} {i:Nat} {out out':List Int},(∀j (hj:j<l.length),l[j].k=0→inL out ((i+j:Nat):Int)=inL out' ((i+j:Nat):Int))→sales (A2i i l out)=sales (A2i i l out')
 | [],_,_,_,_=>rfl
 | x::l,i,out,out',h=>by
  have ih:=B3u (l:=l) (i:=i+1) (out:=out) (out':=out') fun j hj hk=>by
   have:=h (j+1) (by simpa using hj) (by simpa using hk)
   rwa [show i+(j+1)=i+1+j by omega]at this
  unfold A2i
  by_cases hx:x.k=0
  ·have h0:=h 0 sM hx
   rw [Nat.add_zero]at h0
   rw [h0]
   cases inL out' (i:Int)with
   | true=>exact ih
   | false=>
    simp only [Bool.false_eq_true,if_false]
    rw [B3r hx,B3r hx,ih]
  ·have key:∀o,sales (if inL o (i:Int)=true then A2i (i+1) l o else x::A2i (i+1) l o)=sales (A2i (i+1) l o):=fun o=>by
    split
    ·rfl
    ·rw [B3s hx]
   rw [key,key,ih]
theorem inL_eq{l m:List Int}{n:Int}(h:n∈l↔n∈m):inL l n=inL m n:=by
 by_cases h1:n∈l
 ·rw [inL_iff.2 h1,inL_iff.2 (h.1 h1)]
 ·have h2:¬n∈m:=fun e=>h1 (h.2 e)
  rw [Bool.eq_false_iff.2 (fun e=>h1 (inL_iff.1 e)),Bool.eq_false_iff.2 (fun e=>h2 (inL_iff.1 e))]
theorem struck_sales{P:Int}{d:List Int}{a b:List MA}(hL:LOk P d a b){r:Int×List Int×List Int}(h:A4y P d a b r) :
  r.1=0∧(∀x∈r.2.1,∃i:Nat,∃hi:i<a.length,x=i∧a[i].k=0)∧∀x∈r.2.2,∃i:Nat,∃hi:i<b.length,x=i∧b[i].k=0:=by
 unfold A4y at h
 rw [if_neg (by simpa using layE_ok.2 hL)]at h
 obtain⟨s,hs,rfl,hr,hmin⟩:=h
 have hla:=hL.la
 have hlb:=hL.lb
 -- an act that may be put back
 have back:∀n,n<a.length+b.length→hasN s n=true→(∀(hn:n<a.length),a[n].k≠0)→(∀(hn:n-a.length<b.length),a.length≤n→b[n-a.length].k≠0)→False:=fun n hn hb ha0 hb0=>by
  have hlt:s ^^^ 2 ^ n<2 ^ (a.length+b.length):=Nat.xor_lt_two_pow hs (Nat.pow_lt_pow_right dM hn)
  refine hmin _ hlt ?_ (.inl (cnt_drop oM hb))
  unfold A7a B1b at hr⊢
  rw [ways_sales]at hr⊢
  have e1:sales (A2x a (pL (s ^^^ 2 ^ n) a.length (a.length+b.length)))=sales (A2x a (pL s a.length (a.length+b.length))):=B3u fun j hj hk=>by
   rw [Nat.zero_add]
   refine inL_eq ?_
   have hne:n≠j:=fun e=>by subst e;exact ha0 hj hk
   rw [mem_pL,mem_pL]
   constructor
   ·rintro⟨m,h1,h2,h3,h4⟩
    obtain rfl:j=m:=oM
    rw [B3t]at h2
    exact⟨j,h1,by simpa [hne]using h2,h3,Y⟩
   ·rintro⟨m,h1,h2,h3,h4⟩
    obtain rfl:j=m:=oM
    exact⟨j,h1,by rw [B3t];simpa [hne]using h2,h3,Y⟩
  have e2:sales (A2x b (qL (s ^^^ 2 ^ n) a.length (a.length+b.length)))=sales (A2x b (qL s a.length (a.length+b.length))):=B3u fun j hj hk=>by
   rw [Nat.zero_add]
   refine inL_eq ?_
   have hne:n≠a.length+j:=fun e=>by
    subst e
    have:=hb0 oM oM
    simp only [Nat.add_sub_cancel_left]at this
    exact this hk
   rw [mem_qL,mem_qL]
   constructor
   ·rintro⟨m,h1,h2,h3,h4⟩
    obtain rfl:a.length+j=m:=oM
    rw [B3t]at h2
    exact⟨_,h1,by simpa [hne]using h2,h3,h4⟩
   ·rintro⟨m,h1,h2,h3,h4⟩
    obtain rfl:a.length+j=m:=oM
    exact⟨_,h1,by rw [B3t];simpa [hne]using h2,h3,h4⟩
  rw [e1,e2]
  exact hr
 refine⟨Y,fun x hx=>?_,fun x hx=>?_⟩
 ·obtain⟨n,h1,h2,h3,rfl⟩:=mem_pL.1 hx
  refine⟨n,h3,Y,Classical.byContradiction fun hk=>back n h1 h2 (fun _=>hk) (fun _ h=>absurd h oM)⟩
 ·obtain⟨n,h1,h2,h3,rfl⟩:=mem_qL.1 hx
  refine⟨n-a.length,oM,oM,Classical.byContradiction fun hk=>back n h1 h2 (fun h=>absurd h oM) (fun _ _=>hk)⟩
end Go.Pal.To
end
section
namespace Go.Proofs.YtclejblcnfaeaaaGreat
open Go Go.Pal Go.Pal.To Go.Conc View
open Go.Proofs.Tryz
set_option maxHeartbeats 4000000
set_option maxRecDepth 20000
theorem asked_run{v:View}{a0:Option Addr}{cap0:Nat}{ns:List Int}(hns:RowAt v a0 (ns.map (.int .i64))):Run prog ⟨true,true⟩ (AtTop 8 2) v (G (Frame.enter prog 8 (List.toArray [.slice a0 ns.length cap0]) .normal) []):=by
 refine top_run func8 Y nB ?_
 repeat (first|refine st ?_|refine qb fun bx=>?_)
 refine Q_op fun ho=>A0k [] _ ho bod18 Y Y Y Y Y A6z (newBag_x) (fun x β' hR=>?_)
 clear ho
 obtain⟨bg,rfl,hB⟩:=hR
 repeat (first|refine st ?_|refine qb fun bx=>?_)
 refine Q_op fun ho=>A0k β' [] ho bod19 Y Y Y Y Y cntA (mornOf_z (hns.le (A0e _ _)) hB dM) (fun x β' hR=>?_)
 clear ho
 obtain⟨P,d,aD,cD,n1,βb,seg,rfl,rfl,hB1,hn1,hS,hM,hP2⟩:=hR
 refine A8d (β1:=seg) (β2:=βb) cntA (fun hbk=>?_)
 have rD:=RowAt.own hbk (by exact cntL) hS
 replace hns:=hns.le (A0e v (A0c seg))
 clear hbk
 generalize v.union (A0c seg)=v1 at *
 clear hS
 repeat (first|refine st ?_|refine qb fun bx=>?_)
 obtain⟨b4,rfl⟩:∃x:Nat,x=bx:=⟨bx,rfl⟩
 rw [putV_mo]
 refine Q_op fun ho=>A0k βb [(b4,(moV P aD d.length cD).cells,24)] ho bod44 Y Y Y Y Y cntA (twoOf_z (g:=Bg.mk bg a0 cap0 ns) (N:=4) (RowAt.le hns (A0e _ _)) hB1 oM (rD.le (A0e _ _)) hM hP2 dM) (fun x β' hR=>?_)
 clear ho
 obtain⟨p,q,ap,aq,cp,cq,n2,βb2,sp,sq,rfl,rfl,hB2,hn2,hSp,hSq,hp4,hq4,hpa,hqa⟩:=hR
 refine A8d (β1:=sp++sq) (β2:=(b4,(moV P aD d.length cD).cells,24)::βb2) cntA (fun hbk=>?_)
 have rP:ActsAt _ ap p:=RowAt.own hbk (by exact cntL) hSp
 have rQ:ActsAt _ aq q:=RowAt.own hbk (by exact cntL) hSq
 replace rD:=rD.le (A0e v1 (A0c (sp++sq)))
 clear hbk hns
 generalize v1.union (A0c (sp++sq))=v2 at *
 clear hSp hSq hB2
 have hL:LOk P d p q:=⟨hM,hp4,hq4,hpa,hqa⟩
 have hdl:d.length<2^30:=by have:=hM.len;omega
 have hcs:=count_sales hL
 have hsl:B3q p=sales p:=rfl
 have hsl2:B3q q=sales q:=rfl
 have hl1:(B3q p).length<2^30:=Nat.lt_of_le_of_lt (List.length_filter_le _ _) oM
 have hl2:(B3q q).length<2^30:=Nat.lt_of_le_of_lt (List.length_filter_le _ _) oM
 repeat (first|refine st ?_|refine qb fun bx=>?_)
 refine Q_op fun ho=>A0t ho bod36 Y Y Y Y Y (count_x (P:=P) (cD:=cD) (cA:=cp) (cB:=cq) rD hdl rP rQ oM oM) ?_
 clear ho
 repeat (first|refine sr ?_|refine qb fun bx=>?_)
 refine C_cutS (fun σ u=>u=v2∧σ=⟨[],[(12,intV (B2z P d p q).2.2),(9,intV (B2z P d p q).2.2),(4,.pointer (some ⟨b4,0,none⟩)),(5,.slice ap p.length cp),(6,.slice aq q.length cq)],[(b4,(moV P aD d.length cD).cells,24)]⟩) ?_ ?_
 ·rintro σ u ⟨rfl,rfl⟩
  repeat (first|refine st ?_|refine qb fun bx=>?_)
  refine Q_op fun ho=>A1r ho bod40 Y Y Y Y Y (struck_x (P:=P) (cD:=cD) (cA:=cp) (cB:=cq) rD hdl rP rQ oM oM) (fun x w hl hx=>?_)
  clear ho
  replace rP:=rP.le hl
  replace rQ:=rQ.le hl
  clear hl rD
  obtain⟨a5,c5,a6,c6,⟨re,rl,rk⟩,rfl,r5,r6,hr⟩:=hx
  have hst:=struck_sales hL hr
  have hle:=struck_len hL hr
  simp only at hst hle r5 r6
  obtain⟨rfl,hs1,hs2⟩:=hst
  obtain⟨hle1,hle2⟩:=hle
  generalize (B2z P d p q).2.2=e at hcs⊢
  repeat (first|refine sr ?_|refine qb fun bx=>?_)
  refine A5l (fun σ u=>u=w∧σ=⟨[],[(13,.slice a5 rl.length c5),(14,.slice a6 rk.length c6),(5,.slice ap p.length cp),(6,.slice aq q.length cq)],[]⟩) ?_ ?_
  ·rintro σ u ⟨rfl,rfl⟩
   repeat (first|refine st ?_|refine qb fun bx=>?_)
   refine A1k (α:=Nat) (fun i=>⟨[],[(16,.int .i64 i),(13,.slice a5 rl.length c5),(14,.slice a6 rk.length c6),(5,.slice ap p.length cp),(6,.slice aq q.length cq)],[]⟩)
    (fun i z=>z=u∧i≤rl.length) (fun i=>rl.length-i) 0 ⟨Y,rg,cntL⟩ (Le.refl _) ⟨Y,Nat.zero_le _⟩ ?_
   rintro i w ⟨rfl,hi⟩
   repeat (first|refine st ?_|refine qb fun bx=>?_)
   refine A0y Y (fun h=>?_) (fun h=>?_)
   ·replace h:=fa h
    have hlt:i<rl.length:=oM
    obtain⟨b1,o1,p1,k1,e1,f1,rfl,hv1,hc1⟩:=r5.get hlt
    obtain⟨j,hj,hz,hk⟩:=hs1 _ (List.getElem_mem hlt)
    obtain⟨b2,o2,p2,k2,e2,f2,rfl,hv2,hc2⟩:=rP.get hj
    replace hc1:=hc1 i hlt
    have hcj:=hc2 j hj
    rw [hz]at hc1
    generalize p[j]=y at hk hcj
    repeat (first|refine st ?_|refine qb fun bx=>?_)
    refine A4j tab i Y Y Y Y Y Y Y hlt ?_
    refine A1w tab Y Y Y hv1 (A0j tab Y Y Y (by rw [Nat.mul_one];exact hc1)) ?_
    repeat (first|refine st ?_|refine qb fun bx=>?_)
    rw [show decide ((j:Int)<0)=false from decide_eq_false oM]
    repeat (first|refine st ?_|refine qb fun bx=>?_)
    refine A4j tab i Y Y Y Y Y Y Y hlt ?_
    refine A1w tab Y Y Y hv1 (A0j tab Y Y Y (by rw [Nat.mul_one];exact hc1)) ?_
    repeat (first|refine st ?_|refine qb fun bx=>?_)
    rw [show decide ((j:Int)≥(p.length:Int))=false from decide_eq_false oM]
    repeat (first|refine st ?_|refine qb fun bx=>?_)
    refine A4j tab i Y Y Y Y Y Y Y hlt ?_
    refine A1w tab Y Y Y hv1 (A0j tab Y Y Y (by rw [Nat.mul_one];exact hc1)) ?_
    repeat (first|refine st ?_|refine qb fun bx=>?_)
    refine A4j tab j Y Y Y Y Y Y Y hj ?_
    refine B3n tab Y Y Y ?_
    refine A1w tab Y Y Y hv2 (A0j tab Y Y Y (show k2[o2+j*4+0]?=some (intV y.k)from ext_at hcj.2 hcj.1 dM)) ?_
    rw [hk]
    repeat (first|refine st ?_|refine qb fun bx=>?_)
    exact A0a ⟨i+1,_,oM,⟨Y,rg,cntL⟩,Le.refl _,Y,hlt⟩
   ·replace h:=fa h
    clear hi h
    repeat (first|refine st ?_|refine qb fun bx=>?_)
    refine A1k (α:=Nat) (fun i=>⟨[],[(17,.int .i64 i),(13,.slice a5 rl.length c5),(14,.slice a6 rk.length c6),(5,.slice ap p.length cp),(6,.slice aq q.length cq)],[]⟩)
     (fun i z=>z=w∧i≤rk.length) (fun i=>rk.length-i) 0 ⟨Y,rg,cntL⟩ (Le.refl _) ⟨Y,Nat.zero_le _⟩ ?_
    rintro i w3 ⟨rfl,hi⟩
    repeat (first|refine st ?_|refine qb fun bx=>?_)
    refine A0y Y (fun h=>?_) (fun h=>?_)
    ·replace h:=fa h
     have hlt:i<rk.length:=oM
     obtain⟨b1,o1,p1,k1,e1,f1,rfl,hv1,hc1⟩:=r6.get hlt
     obtain⟨j,hj,hz,hk⟩:=hs2 _ (List.getElem_mem hlt)
     obtain⟨b2,o2,p2,k2,e2,f2,rfl,hv2,hc2⟩:=rQ.get hj
     replace hc1:=hc1 i hlt
     have hcj:=hc2 j hj
     rw [hz]at hc1
     generalize q[j]=y at hk hcj
     repeat (first|refine st ?_|refine qb fun bx=>?_)
     refine A4j tab i Y Y Y Y Y Y Y hlt ?_
     refine A1w tab Y Y Y hv1 (A0j tab Y Y Y (by rw [Nat.mul_one];exact hc1)) ?_
     repeat (first|refine st ?_|refine qb fun bx=>?_)
     rw [show decide ((j:Int)<0)=false from decide_eq_false oM]
     repeat (first|refine st ?_|refine qb fun bx=>?_)
     refine A4j tab i Y Y Y Y Y Y Y hlt ?_
     refine A1w tab Y Y Y hv1 (A0j tab Y Y Y (by rw [Nat.mul_one];exact hc1)) ?_
     repeat (first|refine st ?_|refine qb fun bx=>?_)
     rw [show decide ((j:Int)≥(q.length:Int))=false from decide_eq_false oM]
     repeat (first|refine st ?_|refine qb fun bx=>?_)
     refine A4j tab i Y Y Y Y Y Y Y hlt ?_
     refine A1w tab Y Y Y hv1 (A0j tab Y Y Y (by rw [Nat.mul_one];exact hc1)) ?_
     repeat (first|refine st ?_|refine qb fun bx=>?_)
     refine A4j tab j Y Y Y Y Y Y Y hj ?_
     refine B3n tab Y Y Y ?_
     refine A1w tab Y Y Y hv2 (A0j tab Y Y Y (show k2[o2+j*4+0]?=some (intV y.k)from ext_at hcj.2 hcj.1 dM)) ?_
     rw [hk]
     repeat (first|refine st ?_|refine qb fun bx=>?_)
     exact A0a ⟨i+1,_,oM,⟨Y,rg,cntL⟩,Le.refl _,Y,hlt⟩
    ·replace h:=fa h
     repeat (first|refine st ?_|refine qb fun bx=>?_)
     refine Q_op fun ho=>A0t ho bod17 Y Y Y Y Y held_x ?_
     clear ho
     repeat (first|refine st ?_|refine qb fun bx=>?_)
     exact⟨Y,Y,Y⟩
  ·rcases hcs.2 with he|he
   ·subst he
    repeat (first|refine st ?_|refine qb fun bx=>?_)
    exact A0a ⟨_,_,⟨Y,Y⟩,⟨Y,rg,cntL⟩,Le.refl _⟩
   ·subst he
    repeat (first|refine st ?_|refine qb fun bx=>?_)
    exact A0a ⟨_,_,⟨Y,Y⟩,⟨Y,rg,cntL⟩,Le.refl _⟩
 ·refine A1d [2,4,5] [0,1,3,2,4,5,6,7,8,9,10,11,12] A1f Y kR ?_
  repeat (first|refine st ?_|refine qb fun bx=>?_)
  refine S_two 4 kR (A0k [] _ Y bod48 Y Y Y Y Y A6z (deals_x (l:=p) (cA:=cp) (rP.le (A0e _ _)) oM) (fun r1 β1 hR1=>⟨Le.refl _,kp,?_⟩)) (A0k [] _ Y bod48 Y Y Y Y Y A6z (deals_x (l:=q) (cA:=cq) (rQ.le (A0e _ _)) oM) (fun r1 β1 hR1=>⟨Le.refl _,kp,?_⟩))
  ·obtain⟨a1,c1,rfl,hS1⟩:=hR1
   repeat (first|refine st ?_|refine qb fun bx=>?_)
   refine S_do kR (A0k [] _ Y bod48 Y Y Y Y Y A6z (deals_x (l:=q) (cA:=cq) (rQ.le (A0e _ _)) oM) (fun r2 β2 hR2=>⟨Le.refl _,kp,?_⟩))
   obtain⟨a2,c2,rfl,hS2⟩:=hR2
   repeat (first|refine st ?_|refine qb fun bx=>?_)
   refine S_do kR (A_bok fun hbk=>A0k (β2++β1) ((b4,(moV P aD d.length cD).cells,24)::βb2) Y bod36 Y Y Y Y Y cntA (Ret1.box (fun hb=>show Ret1 _ _ _ _ (.tuple (List.toArray [natV (B2z P d (sales p) (sales q)).1,natV (B2z P d (sales p) (sales q)).2.1,intV (B2z P d p q).2.2])) _ from by
    have:=count_x (P:=P) (cD:=cD) (cA:=c1) (cB:=c2) (a:=B3q p) (b:=B3q q) ((rD.le (A0e _ _)).le (A0e _ _)) hdl (RowAt.own hb (by exact cntL) hS1) (RowAt.own hb (by exact cntL) hS2) hl1 hl2
    rw [hsl,hsl2,hcs.1]at this
    exact this)) (fun x β' hR=>⟨Le.refl _,?_,?_⟩))
   ·exact kp
   obtain⟨rfl,rfl⟩:=hR
   repeat (first|refine st ?_|refine qb fun bx=>?_)
   exact A0a ⟨_,_,⟨Y,Y⟩,⟨Y,rg,cntL⟩,Le.refl _⟩
  ·obtain⟨a1,c1,rfl,hS1⟩:=hR1
   repeat (first|refine st ?_|refine qb fun bx=>?_)
   refine S_do kR (A0k [] _ Y bod48 Y Y Y Y Y A6z (deals_x (l:=p) (cA:=cp) (rP.le (A0e _ _)) oM) (fun r2 β2 hR2=>⟨Le.refl _,kp,?_⟩))
   obtain⟨a2,c2,rfl,hS2⟩:=hR2
   repeat (first|refine st ?_|refine qb fun bx=>?_)
   refine S_do kR (A_bok fun hbk=>A0k (β2++β1) ((b4,(moV P aD d.length cD).cells,24)::βb2) Y bod36 Y Y Y Y Y cntA (Ret1.box (fun hb=>show Ret1 _ _ _ _ (.tuple (List.toArray [natV (B2z P d (sales p) (sales q)).1,natV (B2z P d (sales p) (sales q)).2.1,intV (B2z P d p q).2.2])) _ from by
    have:=count_x (P:=P) (cD:=cD) (cA:=c2) (cB:=c1) (a:=B3q p) (b:=B3q q) ((rD.le (A0e _ _)).le (A0e _ _)) hdl (RowAt.own hb (by exact cntL) hS2) (RowAt.own hb (by exact cntL) hS1) hl1 hl2
    rw [hsl,hsl2,hcs.1]at this
    exact this)) (fun x β' hR=>⟨Le.refl _,?_,?_⟩))
   ·exact kp
   obtain⟨rfl,rfl⟩:=hR
   repeat (first|refine st ?_|refine qb fun bx=>?_)
   exact A0a ⟨_,_,⟨Y,Y⟩,⟨Y,rg,cntL⟩,Le.refl _⟩
end Go.Proofs.YtclejblcnfaeaaaGreat
end
section
namespace Go.Proofs.YtclejblcnfaeaaaGreat
open Go Go.ChangeShapes
theorem B3v{a b:Bool}(ha:a=true)(hb:b=true):(a&&b)=true:=by rw [ha,hb];rfl
theorem j8_0:(Rows.tollAskedRow.wf (OpenSpec.ofChange Rows.tollAskedSpec))=true:=by kernel_rfl
theorem j8_1:(laidOutB Tryz.prog)=true:=by kernel_rfl
theorem j8_2:(mapsRowed Tryz.prog)=true:=by kernel_rfl
theorem j8_3:(Tryz.f8.params.all (Tryz.prog.readableRec ·))=true:=by kernel_rfl
theorem j8_4:(namedTie Tryz.prog Rows.tollAskedRow.named Rows.tollAskedSpec.vars)=true:=by kernel_rfl
theorem j8_5:((Rows.tollAskedRow.stops == []))=true:=by kernel_rfl
theorem j8_6:((Tryz.prog.stops == []))=true:=by kernel_rfl
theorem j8_7:((Rows.tollAskedRow.knobs == []))=true:=by kernel_rfl
theorem j8_8:((Tryz.prog.stopKnobs == []))=true:=by kernel_rfl
theorem j8_9:((Rows.tollAskedRow.inPlace==Tryz.prog.inPlace 8))=true:=by kernel_rfl
theorem j8_10:((Rows.tollAskedRow.unfollowed==Tryz.prog.unfollowed 8))=true:=by kernel_rfl
theorem j8_11:((Rows.tollAskedRow.recurses==Tryz.prog.recurses 8))=true:=by kernel_rfl
theorem j8_12:((Rows.tollAskedRow.named==Tryz.prog.varsNamed 8))=true:=by kernel_rfl
theorem j8_13:((Rows.tollAskedRow.maps==(Tryz.f8.params.toList++Rows.tollAskedSpec.plain.varTypes Tryz.prog).any (Tryz.prog.mapsRec ·)))=true:=by kernel_rfl
theorem j8_14:((Rows.tollAskedRow.ifaces==(Tryz.f8.params.toList++Rows.tollAskedSpec.plain.varTypes Tryz.prog).any (Tryz.prog.ifacesRec ·)))=true:=by kernel_rfl
theorem j8_15:((Rows.tollAskedRow.mapsOut==Tryz.prog.mapsAmong Tryz.f8.resultTypes.toList))=true:=by kernel_rfl
theorem j8_16:((Rows.tollAskedRow.loops==(Tryz.f8.params.toList++Rows.tollAskedSpec.plain.varTypes Tryz.prog).any (Tryz.prog.loopsFrom ·)))=true:=by kernel_rfl
theorem j8_17:((Rows.tollAskedRow.wideKeys==(Tryz.f8.params.toList++Rows.tollAskedSpec.plain.varTypes Tryz.prog++Tryz.f8.resultTypes.toList).any (Tryz.prog.wideKeysFrom ·)))=true:=by kernel_rfl
theorem j8_18:(Rows.tollAskedSpec.vars.all (Tryz.prog.varReadable ·))=true:=by kernel_rfl
theorem j8_19:(Tryz.f8.resultTypes.all (fun t=>Tryz.prog.readableRec t&&decide (t<Tryz.prog.types.size)))=true:=by kernel_rfl
theorem j8_20:((Rows.tollAskedRow.ifacesOut==Tryz.f8.resultTypes.toList.any (Tryz.prog.ifacesRec ·)))=true:=by kernel_rfl
theorem j8_21:((Rows.tollAskedRow.loopsOut==Tryz.f8.resultTypes.toList.any (Tryz.prog.loopsFrom ·)))=true:=by kernel_rfl
theorem j8_22:((Rows.tollAskedRow.plainKeys==Tryz.prog.plainKeys))=true:=by kernel_rfl
theorem j8_23:(Rows.tollAskedRow.shortTexts.isNone)=true:=by kernel_rfl
theorem j8_24:(Tryz.prog.stopsHeard)=true:=by kernel_rfl
theorem j8_25:(Tryz.prog.mayEnter)=true:=by kernel_rfl
theorem j8_26:((Rows.tollAskedRow.lifted==Tryz.prog.liftsFinal))=true:=by kernel_rfl
theorem j8_27:((Tryz.prog.make==some Rows.tollAskedRow.make))=true:=by kernel_rfl
theorem j8_28:((Rows.tollAskedRow.kinds==(if Rows.tollAskedRow.domain.isEmpty then []else Tryz.f8.params.toList.map fun t=>match Tryz.prog.underlying t with|some (.int k)=>some k|_=>none)))=true:=by kernel_rfl
theorem j8_29:((Rows.tollAskedRow.pinned==Rows.tollAskedRow.pinnedBy))=true:=by kernel_rfl
theorem j8_30:((Rows.tollAskedRow.veiled==(Tryz.f8.params.toList++Rows.tollAskedSpec.plain.varTypes Tryz.prog++Tryz.f8.resultTypes.toList).any (Tryz.prog.veiledRec ·)))=true:=by kernel_rfl
theorem j8_31:(Rows.tollAskedRow.veiledFits Tryz.prog Tryz.f8.params.toList (Tryz.f8.params.toList++Rows.tollAskedSpec.plain.varTypes Tryz.prog++Tryz.f8.resultTypes.toList))=true:=by kernel_rfl
set_option maxRecDepth 100000 in
theorem j8:joinedFacts Tryz.prog 8 Tryz.f8 Rows.tollAskedSpec Rows.tollAskedRow=true:=B3v (B3v (B3v (B3v (B3v (B3v (B3v (B3v (B3v (B3v (B3v (B3v (B3v (B3v (B3v (B3v (B3v (B3v (B3v (B3v (B3v (B3v (B3v (B3v (B3v (B3v (B3v (B3v (B3v (B3v (B3v (j8_0) j8_1) j8_2) j8_3) j8_4) j8_5) j8_6) j8_7) j8_8) j8_9) j8_10) j8_11) j8_12) j8_13) j8_14) j8_15) j8_16) j8_17) j8_18) j8_19) j8_20) j8_21) j8_22) j8_23) j8_24) j8_25) j8_26) j8_27) j8_28) j8_29) j8_30) j8_31
end Go.Proofs.YtclejblcnfaeaaaGreat
end
section
namespace Go.Proofs.YtclejblcnfaeaaaGreat
open Go Go.Pal Go.Conc Go.ConcM Go.RowKit Go.ChangeShapes Go.WideShapes Go.ChangeAt
theorem own_knob:ownKnob Tryz.prog.godebug=none:=by kernel_rfl
set_option maxRecDepth 100000 in
theorem asked_lifted(os:Os)(started:os.Started)(H:Type)(enc:TypeId×Value→H) :
  ReturnsInLeavingWide {} Tryz.checked os 8 .any (Rows.tollAskedSpec.pre6 enc Tryz.prog Tryz.f8 Rows.tollAskedRow.domain false) (Rows.tollAskedSpec.post enc Tryz.prog Tryz.f8 false true false false):=by
 refine returnsInLeavingWide_of_change_sized (C:=Tryz.checked) own_knob started Tryz.func8
  (ChangeSpec.witness6 (enc:=enc) (C:=Tryz.checked) false ⟨#[],#[.slice none 0 0],[]⟩ 8 kR kR kR kR) ?_
 intro W base args ds gs before hval0 hW _ _ _
 have hval:∀(j:Nat) t v,Tryz.f8.params[j]?=some t→args[j]?=some v→Value.okWide Tryz.prog W .any base t v:=hval0
 have hW':=hW
 obtain⟨p,q,hA0,hV,rfl,_,_⟩:=hW
 have hA:DataW.TrodAll enc Tryz.prog W 0 (fun _=>true) true Tryz.f8.params.toList args.toList ds p:=hA0
 rw [Tryz.params8]at hA hval
 obtain⟨v0,d0,rfl,rfl,h0⟩:=trodAll_one hA
 obtain⟨rfl,rfl⟩:=trodVars_none hV
 clear hA0 hval0
 simp only [List.append_nil]at hW'
 have hlt:∀x∈p,x.block<W.heap.size:=fun x hx=>by simpa using hW'.lt x hx
 obtain⟨a0,cap,ns,v,rfl,hag,hro,hns,hargs⟩:=open_nums (hval 0 22 v0 rfl rfl) h0 hlt
 obtain⟨M,last,o,w',t',r1,r2,r3,r4⟩:=law_run (P:=Tryz.prog) (W:=W) (v:=v) (args:=[.slice a0 ns.length cap]) Tryz.func8 rfl kR hag hro (asked_run hns)
 refine⟨M,last,o,w',t',r1,r2,r3,r4.mono fun x hp=>?_⟩
 obtain⟨rfl,hbel0,hos⟩:=hp
 have hbel:Below W.heap.size W w':=by
  have e:w'.os=W.os:=hos
  rw [←e]at hbel0
  exact hbel0
 exact⟨_,_,_,[],p,[],hW',trodAll_mk1 (shut_bool Tryz.underlying4 true),trodAll_mk1 (hargs _ hbel),Y,hbel.frame _,fun h=>by cases h⟩
theorem asked_said:Rows.TollAskedSaid:=
 OpenClaim.holds_of_wide_leaving 8 Tryz.f8 rfl rfl rfl rfl rfl rfl rfl ⟨rfl,rfl,rfl,rfl,rfl⟩ rfl rfl rfl rfl rfl kR Tryz.func8 j8
  (of_decide_eq_true kR) (by unfold Func.isWrapper;first|(rw [if_pos (by decide +kernel)];kernel_rfl)|(rw [if_neg (by decide +kernel)];exact⟨Y,Y⟩))
  (fun os started H enc _=>asked_lifted os started H enc)
end Go.Proofs.YtclejblcnfaeaaaGreat
end
#print axioms Go.Proofs.YtclejblcnfaeaaaGreat.asked_said
