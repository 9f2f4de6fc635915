/- Part 44. -/
import Derived.Test.YtclejblcnfaeaaaGreatDoorQknowna
set_option linter.all false
section
namespace Go.Pal
open Go Go.Conc View
def strV(s:ByteArray):List Value:=s.data.toList.map fun b=>.int .u8 (b.toNat:Int)
section
variable{P:Program}{mn:Who}(T:Tab P){E:Value→View→Prop}
theorem strV_len{s:ByteArray}:(strV s).length=s.size:=by simp [strV]
omit T in
theorem B3a{K:Array Value→View→Prop}{w:View}{k n:Nat}{s:ByteArray}(hsn:s.size=n)(hk:K (strV s).toArray w):SemX P (Builtin.firstCells k n (.string s)) K E w:=by
 subst hsn
 have e:((s.extract 0 s.size).data.map fun b:UInt8=>Value.int .u8 (b.toNat:Int))=(strV s).toArray:=by
  rw [show s.extract 0 s.size=s from by simp]
  apply Array.ext'
  simp [strV]
 rw [←e]at hk
 exact hk
theorem sx_appendS_new{K:Value→View→Prop}{w:View}{t t' ty e:TypeId}{s:ByteArray}{k by_ n len cap:Nat}{z:Value}{base:Option Addr}{old xs:List Value}(ht:T.und t=some (.slice e))(hsn:s.size=n)(ht':T.und t'=some .string)(hs:T.siz e=some k)(hby:T.byt e=some by_)
  (hz:T.zer e=some z)(hzs:z.cells.size=k)(ho:RowAt w base old)(hol:old.length=len*k)(hxs:xs=strV s)(hxl:xs.length=n*k)(hc:cap<len+n)(hb:(2*(len+n)+768)*by_≤2^48)(hp:0<by_)
  (h:∀(r cap':Nat) (c:Array Value),w r=none→len+n≤cap'→c.size=cap'*k→(∀(i:Nat) (x:Value),(old++xs)[i]?=some x→c[i]?=some x)→K (.slice (some ⟨r,0,none⟩) (len+n) cap') (w.set r true (.cells c e (0,0)))) :
  SemX P (Builtin.append_ #[t,t'] ty #[.slice base len cap,.string s]) K E w:=by
 have hnc:=B1u hc
 have hle:Builtin.nextslicecap (len+n) cap*by_≤2^48:=Nat.le_trans (Nat.mul_le_mul_right _ hnc) hb
 have hneed:len+n≤2^48:=by
  have:(2*(len+n)+768)*1≤(2*(len+n)+768)*by_:=Nat.mul_le_mul_left _ hp
  omega
 unfold Builtin.append_
 simp only [show(#[t,t']:Array TypeId)[0]?=some t from Y,show(#[t,t']:Array TypeId)[1]?=some t' from Y,show ∀x y:Value,(#[x,y]:Array Value)[0]?=some x from fun _ _=>rfl,show ∀x y:Value,(#[x,y]:Array Value)[1]?=some y from fun _ _=>rfl,A0a,A1k T ht,A1k T ht',A4f T hs,A0h]
 simp only [Bool.false_eq_true,if_false,Builtin.lenOf,hsn,A0a,A0h]
 rw [if_neg oM,A0a]
 refine tx_info T hby fun i hi=>?_
 rw [hi]
 rw [if_neg (by
  rintro⟨h1,_⟩
  have:IntKind.i64.max=9223372036854775807:=rfl
  omega),A0a]
 refine tx_info T hby fun i hi=>?_
 rw [hi,if_neg oM,A0a,choose,SemX,if_neg (by simp [Question.forced])]
 intro tp
 simp only [SemX]
 rw [A0a]
 refine tx_info T hby fun i hi=>?_
 rw [A0a]
 have rest:∀{K':Unit→View→Prop},K' () w→∀b,SemX P (askRoom b) K' E w:=by
  intro K' hK b
  unfold askRoom
  split
  ·exact⟨trivial,hK⟩
  ·exact hK
 refine rest ?_ _
 rw [A0a]
 refine A3r ho hol ?_
 rw [A0a]
 have happ:∀{K':Array Value→View→Prop},K' xs.toArray w→SemX P (if(!false)=true then Builtin.firstCells k n (.string s)else if n*k=0 then pure #[]else do pure (Builtin.zeroCells (←zeroValue e).cells n)) K' E w:=fun hK=>by
  simp only [Bool.not_false,if_true];exact(by rw [hxs]at hK;exact B3a hsn hK)
 refine happ ?_
 rw [A0a,A8b T hz,A0a]
 unfold newRow
 simp only [A0a,A8d,A0h]
 intro r hr
 have hcap:len+n≤(Question.appendCap (len+n) cap e).cut tp:=by simp [Question.cut]
 refine h r _ _ hr hcap ?_ ?_
 ·simp only [Array.size_append,List.size_toArray,A7q,hol,hxl,hzs]
  rw [←Nat.add_mul,←Nat.add_mul]
  congr 1
  omega
 ·intro i x hi
  have h0:i<(old++xs).length:=(List.getElem?_eq_some_iff.1 hi).1
  simp only [List.length_append]at h0
  rw [Array.getElem?_append_left (by simp;omega)]
  rw [←hi]
  simp
theorem sx_appendS_in{K:Value→View→Prop}{w:View}{t t' ty e e'':TypeId}{s:ByteArray}{k n len cap b off:Nat}{xs:List Value}{c:Array Value}(ht:T.und t=some (.slice e))(hsn:s.size=n)(ht':T.und t'=some .string)(hs:T.siz e=some k)
  (hxs:xs=strV s)(hxl:xs.length=n*k)(hc:len+n≤cap)(hone:xs.all A2k=true)(hw:w b=some (true,.cells c e'' (0,0)))(hoff:off+len*k+xs.length≤c.size)
  (h:K (.slice (some ⟨b,off,none⟩) (len+n) cap) (w.set b true (.cells (A0z c (off+len*k) xs) e'' (0,0)))) :
  SemX P (Builtin.append_ #[t,t'] ty #[.slice (some ⟨b,off,none⟩) len cap,.string s]) K E w:=by
 unfold Builtin.append_
 simp only [show(#[t,t']:Array TypeId)[0]?=some t from Y,show(#[t,t']:Array TypeId)[1]?=some t' from Y,show ∀x y:Value,(#[x,y]:Array Value)[0]?=some x from fun _ _=>rfl,show ∀x y:Value,(#[x,y]:Array Value)[1]?=some y from fun _ _=>rfl,A0a,A1k T ht,A1k T ht',A4f T hs,A0h]
 simp only [Bool.false_eq_true,if_false,Builtin.lenOf,hsn,A0a,A0h]
 rw [if_pos hc,A0a]
 have happ:∀{K':Array Value→View→Prop},K' xs.toArray w→SemX P (if(!false)=true then Builtin.firstCells k n (.string s)else if n*k=0 then pure #[]else do pure (Builtin.zeroCells (←zeroValue e).cells n)) K' E w:=fun hK=>by
  simp only [Bool.not_false,if_true];exact(by rw [hxs]at hK;exact B3a hsn hK)
 refine happ ?_
 rw [A0a,A5n]
 refine A3q (e:=e'') (c:=c) hone hw (by simpa using hoff) ?_
 exact h
end
section
variable{P:Program}{mn:Who}(T:Tab P){rd:Option Nat}{n:Nat}{Q:Exit→St→View→Prop}{ds:List Deferred}{ρ:Regs}{β:A0e}{v:View}
 {ops:Array Oper}{i:Nat}{K:St→View→Prop}{o:Oper}
theorem Op_appendS{t t' e:TypeId}{s:ByteArray}{k by_ m len cap:Nat}{y y2:Operand}{z:Value}{a:Option Addr}{cs xs:List Value}{seg:A0e}(rest drop:A0e)(ho:ops[i]?=some o)(hw:A4s ops o ρ=some true)(hn:A2p n o.dst=true)
  (hop:o.op = .call {callee:=.builtin .append,args:=#[y,y2],argTypes:=#[t,t'] })(hy:ρ.val y=some (.slice a len cap))(hy2:ρ.val y2=some (.string s))
  (ht:T.und t=some (.slice e))(hsn:s.size=m)(ht':T.und t'=some .string)(hs:T.siz e=some k)(hby:T.byt e=some by_)(hz:T.zer e=some z)(hzs:z.cells.size=k)
  (hsplit:∀p,cnt p β=cnt p (seg++(drop++rest)))(hS:OwnS e k seg a len cap cs)(hx:xs=strV s)(hxl:xs.length=m*k)(hone:xs.all A2k=true)
  (hb:(2*(len+m)+768)*by_≤2^48)(hp:0<by_)
  (h:∀seg' a' cap',OwnS e k seg' a' (len+m) cap' (cs++xs)→K ⟨ds,putR o.dst (.slice a' (len+m) cap') ρ,seg'++rest⟩ v):XOp P mn rd n ops i Q K ⟨ds,ρ,β⟩ v:=by
 refine A1w ho hw (.inr (by rw [hop];rfl)) hn fun ev hev hbk=>?_
 obtain⟨dst,op,ty,pos,af,gu⟩:=o
 simp only at hop
 subst hop
 obtain⟨hb1,he⟩:=A3v (A2e hsplit) hbk
 obtain⟨hb2,hb3⟩:=bok_append.1 hb1
 have hview:=A0v hb1
 rw [he]at hview
 show SemX P (execOp ev ⟨dst,_,ty,pos,af,gu⟩) _ _ (v.union (A0c β))
 rw [hview]
 have hlex:(v.union (A0c (drop++rest))).Le ((v.union (A0c (drop++rest))).union (A0c seg)):=A0g _ _
 have hx':=hx
 simp only [execOp,resolve,show(#[y,y2]:Array Operand).map ev=#[ev y,ev y2]from by simp,hev _ _ hy,hev _ _ hy2,A0a,A0h,invoke,builtin]
 have hdrop:Subm (seg++rest) (seg++(drop++rest)):=fun p=>by simp only [A0n];omega
 -- the new block
 have grown:cap<len+m→RowAt ((v.union (A0c (drop++rest))).union (A0c seg)) a cs→cs.length=len*k→SemX P (Builtin.append_ #[t,t'] ty #[.slice a len cap,.string s]) (fun x w=>∃β' u,(Bok β' u∧(u.union (A0c β')).Le w)∧K ⟨ds,putR dst x ρ,β'⟩ u) (fun x w=>∃β' u,(Bok β' u∧(u.union (A0c β')).Le w)∧Q (.panic [{v:=x,recovered:=false }]) ⟨ds,ρ,β'⟩ u) ((v.union (A0c (drop++rest))).union (A0c seg)):=by
  intro hcap hrow hlen
  refine sx_appendS_new T ht hsn ht' hs hby hz hzs hrow hlen hx' hxl hcap hb hp fun r cap' c hr hc1 hc2 hc3=>?_
  have hbr:Bok rest v:=(bok_append.1 hb2).1
  have hr':(v.union (A0c rest)) r=none:=by
   cases hh:(v.union (A0c rest)) r with
   | none=>rfl
   | some x=>
    have h1:=(A5k (β:=seg++(drop++rest)) (τ:=rest) (fun p=>by simp only [A0n];omega) hb1).2 _ _ hh
    rw [←hview,←he,h1]at hr
    cases hr
  obtain⟨h5,h6⟩:=A7m (c:=c) (t:=e) hbr hr'
  refine⟨(r,c,e)::rest,v,⟨h5,h6.trans ?_⟩,h [(r,c,e)] (some ⟨r,0,none⟩) cap' (.box (by rw [List.length_append,hlen,hxl,Nat.add_mul]) hc1 hc2 hc3)⟩
  intro j x hj
  unfold View.set at hj⊢
  split
  ·rename_i hjr;rw [if_pos hjr]at hj;exact hj
  ·rename_i hjr
   rw [if_neg hjr]at hj
   have h1:=(A5k (β:=seg++(drop++rest)) (τ:=rest) (fun p=>by simp only [A0n];omega) hb1).2 _ _ hj
   rw [←hview,←he];exact h1
 cases hS with
 | nil=>
  by_cases hm:m=0
  ·subst hm
   have hxs:xs=[]:=by simpa using hxl
   subst hxs
   -- nothing to nothing
   unfold Builtin.append_
   simp only [show(#[t,t']:Array TypeId)[0]?=some t from Y,show(#[t,t']:Array TypeId)[1]?=some t' from Y,show ∀x y:Value,(#[x,y]:Array Value)[0]?=some x from fun _ _=>rfl,show ∀x y:Value,(#[x,y]:Array Value)[1]?=some y from fun _ _=>rfl,A0a,A1k T ht,A1k T ht',A4f T hs,A0h]
   simp only [Bool.false_eq_true,if_false,Builtin.lenOf,hsn,A0a,A0h]
   rw [if_pos (Nat.le_refl _),A0a]
   simp only [Bool.not_false,if_true]
   refine B3a hsn ?_
   simp only [A0h]
   obtain⟨h5,h6⟩:=A5k (β:=[]++(drop++rest)) (τ:=[]++rest) hdrop hb1
   exact⟨[]++rest,v,⟨h5,by rw [←hview,←he];exact h6⟩,h [] none 0 .nil⟩
  ·exact grown oM (.inl Y) sM
 | @box b c _ _ _ h1 h2 h3 h4=>
  have hbv:((v.union (A0c (drop++rest))).union (A0c [(b,c,e)])) b=some (true,.cells c e (0,0)):=A1l hb3.disj _ _ (by simp [A0c])
  by_cases hcap:len+m≤cap
  ·have hsz:len*k+xs.length≤c.size:=by
    rw [h3,hxl,←Nat.add_mul];exact Nat.mul_le_mul_right _ hcap
   refine sx_appendS_in T (e'':=e) ht hsn ht' hs hx' hxl hcap hone hbv (by simpa using hsz) ?_
   have hset:SetB b (A0z c (0+len*k) xs) ([(b,c,e)]++(drop++rest)) ([(b,A0z c (0+len*k) xs,e)]++(drop++rest)):=.head
   have hbk':=A8r hb1 hset.keys
   obtain⟨_,c₀,t₀,hin,hv⟩:=A8g hb1 hset
   have hcc:t₀=e:=by
    have q1:=A0q (v:=v) hb1 hin
    have q2:=A0q (v:=v) hb1 (InB.head (b:=b) (c:=c) (t:=e) (r:=drop++rest))
    have q3:some (true,Obj.cells c₀ t₀)=some (true,Obj.cells c e):=by rw [←q1];exact q2
    simp only [Option.some.injEq,Prod.mk.injEq,Obj.cells.injEq]at q3
    exact q3.2.2.1
   subst hcc
   obtain⟨h5,h6⟩:=A5k (β:=[(b,A0z c (0+len*k) xs,t₀)]++(drop++rest)) (τ:=[(b,A0z c (0+len*k) xs,t₀)]++rest) (fun p=>by simp only [A0n,A3u];omega) hbk'
   refine⟨[(b,A0z c (0+len*k) xs,t₀)]++rest,v,⟨h5,h6.trans ?_⟩,h [(b,A0z c (0+len*k) xs,t₀)] (some ⟨b,0,none⟩) cap (.box (by rw [List.length_append,h1,hxl,Nat.add_mul]) hcap (by rw [A3l,h3]) ?_)⟩
   ·rw [hv,←A0v hb1]
    exact Le.refl _
   ·intro j x hj
    rw [A9b (by simpa using hsz)]
    have hj0:j<(cs++xs).length:=(List.getElem?_eq_some_iff.1 hj).1
    simp only [List.length_append]at hj0
    by_cases hjl:j<cs.length
    ·rw [if_neg oM]
     rw [List.getElem?_append_left hjl]at hj
     exact h4 j x hj
    ·rw [if_pos oM]
     rw [List.getElem?_append_right oM]at hj
     rw [←hj]
     congr 1
     omega
  ·refine grown oM (OwnS.row (.box (e:=e) h1 h2 h3 h4) |>.le ?_) h1
   intro j x hj
   exact A1l hb3.disj _ _ hj
end
theorem lies_whole{P:Program}{e:TypeId}{k m n:Nat}(hd:P.depth≠0)(h1:P.cellsOf e=k)(hk:k≠0)(h:n≤m / k):liesAt P P.depth e (m / P.cellsOf e) 0 e n=true:=by
 obtain⟨d,hd⟩:=Nat.exists_eq_succ_of_ne_zero hd
 have hs:sameLayout P P.depth e e=true:=by rw [hd];unfold sameLayout;simp
 have hr:rowAt P (sameLayout P P.depth · e) P.depth e (m / P.cellsOf e) 0 n=true:=by
  rw [h1]
  generalize hg:(fun t=>sameLayout P P.depth t e)=g
  have hge:g e=true:=by rw [←hg];exact hs
  rw [hd]
  unfold rowAt
  simp only [h1,if_neg hk,Nat.zero_div,Nat.zero_mod,Nat.zero_add]
  simp [hge,h]
 generalize hg:P.depth=q at *
 subst hd
 unfold liesAt
 rw [hg,hr];rfl
section
variable{P:Program}{mn:Who}(T:Tab P){rd:Option Nat}{n:Nat}{Q:Exit→St→View→Prop}{ds:List Deferred}{ρ:Regs}{β:A0e}{v:View}{K:St→View→Prop}
 {ops:Array Oper}{i:Nat}{d:Nat}{ty:TypeId}{pos:String}{af:Array Edge}{gu:Option (Nat×Bool)}
theorem A_appendS{t t' e:TypeId}{s:ByteArray}{k by_ m len cap:Nat}{y y2:Operand}{z:Value}{a:Option Addr}{cs xs:List Value}(seg drop rest:A0e)(ho:ops[i]?=some ⟨some d,.call {callee:=.builtin .append,args:=#[y,y2],argTypes:=#[t,t'] },ty,pos,af,gu⟩)(hw:A0p ops gu ρ=some true)(hn:Nat.blt d n=true)
  (hy:ρ.val y=some (.slice a len cap))(hy2:ρ.val y2=some (.string s))
  (ht:T.und t=some (.slice e))(hsn:s.size=m)(ht':T.und t'=some .string)(hs:T.siz e=some k)(hby:T.byt e=some by_)(hz:T.zer e=some z)(hzs:z.cells.size=k)
  (hsplit:∀p,cnt p β=cnt p (seg++(drop++rest)))(hS:OwnS e k seg a len cap cs)(hx:xs=strV s)(hxl:xs.length=m*k)(hone:xs.all A2k=true)
  (hb:(2*(len+m)+768)*by_≤2^48)(hp:0<by_)
  (h:∀seg' a' cap',OwnS e k seg' a' (len+m) cap' (cs++xs)→K ⟨ds,(d,.slice a' (len+m) cap')::ρ,seg'++rest⟩ v):XOp P mn rd n ops i Q K ⟨ds,ρ,β⟩ v:=
 Op_appendS T rest drop ho (A0j hw) hn rfl hy hy2 ht hsn ht' hs hby hz hzs hsplit hS hx hxl hone hb hp h
include T in
theorem sx_equal_same{E:Value→View→Prop}{w:View}{t e:TypeId}{a:Addr}{k:Nat}{K:Bool→View→Prop}(ht:T.und t=some (.pointer e))(hs:T.siz e=some (k+1))(h:K true w):SemX P (Op.equal t (.pointer (some a)) (.pointer (some a))) K E w:=by
 unfold Op.equal Op.maxDepth
 rw [show(10000:Nat)=9999+1 from Y,Op.equalIn,A0a,A1k T ht]
 simp only [A0a,A4f T hs]
 rw [if_pos oM]
 unfold sameAddr
 simp only [beq_self_eq_true,if_true]
 exact h
theorem A_ptrSame{t e:TypeId}{t':TypeId}{y z:Operand}{a:Addr}{k:Nat}(ho:ops[i]?=some ⟨some d,.binOp .neq t y z t',ty,pos,af,gu⟩)(hw:A0p ops gu ρ=some true)(hn:Nat.blt d n=true)
  (hy:ρ.val y=some (.pointer (some a)))(hz:ρ.val z=some (.pointer (some a)))(ht:T.und t=some (.pointer e))(hs:T.siz e=some (k+1))
  (h:K ⟨ds,(d,.bool false)::ρ,β⟩ v):XOp P mn rd n ops i Q K ⟨ds,ρ,β⟩ v:=by
 refine A1w ho (A0j hw) (.inr Y) hn fun ev hev hbk=>?_
 have heq:eqGuard .neq t y z (.pointer (some a)) (.pointer (some a))=pure ():=rfl
 simp only [execOp,hev _ _ hy,hev _ _ hz,A0a,heq,A0h,binOp]
 refine sx_equal_same T ht hs ?_
 exact⟨β,v,⟨hbk,Le.refl _⟩,h⟩
omit T in
theorem sx_seen{E:Value→View→Prop}{w:View}{a:Addr}{p:Bool}{c:Array Value}{e:TypeId}{f:Nat×Nat}{K:Addr→View→Prop}(hw:w a.block=some (p,.cells c e f))(h:K a w):SemX P (Conv.seenAt a) K E w:=by
 unfold Conv.seenAt viewAt
 simp only [A0a]
 exact⟨_,_,hw,h⟩
theorem A_toUnsafe{t1 t2 e tb:TypeId}{y:Operand}{b:Nat}{c:Array Value}{k:Nat}(ho:ops[i]?=some ⟨some d,.convert t1 t2 y,ty,pos,af,gu⟩)(hw:A0p ops gu ρ=some true)(hn:Nat.blt d n=true)
  (hy:ρ.val y=some (.pointer (some ⟨b,0,none⟩)))(h1:T.und t1=some (.pointer e))(h2:T.und t2=some .unsafePointer)(hs:T.siz e=some (k+1))(hin:InB b c tb β)(hc:0<c.size)
  (h:K ⟨ds,(d,.pointer (some ⟨b,0,none⟩))::ρ,β⟩ v):XOp P mn rd n ops i Q K ⟨ds,ρ,β⟩ v:=by
 refine A1w ho (A0j hw) (.inr Y) hn fun ev hev hbk=>?_
 have hv:=A0q (v:=v) hbk hin
 simp only [execOp,A0a,hev _ _ hy,convert,A1k T h1,A1k T h2,Conv.unsafePointer]
 refine sx_seen (a:=⟨b,0,none⟩) hv ?_
 unfold cellsIn
 simp only [A0a]
 refine⟨_,_,hv,?_⟩
 simp only [shapeOf,A0a,A0h,A4f T hs]
 show SemX P (if(decide (k+1=0)||(decide (0≥c.size)&&(none:Option (List Nat)).isNone))=true then _ else _) _ _ _
 rw [if_neg (by rw [decide_eq_false (show ¬k+1=0 by omega),decide_eq_false (show ¬0≥c.size by omega)];exact Bool.false_ne_true)]
 exact⟨β,v,⟨hbk,Le.refl _⟩,h⟩
theorem A_fromUnsafe{t1 t2 e:TypeId}{y:Operand}{b:Nat}{c:Array Value}{k:Nat}(ho:ops[i]?=some ⟨some d,.convert t1 t2 y,ty,pos,af,gu⟩)(hw:A0p ops gu ρ=some true)(hn:Nat.blt d n=true)
  (hy:ρ.val y=some (.pointer (some ⟨b,0,none⟩)))(h1:T.und t1=some .unsafePointer)(h2:T.und t2=some (.pointer e))(hs:T.siz e=some (k+1))(hin:InB b c e β)(hc:c.size=k+1)(hd:P.depth≠0)(h3:P.cellsOf e=k+1)
  (h:K ⟨ds,(d,.pointer (some ⟨b,0,none⟩))::ρ,β⟩ v):XOp P mn rd n ops i Q K ⟨ds,ρ,β⟩ v:=by
 refine A1w ho (A0j hw) (.inr Y) hn fun ev hev hbk=>?_
 have hv:=A0q (v:=v) hbk hin
 simp only [execOp,A0a,hev _ _ hy,convert,A1k T h1,A1k T h2,Conv.unsafePointer]
 refine sx_seen (a:=⟨b,0,none⟩) hv ?_
 unfold variablesAt
 simp only [A0a,A4f T hs,A1s]
 refine⟨_,_,hv,?_⟩
 simp only [shapeOf,A0h]
 show SemX P (if(decide (k+1=0)||liesAt P P.depth e (c.size / P.cellsOf e) 0 e 1)=true then _ else _) _ _ _
 rw [lies_whole hd h3 oM (by rw [hc,Nat.div_self oM];exact Nat.le_refl _),if_pos sM]
 exact⟨β,v,⟨hbk,Le.refl _⟩,h⟩
theorem A_sliceData{t:TypeId}{y:Operand}{a:Addr}{len cap:Nat}(ho:ops[i]?=some ⟨some d,.call {callee:=.builtin .unsafeSliceData,args:=#[y],argTypes:=#[t] },ty,pos,af,gu⟩)(hw:A0p ops gu ρ=some true)(hn:Nat.blt d n=true)
  (hy:ρ.val y=some (.slice (some a) len cap))(hc:cap≠0)
  (h:K ⟨ds,(d,.pointer (some a))::ρ,β⟩ v):XOp P mn rd n ops i Q K ⟨ds,ρ,β⟩ v:=by
 refine A1w ho (A0j hw) (.inr Y) hn fun ev hev hbk=>?_
 simp only [execOp,resolve,show(#[y]:Array Operand).map ev=#[ev y]from by simp,hev _ _ hy,A0a,A0h,invoke,builtin]
 show SemX P (if cap≠0 then _ else _) _ _ _
 rw [if_pos hc]
 exact⟨β,v,⟨hbk,Le.refl _⟩,h⟩
theorem A_sliceData0{t:TypeId}{y:Operand}{len cap:Nat}(ho:ops[i]?=some ⟨some d,.call {callee:=.builtin .unsafeSliceData,args:=#[y],argTypes:=#[t] },ty,pos,af,gu⟩)(hw:A0p ops gu ρ=some true)(hn:Nat.blt d n=true)
  (hy:ρ.val y=some (.slice none len cap))
  (h:K ⟨ds,(d,.pointer none)::ρ,β⟩ v):XOp P mn rd n ops i Q K ⟨ds,ρ,β⟩ v:=by
 refine A1w ho (A0j hw) (.inr Y) hn fun ev hev hbk=>?_
 simp only [execOp,resolve,show(#[y]:Array Operand).map ev=#[ev y]from by simp,hev _ _ hy,A0a,A0h,invoke,builtin]
 exact⟨β,v,⟨hbk,Le.refl _⟩,h⟩
theorem A_string0{t t2:TypeId}{y z:Operand}{p:Option Addr}(ho:ops[i]?=some ⟨some d,.call {callee:=.builtin .unsafeString,args:=#[y,z],argTypes:=#[t,t2] },ty,pos,af,gu⟩)(hw:A0p ops gu ρ=some true)(hn:Nat.blt d n=true)
  (hy:ρ.val y=some (.pointer p))(hz:ρ.val z=some (.int .i64 0))
  (h:K ⟨ds,(d,.string ⟨#[]⟩)::ρ,β⟩ v):XOp P mn rd n ops i Q K ⟨ds,ρ,β⟩ v:=by
 refine A1w ho (A0j hw) (.inr Y) hn fun ev hev hbk=>?_
 simp only [execOp,resolve,show(#[y,z]:Array Operand).map ev=#[ev y,ev z]from by simp,hev _ _ hy,hev _ _ hz,A0a,A0h,invoke,builtin]
 cases p<;>exact⟨β,v,⟨hbk,Le.refl _⟩,h⟩
end
section
variable{P:Program}{mn:Who}(T:Tab P){rd:Option Nat}{n:Nat}{Q:Exit→St→View→Prop}{ds:List Deferred}{ρ:Regs}{β:A0e}{v:View}{K:St→View→Prop}
 {ops:Array Oper}{i:Nat}{d:Nat}{ty:TypeId}{pos:String}{af:Array Edge}{gu:Option (Nat×Bool)}
abbrev ExtTo(ds:List Deferred)(d:Nat)(ρ:Regs)(K:St→View→Prop)(y:Value)(w:View):Prop:=∃β' u,(Bok β' u∧(u.union (A0c β')).Le w)∧K ⟨ds,(d,y)::ρ,β'⟩ u
theorem A_extM{f:FuncId}{fn:Func}{aS:Array Operand}{ats:Array TypeId}{e:Array Value→Sem Value}{xs:List Value}(ho:ops[i]?=some ⟨some d,.call {callee:=.value (.func f),args:=aS,argTypes:=ats },ty,pos,af,gu⟩)(hw:A0p ops gu ρ=some true)(hn:Nat.blt d n=true)
  (E:Ext P f fn e)(hxs:A2s ρ.val aS.toList=some xs)(hp:Bok β v→∀E':Value→View→Prop,SemX P (e xs.toArray) (ExtTo ds d ρ K) E' (v.union (A0c β))):XOp P mn rd n ops i Q K ⟨ds,ρ,β⟩ v:=by
 refine A1w ho (A0j hw) (.inr Y) hn fun ev hev hbk=>?_
 have ha:aS.map ev=xs.toArray:=Array.toList_inj.1 (by simpa using A2c hev hxs)
 have hf:ev (.func f) = .func (.func f) #[] #[]:=hev _ _ Y
 unfold execOp
 simp only [resolve,Deferred.ofValue,hf,ha,A0a,A0h,invoke]
 unfold callFunc
 have hn2:(fn.name == "runtime.NumGoroutine")=false:=E.hname
 simp only [A0a,A1s,E.hf,hn2,E.hb,Bool.false_eq_true,if_false,if_true]
 refine⟨?_,?_⟩
 ·trivial
 ·simp only [E.hn,A0a,E.he]
  have e0:(#[]:Array Value)++xs.toArray++#[]=xs.toArray:=by simp
  first
   | exact hp hbk _
   | (rw [e0];exact hp hbk _)
theorem A_extI{recv:Operand}{name:String}{f:FuncId}{fn:Func}{aS:Array Operand}{ats:Array TypeId}{e:Array Value→Sem Value}{t:TypeId}{x z y:Value}{xs:List Value}(ho:ops[i]?=some ⟨some d,.call {callee:=.invoke recv name,args:=aS,argTypes:=ats },ty,pos,af,gu⟩)(hw:A0p ops gu ρ=some true)(hn:Nat.blt d n=true)
  (E:Ext P f fn e)(hx:ρ.val recv=some (.iface t x))(hxs:A2s ρ.val aS.toList=some xs)
  (hm:∀(KK:FuncId×Value→View→Prop) (E':Value→View→Prop) (w:View),SemX P (method (P.types.size+Made.depth) t x name) KK E' w=KK (f,z) w)
  (hp:∀(K:Value→View→Prop) (E:Value→View→Prop) (w:View),SemX P (e (z::xs).toArray) K E w=K y w)(h:K ⟨ds,(d,y)::ρ,β⟩ v):XOp P mn rd n ops i Q K ⟨ds,ρ,β⟩ v:=by
 refine A1w ho (A0j hw) (.inr Y) hn fun ev hev hbk=>?_
 have ha:aS.map ev=xs.toArray:=Array.toList_inj.1 (by simpa using A2c hev hxs)
 unfold execOp
 simp only [resolve,hev _ _ hx,ha,A0a,A0h,invoke]
 have h0:(#[.iface t x]++xs.toArray:Array Value)[0]?=some (.iface t x):=by simp
 have h1:(#[.iface t x]++xs.toArray:Array Value).extract 1 (#[.iface t x]++xs.toArray:Array Value).size=xs.toArray:=by
  apply Array.ext'
  simp
 simp only [h0,h1,callMethod,A0a,A1s]
 rw [hm]
 have h2:(#[z]++xs.toArray:Array Value)=(z::xs).toArray:=by apply Array.ext';simp
 simp only [h2]
 unfold callFunc
 have hn2:(fn.name == "runtime.NumGoroutine")=false:=E.hname
 simp only [A0a,A1s,E.hf,hn2,E.hb,Bool.false_eq_true,if_false,if_true]
 refine⟨?_,?_⟩
 ·trivial
 ·simp only [E.hn,A0a,E.he]
  exact(hp _ _ _).mpr ⟨β,v,⟨hbk,Le.refl _⟩,h⟩
theorem A_eqlNil{t t2:TypeId}{y:Operand}{x:Value}{ms:Array (String×TypeId)}{r:Bool}(ho:ops[i]?=some ⟨some d,.binOp .eql t y (.const .nilIface) t2,ty,pos,af,gu⟩)(hw:A0p ops gu ρ=some true)(hn:Nat.blt d n=true)(hy:ρ.val y=some x)(ht:T.und t=some (.interface ms))
  (hx:(r=true∧x = .nilIface)∨(r=false∧∃tx vx,x = .iface tx vx))(h:K ⟨ds,(d,.bool r)::ρ,β⟩ v):XOp P mn rd n ops i Q K ⟨ds,ρ,β⟩ v:=by
 refine A1w ho (A0j hw) (.inr Y) hn fun ev hev hbk=>?_
 have hc:ev (.const .nilIface) = .nilIface:=hev _ _ Y
 rcases hx with ⟨rfl,rfl⟩|⟨rfl,tx,vx,rfl⟩
 ·simp only [execOp,A0a,hev _ _ hy,hc,eqGuard,binOp,Op.equal]
  simp only [Bool.or_true,if_true,A0h,A0a]
  unfold Op.equalIn
  simp only [Op.maxDepth,A0a,A1k T ht,A0h]
  exact⟨β,v,⟨hbk,Le.refl _⟩,h⟩
 ·simp only [execOp,A0a,hev _ _ hy,hc,eqGuard,binOp,Op.equal]
  simp only [Bool.false_eq_true,if_false,A0h,A0a]
  unfold Op.equalIn
  simp only [Op.maxDepth,A0a,A1k T ht,A0h]
  exact⟨β,v,⟨hbk,Le.refl _⟩,h⟩
omit T in
theorem box_put{b:Nat}{c c':Array Value}{t:TypeId}{β':A0e}(hbk:Bok β v)(hin:InB b c t β)(hset:SetB b c' β β'):Bok β' v∧(v.union (A0c β')).Le ((v.union (A0c β)).set b true (.cells c' t (0,0))):=by
 obtain⟨hbk',c₀,t₀,hin',hv⟩:=A8g hbk hset
 have hcc:c₀=c∧t₀=t:=by
  have h1:=A0q (v:=v) hbk hin'
  have h2:=A0q (v:=v) hbk hin
  rw [h1]at h2
  simp only [Option.some.injEq,Prod.mk.injEq,Obj.cells.injEq]at h2
  exact⟨h2.2.1,h2.2.2.1⟩
 obtain⟨rfl,rfl⟩:=hcc
 refine⟨hbk',?_⟩
 rw [hv]
 exact Le.refl _
end
end Go.Pal
end
section
namespace Go.Proofs.YtclejblcnfaeaaaGreatDoor
open Go Go.Pal Go.Pal.To Go.Conc View
open Go.Extern
open Go.Proofs.Tryz
set_option maxHeartbeats 4000000
set_option maxRecDepth 20000
abbrev hT(t:Nat):Value:=.pointer (some ⟨2,t,none⟩)
abbrev rtV(t:Nat):Value:=.iface 253 (.agg (List.toArray [hT t]))
abbrev rvV(t b:Nat)(fl:Int):Value:=.agg (List.toArray [hT t,.pointer (some ⟨b,0,none⟩),.int .u64 fl])
abbrev rfV(x y z:Int):Value:=.agg (List.toArray [intV x,intV y,intV z])
theorem e107:Ext prog 107 f107 (fun args=>ReflectliteValue.unpack (args.getD 0 (.tuple #[]))):=⟨func107,Y,Y,by kernel_rfl,kR⟩
theorem e108:Ext prog 108 f108 (ReflectliteValue.methodAny (ReflectliteValue.valueError "reflectlite.Value.Type" 0) (fun t _ _ _=>ReflectliteType.toType t)):=⟨func108,rfl,rfl,by kernel_rfl,kR⟩
theorem e109:Ext prog 109 f109 (ReflectliteValue.method (ReflectliteValue.valueError "reflectlite.Value.IsNil" 0) ReflectliteValue.isNil):=⟨func109,rfl,rfl,by kernel_rfl,kR⟩
theorem e265:Ext prog 265 f265 (ReflectliteType.abiMethod fun t=>do pure (.int .u8 (←Rtype.kind t))):=⟨func265,Y,Y,by kernel_rfl,kR⟩
theorem e281:Ext prog 281 f281 (ReflectliteType.method ReflectliteType.elem):=⟨func281,Y,Y,by kernel_rfl,kR⟩
theorem e282:Ext prog 282 f282 (ReflectliteType.relation "Implements" ReflectliteType.implements_):=⟨func282,rfl,rfl,by kernel_rfl,kR⟩
theorem e279:Ext prog 279 f279 (ReflectliteType.relation "AssignableTo" ReflectliteType.assignableTo):=⟨func279,rfl,rfl,by kernel_rfl,kR⟩
theorem e145:Ext prog 145 f145 ReflectliteType.typeOf:=⟨func145,Y,Y,by kernel_rfl,kR⟩
theorem e146:Ext prog 146 f146 (ReflectliteValue.method (ReflectliteValue.valueError "reflectlite.Value.Elem" 0) ReflectliteValue.elem):=⟨func146,rfl,rfl,by kernel_rfl,kR⟩
theorem e147:Ext prog 147 f147 ReflectliteValue.set:=⟨func147,Y,Y,by kernel_rfl,kR⟩
section
variable(KK:FuncId×Value→View→Prop)(K:Value→View→Prop)(E:Value→View→Prop)(w:View)
theorem mKind{h:Value}:SemX prog (Go.method (prog.types.size+Made.depth) 253 (.agg (List.toArray [h])) "Kind") KK E w=KK (265,h) w:=by kernel_rfl
theorem mElem{h:Value}:SemX prog (Go.method (prog.types.size+Made.depth) 253 (.agg (List.toArray [h])) "Elem") KK E w=KK (281,.agg (List.toArray [h])) w:=by kernel_rfl
theorem mImpl{h:Value}:SemX prog (Go.method (prog.types.size+Made.depth) 253 (.agg (List.toArray [h])) "Implements") KK E w=KK (282,.agg (List.toArray [h])) w:=by kernel_rfl
theorem mAss{h:Value}:SemX prog (Go.method (prog.types.size+Made.depth) 253 (.agg (List.toArray [h])) "AssignableTo") KK E w=KK (279,.agg (List.toArray [h])) w:=by kernel_rfl
theorem k117:SemX prog ((ReflectliteType.abiMethod fun t=>do pure (.int .u8 (←Rtype.kind t))) (hT 117::[]).toArray) K E w=K (.int .u8 22) w:=by kernel_rfl
theorem k115:SemX prog ((ReflectliteType.abiMethod fun t=>do pure (.int .u8 (←Rtype.kind t))) (hT 115::[]).toArray) K E w=K (.int .u8 25) w:=by kernel_rfl
theorem el117:SemX prog ((ReflectliteType.method ReflectliteType.elem) (.agg (List.toArray [hT 117])::[]).toArray) K E w=K (rtV 115) w:=by kernel_rfl
theorem im115:SemX prog ((ReflectliteType.relation "Implements" ReflectliteType.implements_) (.agg (List.toArray [hT 115])::[rtV 101]).toArray) K E w=K (.bool true) w:=by kernel_rfl
theorem as115:SemX prog ((ReflectliteType.relation "AssignableTo" ReflectliteType.assignableTo) (.agg (List.toArray [hT 115])::[rtV 115]).toArray) K E w=K (.bool true) w:=by kernel_rfl
theorem ty115{x:Value}:SemX prog (ReflectliteType.typeOf [.iface 115 x].toArray) K E w=K (rtV 115) w:=by kernel_rfl
theorem vt117{b:Nat}:SemX prog ((ReflectliteValue.methodAny (ReflectliteValue.valueError "reflectlite.Value.Type" 0) (fun t _ _ _=>ReflectliteType.toType t)) [rvV 117 b 150].toArray) K E w=K (rtV 117) w:=by kernel_rfl
theorem un117{r:Nat}:SemX prog (ReflectliteValue.unpack (.iface 117 (.pointer (some ⟨r,0,none⟩)))) K E w = ∀b,w b=none→K (rvV 117 b 150) (w.set b true (.cells (List.toArray [.pointer (some ⟨r,0,none⟩)]) 117 (0,0))):=by kernel_rfl
theorem un115{x y z:Int}:SemX prog (ReflectliteValue.unpack (.iface 115 (rfV x y z))) K E w = ∀b,w b=none→K (rvV 115 b 153) (w.set b true (.cells (rfV x y z).cells 115 (0,0))):=by kernel_rfl
theorem parts117{K:Option (TypeId×Addr×Nat)→View→Prop}{b:Nat}:SemX prog (ReflectliteValue.parts (rvV 117 b 150)) K E w=K (some (117,⟨b,0,none⟩,150)) w:=by kernel_rfl
theorem parts115{K:Option (TypeId×Addr×Nat)→View→Prop}{b:Nat}:SemX prog (ReflectliteValue.parts (rvV 115 b 153)) K E w=K (some (115,⟨b,0,none⟩,153)) w:=by kernel_rfl
theorem parts115a{K:Option (TypeId×Addr×Nat)→View→Prop}{b:Nat}:SemX prog (ReflectliteValue.parts (rvV 115 b 409)) K E w=K (some (115,⟨b,0,none⟩,409)) w:=by kernel_rfl
theorem direct115{K:Bool→View→Prop}:SemX prog (Rtype.directlyAssignable 115 115) K E w=K true w:=by kernel_rfl
theorem elemOf117{K:Option TypeId→View→Prop}:SemX prog (Rtype.elem? 117) K E w=K (some 115) w:=by kernel_rfl
theorem mk115{r:Nat}:SemX prog (ReflectliteValue.mk 115 ⟨r,0,none⟩ ReflectliteValue.flagAddr) K E w=K (rvV 115 r 409) w:=by kernel_rfl
theorem rlm(z:Sem Value)(f:TypeId→Addr→Nat→Nat→Sem Value)(v:Value) :
  ReflectliteValue.method z f #[v]=(do match ←ReflectliteValue.parts v with|none=>z|some (t,a,fl)=>f t a fl (fl % 32)):=rfl
variable{K}{w}
theorem nil117{b r:Nat}{p:Bool}{f:Nat×Nat}(hb:w b=some (p,.cells (List.toArray [.pointer (some ⟨r,0,none⟩)]) 117 f))(h:K (.bool false) w) :
  SemX prog ((ReflectliteValue.method (ReflectliteValue.valueError "reflectlite.Value.IsNil" 0) ReflectliteValue.isNil) [rvV 117 b 150].toArray) K E w:=by
 show SemX prog (ReflectliteValue.method _ _ #[rvV 117 b 150]) K E w
 rw [rlm,A0a,parts117]
 show SemX prog (ReflectliteValue.isNil 117 ⟨b,0,none⟩ 150 22) K E w
 show SemX prog (loadVar 117 ⟨b,0,none⟩ >>= _) K E w
 rw [A0a]
 exact A2z tab hb (x:=.pointer (some ⟨r,0,none⟩)) Y h
theorem elv117{b r:Nat}{p:Bool}{f:Nat×Nat}(hb:w b=some (p,.cells (List.toArray [.pointer (some ⟨r,0,none⟩)]) 117 f))(h:K (rvV 115 r 409) w) :
  SemX prog ((ReflectliteValue.method (ReflectliteValue.valueError "reflectlite.Value.Elem" 0) ReflectliteValue.elem) [rvV 117 b 150].toArray) K E w:=by
 show SemX prog (ReflectliteValue.method _ _ #[rvV 117 b 150]) K E w
 rw [rlm,A0a,parts117]
 show SemX prog (ReflectliteValue.elem 117 ⟨b,0,none⟩ 150 22) K E w
 show SemX prog (loadVar 117 ⟨b,0,none⟩ >>= _) K E w
 rw [A0a]
 refine A2z tab hb (x:=.pointer (some ⟨r,0,none⟩)) Y ?_
 show SemX prog (Rtype.elem? 117 >>= _) K E w
 rw [A0a,elemOf117]
 show SemX prog (ReflectliteValue.mk 115 ⟨r,0,none⟩ ReflectliteValue.flagAddr) K E w
 rw [mk115]
 exact h
theorem rls(v x:Value):ReflectliteValue.set #[v,x]=(do
  let (some (dst,a,fl),some (src,b,_)):=(←ReflectliteValue.parts v,←ReflectliteValue.parts x)
   | unsupported (.noEntry "extern/(internal/reflectlite.Value).Set.zeroValue")
  if fl / ReflectliteValue.flagAddr % 2==0 then unsupported (.noEntry "extern/(internal/reflectlite.Value).Set.unaddressable")
  let val ←loadVar src b
  if ←Rtype.directlyAssignable dst src then storeVar dst a val
  else if ←Rtype.implements dst src then
   if(←Rtype.kind src)==20 then
    match val with
    | .nilIface=>unsupported (.noEntry "extern/reflectlite: a nil value of one interface type handed on as a value of another")
    | _=>storeVar dst a val
   else storeVar dst a (.iface src val)
  else panicString ("reflectlite.Set: value of type "++(←Rtype.spelt src)++ " is not assignable to type "++(←Rtype.spelt dst))
  pure (.tuple #[])):=rfl
theorem set115{b r:Nat}{p:Bool}{f:Nat×Nat}{x y z:Int}{c:Array Value}{t:TypeId}(hb:w b=some (p,.cells (rfV x y z).cells 115 f))(hr:w r=some (true,.cells c t (0,0)))(hc:c.size=3)
  (h:K (.tuple (List.toArray [])) (w.set r true (.cells (A0z c 0 [intV x,intV y,intV z]) t (0,0)))) :
  SemX prog (ReflectliteValue.set [rvV 115 r 409,rvV 115 b 153].toArray) K E w:=by
 show SemX prog (ReflectliteValue.set #[rvV 115 r 409,rvV 115 b 153]) K E w
 rw [rls,A0a,parts115a,A0a,parts115]
 show SemX prog (loadVar 115 ⟨b,0,none⟩ >>= _) K E w
 rw [A0a]
 refine A2z tab hb (x:=rfV x y z) Y ?_
 rw [A0a,direct115]
 show SemX prog (storeVar 115 ⟨r,0,none⟩ (rfV x y z) >>= _) K E w
 rw [A0a]
 unfold storeVar
 rw [A0a,A4f tab (t:=115) Y,if_neg (fun h=>h Y)]
 exact A3q (off:=0) (c:=c) (j:=0) Y hr (by rw [hc];exact Nat.le_refl 3) h
end
theorem putV_rv{b:Nat}:(putV (Value.agg (List.toArray [.pointer none,.pointer none,.int .u64 0])).cells.toList 0 (rvV 117 b 150).cells.toList).toArray=(rvV 117 b 150).cells:=rfl
section
variable{mn:Who}{v:View}
theorem asNil_x{t:Value}:Ret1 prog mn 62 [.nilIface,t] (.bool false) v:=by
 refine A0d tab func62 Y nB (args:=[_,_]) ?_
 refine su ?_
 refine Q_op fun ho=>A_eqlNil tab (r:=true) ho Y Y Y Y (.inl ⟨Y,Y⟩) ?_
 clear ho
 refine su ?_
 refine A0f tab [] (by exact .tmp rfl .nil) (Back.here cntL) ?_
 exact⟨Y,Y⟩
theorem as_loop{x y z:Int}{b r:Nat}{c:Array Value}(hc:c.size=3) :
  CallsB prog mn 110 #[.iface 115 (rfV x y z),.iface 117 (.pointer (some ⟨r,0,none⟩)),rvV 117 b 150,rtV 115] (RetB fun q β'=>q = .bool true∧β'=[(r,A0z c 0 [intV x,intV y,intV z],115)])
   [(r,c,115),(b,List.toArray [.pointer (some ⟨r,0,none⟩)],117)] v:=by
 refine A0d tab func110 Y nB (args:=[_,_,_,_]) ?_
 refine sw fun bx=>?_
 obtain⟨b6,rfl⟩:∃x:Nat,x=bx:=⟨bx,rfl⟩
 refine A1q (α:=Nat) (fun i=>⟨[],[(0,.iface 115 (rfV x y z)),(1,.iface 117 (.pointer (some ⟨r,0,none⟩))),(6,.pointer (some ⟨b6,0,none⟩)),(3,rtV 115)],[(b6,(rvV 117 b 150).cells,206),(r,c,115),(b,List.toArray [.pointer (some ⟨r,0,none⟩)],117)]⟩)
  (fun i u=>u=v) (fun i=>0) 0 ⟨Y,rg,cntL⟩ (Le.refl _) Y ?_
 rintro i u rfl
 refine su ?_
 refine Q_op fun ho=>A_ext ho Y Y e145 Y (fun K E w h=>(ty115 K E w).mpr h) ?_
 clear ho
 refine su ?_
 refine Q_op fun ho=>A_extI ho Y Y e279 Y Y (fun KK E w=>mAss KK E w) (fun K E w=>as115 K E w) ?_
 clear ho
 refine su ?_
 refine Q_op fun ho=>A_extM ho Y Y e146 Y (fun hbk E'=>elv117 E' (r:=r) (A0q hbk ib) ⟨_,u,⟨hbk,Le.refl _⟩,?_⟩)
 clear ho
 refine su ?_
 refine Q_op fun ho=>A_extM ho Y Y e107 Y (fun hbk E'=>(un115 _ E' _).mpr fun b2 hb2=>⟨_,u,A7m hbk hb2,?_⟩)
 clear ho
 refine su ?_
 refine Q_op fun ho=>A_extM ho Y Y e147 Y (fun hbk E'=>set115 E' (x:=x) (y:=y) (z:=z) (c:=c) (t:=115) (A0q hbk ib) (A0q hbk ib) hc ⟨_,u,box_put hbk ib sb,?_⟩)
 clear ho
 refine su ?_
 refine A0f tab [(r,A0z c 0 [intV x,intV y,intV z],115)] (by exact .tmp rfl .nil) (Back.here cntL) ⟨Y,Y⟩
theorem as_x{x y z:Int}{r:Nat}{c:Array Value}(hc:c.size=3)(hg:RowAt v (some ⟨0,0,none⟩) [rtV 101]) :
  CallsB prog mn 62 #[.iface 115 (rfV x y z),.iface 117 (.pointer (some ⟨r,0,none⟩))] (RetB fun q β'=>q = .bool true∧β'=[(r,A0z c 0 [intV x,intV y,intV z],115)]) [(r,c,115)] v:=by
 obtain⟨b0,o0,p0,c0,e0,f0,e,hv0,hc0⟩:=row_cell hg (j:=0) rfl
 cases e
 refine A0d tab func62 Y nB (args:=[_,_]) ?_
 refine su ?_
 refine Q_op fun ho=>A_eqlNil tab (r:=false) ho Y Y Y Y (.inr ⟨Y,_,_,Y⟩) ?_
 clear ho
 refine su ?_
 refine Q_op fun ho=>A_eqlNil tab (r:=false) ho Y Y Y Y (.inr ⟨Y,_,_,Y⟩) ?_
 clear ho
 refine su ?_
 refine Q_op fun ho=>A_extM ho Y Y e107 Y (fun hbk E'=>(un117 _ E' _).mpr fun b hb=>⟨_,v,A7m hbk hb,?_⟩)
 clear ho
 refine sw fun bx=>?_
 obtain⟨b5,rfl⟩:∃x:Nat,x=bx:=⟨bx,rfl⟩
 rw [putV_rv]
 refine su ?_
 refine Q_op fun ho=>A_ext ho Y Y e108 Y (fun K E w h=>(vt117 K E w).mpr h) ?_
 clear ho
 refine su ?_
 refine Q_op fun ho=>A_extI ho Y Y e265 Y Y (fun KK E w=>mKind KK E w) (fun K E w=>k117 K E w) ?_
 clear ho
 refine su ?_
 refine Q_op fun ho=>A_extM ho Y Y e109 Y (fun hbk E'=>nil117 E' (r:=r) (A0q hbk ib) ⟨_,v,⟨hbk,Le.refl _⟩,?_⟩)
 clear ho
 refine su ?_
 refine Q_op fun ho=>A_extI ho Y Y e281 Y Y (fun KK E w=>mElem KK E w) (fun K E w=>el117 K E w) ?_
 clear ho
 refine su ?_
 refine Q_op fun ho=>A_extI ho Y Y e265 Y Y (fun KK E w=>mKind KK E w) (fun K E w=>k115 K E w) ?_
 clear ho
 refine su ?_
 refine A2b tab Y Y Y hv0 (A0l tab Y Y Y hc0) ?_
 refine su ?_
 refine Q_op fun ho=>A_extI ho Y Y e282 Y Y (fun KK E w=>mImpl KK E w) (fun K E w=>im115 K E w) ?_
 clear ho
 refine su ?_
 refine Q_op fun ho=>A0o [(r,c,115),(b,List.toArray [.pointer (some ⟨r,0,none⟩)],117)] [(b5,(rvV 117 b 150).cells,206)] ho bod110 Y Y Y Y Y cntA (as_loop hc) (fun x β' hR=>?_)
 clear ho
 obtain⟨rfl,rfl⟩:=hR
 refine su ?_
 refine A0f tab [(r,A0z c 0 [intV x,intV y,intV z],115)] (by exact .tmp rfl .nil) (Back.here cntL) ⟨Y,Y⟩
end
end Go.Proofs.YtclejblcnfaeaaaGreatDoor
end
section
namespace Go.Proofs.YtclejblcnfaeaaaGreatDoor
open Go Go.Pal Go.Pal.To Go.Conc View
open Go.Proofs.Tryz
set_option maxHeartbeats 4000000
set_option maxRecDepth 20000
def spU(P:Int)(d:List Int):Nat→Value→A0e→Prop
 | 4,y,β=>OwnI 3 1 y β d.length (d.map intV)
 | 5,y,β=>∃ad cd,y = .agg (trC P ad d.length cd none 0 0)∧OwnS 3 1 β ad d.length cd (d.map intV)
 | _,y,β=>∃b,y = .pointer (some ⟨b,0,none⟩)∧β=[(b,trZ,36)]
def preU:Nat→List Nat|5=>[4]|_=>[]
def dstU(i:Nat):Nat:=bif Nat.beq i 6 then 7 else i+22
def ErrT(v:View):Prop:=RowAt v (some ⟨0,0,none⟩) [rtV 101]
theorem ErrT.le{u v:View}(h:ErrT u)(hl:u.Le v):ErrT v:=RowAt.le h hl
section
variable{mn:Who}{v:View}{P:Int}{aD aA:Option Addr}{cD cA:Nat}{d:List Int}{a:List MA}
theorem tradeP_x(hg:ErrT v)(hd:RowAt v aD (d.map intV))(hdl:d.length<2^30)(ha:ActsAt v aA a)(hal:a.length<2^30) :
  A6l prog mn 11 [moV P aD d.length cD,.slice aA a.length cA] (fun x u=>TradeAt u x (tradeR P d a)) v:=by
 refine A3k tab func11 Y nB (args:=[_,_]) ?_
 refine sw fun bx=>?_;refine sw fun bx=>?_
 rename_i b2
 obtain⟨b4,rfl⟩:∃x:Nat,x=bx:=⟨bx,rfl⟩
 refine Q_op fun ho=>A3w tab ho Y Y Y Y Y Y Y Y Y (fun bL cL hL=>?_)
 clear ho
 refine A8x (β1:=[(bL,cL,28)]) (β2:=[(b4,trZ,36),(b2,(moV P aD d.length cD).cells,26)]) (fun _=>rfl) (fun hbk=>?_)
 have hrL:=RowAt.own hbk (by exact cntL) hL
 have hl1:=A0g v (A0c [(bL,cL,28)])
 generalize v.union (A0c [(bL,cL,28)])=v1 at *
 have hls:SlAt v1 [.slice aA a.length cA] [a]:=.cons (ha.le hl1) .nil
 refine Q_op fun ho=>A0u ho bod57 Y Y Y Y Y (B0n (most:=8) (ls:=[a]) (hd.le hl1) hdl hrL hls sM (fun l hl=>by simp only [List.mem_cons,List.not_mem_nil,or_false]at hl;subst hl;assumption)) ?_
 clear ho
 rw [show chkBooks P d 8 [a]=holdE P d a from rfl]
 clear hL hrL hls hbk
 replace ha:=ha.le hl1
 replace hd:=hd.le hl1
 replace hg:=hg.le hl1
 unfold tradeR
 by_cases h:holdE P d a=0
 ·rw [h,if_neg sM]
  have hok:=holdE_ok.1 h
  have hal8:=hok.len
  have hml:=hok.m.len
  have hP4:=hok.m.p
  refine su ?_
  refine A1d [4,5,6,7] [0,1,2,3,4,5,6,7] A1e Y kR ?_
  refine su ?_
  refine S_tree (Sp:=spU P d) (pre:=preU) [4,5,6] dstU dM dM (fun j hj=>?_) dM dM (fun j hj=>?_) (by repeat (first|exact trivial|(refine⟨?_,?_⟩;focus exact ib))) kR (fun j hj c hc u' hu'=>?_) (fun c hc hz=>?_)
  ·simp only [List.mem_cons,List.not_mem_nil,or_false]at hj
   rcases hj with rfl|rfl|rfl<;>rfl
  ·simp only [List.mem_cons,List.not_mem_nil,or_false]at hj
   rcases hj with rfl|rfl|rfl<;>exact⟨fun o ho=>by cases ho;rfl,rfl⟩
  ·simp only [List.mem_cons,List.not_mem_nil,or_false]at hj
   rcases hj with rfl|rfl|rfl
   ·refine A3x tab (xs:=d.map intV) [] [] [(b4,trZ,36),(b2,(moV P aD d.length cD).cells,26)] Y Y Y Y Y Y Y Y Y Y Y cntA .nil
     (fun _=>(hd.le hu').le (A0g _ _)) sM (by simp [List.all_eq_true,A2k]) oM oM (fun seg a'' cap' hS'=>⟨Y,_,seg,⟨a'',cap',by rw [Nat.zero_add],by rw [Nat.zero_add]at hS';exact hS'⟩,Y⟩)
   ·obtain⟨aE,kE,h1,hE⟩:spU P d 4 (c 4).1 (c 4).2:=hc 4 dM
    simp only [show preU 5=[4]from Y,netR,netβ,h1]
    exact A_mk tab Y Y Y Y ⟨Y,.agg (trC P aE d.length kE none 0 0),(c 4).2,⟨aE,kE,Y,hE⟩,Y⟩
   ·exact A8z tab Y Y Y Y (fun b=>⟨Y,_,_,⟨b,Y,Y⟩,Y⟩)
  obtain⟨a6,k6,e6,hS6⟩:spU P d 5 (c 5).1 (c 5).2:=hc 5 dM dM
  obtain⟨b7,e7,f7⟩:spU P d 6 (c 6).1 (c 6).2:=hc 6 dM dM
  have f4:(c 4).2=[]:=hz 4 dM dM
  simp only [netR,netβ,e6,e7,f7,f4]
  generalize (c 5).2=sgA at hS6⊢
  clear hc hz e6 e7 f7 f4
  refine su ?_
  rw [putV_tr]
  refine A8x (β1:=sgA) (β2:=[(b7,trC P a6 d.length k6 none 0 0,36),(b4,trZ,36),(b2,(moV P aD d.length cD).cells,26)]) cntA (fun hbk=>?_)
  have hd6:=RowAt.own hbk (by exact cntL) hS6
  have hlw:=A0g v1 (A0c sgA)
  replace hl1:=hl1.trans hlw
  replace ha:=ha.le hlw
  replace hd:=hd.le hlw
  replace hg:=hg.le hlw
  clear hbk hlw
  generalize v1.union (A0c sgA)=w1 at *
  clear hS6
  refine Q_op fun ho=>A0o [] _ ho bod58 Y Y Y Y Y A7s (open_x (hd.le (A0g _ _)) hok.m.len) (fun x β' hR=>?_)
  clear ho
  obtain⟨bd,rfl,rfl⟩:=hR
  refine su ?_
  refine A1q (α:=TrS) (fun z=>⟨[],[(32,.int .i64 z.i),(31,.int .i64 a.length),(30,.slice aA a.length cA),(7,.pointer (some ⟨b7,0,none⟩)),(8,.pointer (some ⟨bd,0,none⟩)),(4,.pointer (some ⟨b4,0,none⟩))],z.sg++[(b7,trC P a6 d.length k6 z.a (B2z d (a.take z.i)).length z.cap,36),(bd,owC (intV P) (.slice aD d.length cD) (A3z d (a.take z.i)),106),(b4,trZ,36)]⟩)
   (fun z u=>w1.Le u∧z.i≤a.length∧OwnS 43 3 z.sg z.a (B2z d (a.take z.i)).length z.cap z.ys.flatten∧DlsAt u z.ys (B2z d (a.take z.i))) (fun z=>a.length-z.i) ⟨0,[],none,0,[]⟩ ⟨Y,rg,show Subm [(b7,trC P a6 d.length k6 none 0 0,36),(bd,owC (intV P) (.slice aD d.length cD) d,106),(b4,trZ,36)] [(bd,owC (intV P) (.slice aD d.length cD) d,106),(b7,trC P a6 d.length k6 none 0 0,36),(b4,trZ,36),(b2,(moV P aD d.length cD).cells,26)]from cntL⟩ (Le.refl _) ⟨Le.refl _,Nat.zero_le _,.nil,DlsAt.nil⟩ ?_
  rintro⟨i,sg,aq,cap,ys⟩ u ⟨hwu,hi,hS,hY⟩
  simp only at hwu hi hS hY
  dsimp only
  refine su ?_
  refine A1i Y (fun h=>?_) (fun h=>?_)
  ·have hlt:i<a.length:=by have:=of_decide_eq_true h;omega
   rename_i hh0
   clear h
   obtain⟨bb,off,p,c',e,f,rfl,hv,hc⟩:=(ha.le hwu).get hlt
   have hact:=hok.all _ (List.getElem_mem hlt)
   have hdl2:=A9w (a.take i) d
   have hci:=hc i hlt
   have hsn:B2z d (a.take (i+1))=B2z d (a.take i)++if sold (A3z d (a.take i)) a[i]then [a[i]]else []:=by
    rw [List.take_succ_eq_append_getElem hlt,dealsT_snoc]
   have hdk:A3z d (a.take (i+1))=doN (A3z d (a.take i)) a[i]:=by
    rw [List.take_succ_eq_append_getElem hlt,duskOf_snoc]
   have hdn:(B2z d (a.take i)).length≤8:=Nat.le_trans dealsT_len (by rw [List.length_take];omega)
   clear hc
   generalize a[i]=y at hact hci hsn hdk
   generalize A3z d (a.take i)=os at hact hsn hdk hdl2⊢
   generalize B2z d (a.take i)=L at *
   have hsr:sold os y=((y.k==0) && !refd os y):=by
    unfold sold refd
    cases y.k==0<;>simp
   refine su ?_
   refine A6d tab i Y Y Y Y Y Y Y hlt ?_
   refine A2b tab Y Y Y hv (A1g tab Y Y Y hci) ?_
   refine sw fun bx=>?_;refine sw fun bx=>?_
   rename_i b10
   obtain⟨b11,rfl⟩:∃x:Nat,x=bx:=⟨bx,rfl⟩
   refine A1d [4,5] [0,1,2,3,4,5,6,7,8,9,10] A1e Y kR ?_
   refine su ?_
   refine S_do kR (A0u Y bod60 Y Y Y Y Y (deedOf_x (x:=y) hact.k) ⟨Le.refl _,kp,?_⟩)
   refine su ?_
   refine S_do kR (A0o [(bd,owC (intV P) (.slice aD d.length cD) os,106)] ((b11,List.toArray [intV 0,intV 0,intV 0],115)::(b10,y.cells.toArray,40)::(sg++[(b7,trC P a6 d.length k6 aq L.length cap,36),(b4,trZ,36)])) Y bod59 Y Y Y Y Y
    (show ∀p,Pal.cnt p ((b11,List.toArray [intV 0,intV 0,intV 0],115)::(b10,y.cells.toArray,40)::(sg++[(b7,trC P a6 d.length k6 aq L.length cap,36),(bd,owC (intV P) (.slice aD d.length cD) os,106),(b4,trZ,36)]))=Pal.cnt p ([(bd,owC (intV P) (.slice aD d.length cD) os,106)]++((b11,List.toArray [intV 0,intV 0,intV 0],115)::(b10,y.cells.toArray,40)::(sg++[(b7,trC P a6 d.length k6 aq L.length cap,36),(b4,trZ,36)])))from cntA)
    (do_x oM hact.k ⟨hact.h.1,by rw [hdl2];exact hact.h.2⟩) (fun r β' hR=>⟨Le.refl _,?_,?_⟩))
   ·exact kp
   obtain⟨⟨e',rfl,he⟩,rfl⟩:=hR
   refine su ?_
   by_cases hk:y.k=0
   ·rw [show(y.k != 0)=false from by simpa using hk]
    rw [show(y.k==0)=true from by simpa using hk,Bool.true_and]at hsr
    rcases he with ⟨hr,rfl⟩|⟨hr,tx,vx,rfl⟩
    ·rw [hr]at hsr
     rw [hsr,show(!false)=true from Y,if_pos rfl]at hsn
     refine su ?_
     refine Q_op fun ho=>A0u ho bod62 Y Y Y Y Y asNil_x ?_
     clear ho
     refine su ?_
     refine Q_op fun ho=>A3w tab ho Y Y Y Y Y Y Y Y Y (fun bH cH hH=>?_)
     clear ho
     refine su ?_
     refine Q_op fun ho=>A3w tab ho Y Y Y Y Y Y Y Y Y (fun bN cN hN=>?_)
     clear ho
     refine Q_op fun ho=>A3x tab (xs:=[intV y.a,intV y.b,.slice (some ⟨bH,0,none⟩) 1 1]) sg [(bN,cN,43)] [(bH,cH,3),(bd,owC (intV P) (.slice aD d.length cD) (doN os y),106),(b11,List.toArray [intV 0,intV 0,intV 0],115),(b10,y.cells.toArray,40),(b7,trC P a6 d.length k6 aq L.length cap,36),(b4,trZ,36)] ho Y Y Y Y Y Y Y Y Y Y
      (show ∀p,Pal.cnt p ((bN,cN,43)::(bH,cH,3)::([(bd,owC (intV P) (.slice aD d.length cD) (doN os y),106)]++((b11,List.toArray [intV 0,intV 0,intV 0],115)::(b10,y.cells.toArray,40)::(sg++[(b7,trC P a6 d.length k6 aq L.length cap,36),(b4,trZ,36)]))))=Pal.cnt p (sg++([(bN,cN,43)]++[(bH,cH,3),(bd,owC (intV P) (.slice aD d.length cD) (doN os y),106),(b11,List.toArray [intV 0,intV 0,intV 0],115),(b10,y.cells.toArray,40),(b7,trC P a6 d.length k6 aq L.length cap,36),(b4,trZ,36)]))from cntA) hS
      (fun hb=>RowAt.own hb cntL hN) Y Y (by show(2*(L.length+1)+768)*40≤2^48;omega) oM (fun sg2 a2 cap2 hS2=>?_)
     clear ho
     refine A8x (β1:=[(bH,cH,3)]) (β2:=sg2++[(bd,owC (intV P) (.slice aD d.length cD) (doN os y),106),(b11,List.toArray [intV 0,intV 0,intV 0],115),(b10,y.cells.toArray,40),(b7,trC P a6 d.length k6 aq L.length cap,36),(b4,trZ,36)]) cntA (fun hbk=>?_)
     have hHr:=RowAt.own hbk (by exact cntL) hH
     refine su ?_
     have hln:(L++[y]).length=L.length+1:=by simp
     refine A0b ⟨⟨i+1,sg2,a2,cap2,ys++[[intV y.a,intV y.b,.slice (some ⟨bH,0,none⟩) 1 1]]⟩,_,by simp only;omega,⟨Y,rg,?_⟩,Le.refl _,hwu.trans (A0g _ _),hlt,?_,?_⟩
     ·simp only [hsn,hln,hdk]
      exact(show Subm (sg2++[(b7,trC P a6 d.length k6 a2 (L.length+1) cap2,36),(bd,owC (intV P) (.slice aD d.length cD) (doN os y),106),(b4,trZ,36)]) (sg2++[(bd,owC (intV P) (.slice aD d.length cD) (doN os y),106),(b11,List.toArray [intV 0,intV 0,intV 0],115),(b10,y.cells.toArray,40),(b7,trC P a6 d.length k6 a2 (L.length+1) cap2,36),(b4,trZ,36)])from cntL)
     ·simp only [hsn,hln,List.flatten_append,List.flatten_cons,List.flatten_nil,List.append_nil];exact hS2
     ·simp only [hsn];exact(hY.le (A0g _ _)).snoc ⟨_,_,Y,hHr⟩
    ·rw [hr]at hsr
     rw [hsr,show(!true)=false from Y,if_neg dM,List.append_nil]at hsn
     refine su ?_
     refine Q_op fun ho=>A0o [(b11,List.toArray [intV 0,intV 0,intV 0],115)] ((bd,owC (intV P) (.slice aD d.length cD) (doN os y),106)::(b10,y.cells.toArray,40)::(sg++[(b7,trC P a6 d.length k6 aq L.length cap,36),(b4,trZ,36)])) ho bod62 Y Y Y Y Y (show ∀p,Pal.cnt p ([(bd,owC (intV P) (.slice aD d.length cD) (doN os y),106)]++((b11,List.toArray [intV 0,intV 0,intV 0],115)::(b10,y.cells.toArray,40)::(sg++[(b7,trC P a6 d.length k6 aq L.length cap,36),(b4,trZ,36)])))=Pal.cnt p ([(b11,List.toArray [intV 0,intV 0,intV 0],115)]++((bd,owC (intV P) (.slice aD d.length cD) (doN os y),106)::(b10,y.cells.toArray,40)::(sg++[(b7,trC P a6 d.length k6 aq L.length cap,36),(b4,trZ,36)])))from cntA) (as_x (r:=b11) Y (ErrT.le (hg.le hwu) (A0g _ _))) (fun x β' hR=>?_)
     clear ho
     obtain⟨rfl,rfl⟩:=hR
     refine su ?_
     refine A0b ⟨⟨i+1,sg,aq,cap,ys⟩,u,by simp only;omega,⟨Y,rg,?_⟩,Le.refl _,hwu,hlt,?_,?_⟩
     ·simp only [hsn,hdk];exact cntL
     ·simp only [hsn];exact hS
     ·simp only [hsn];exact hY
   ·rw [show(y.k != 0)=true from by simpa using hk]
    rw [show(y.k==0)=false from by simpa using hk,Bool.false_and]at hsr
    rw [hsr,if_neg dM,List.append_nil]at hsn
    refine su ?_
    refine A0b ⟨⟨i+1,sg,aq,cap,ys⟩,u,by simp only;omega,⟨Y,rg,?_⟩,Le.refl _,hwu,hlt,?_,?_⟩
    ·simp only [hsn,hdk];exact cntL
    ·simp only [hsn];exact hS
    ·simp only [hsn];exact hY
  ·have hin:i=a.length:=by have:=of_decide_eq_false h;omega
   subst hin
   rw [List.take_length]at hS hY⊢
   refine su ?_
   by_cases h6:(B2z d a).length > 6
   ·rw [show decide (((B2z d a).length:Int) > 6)=true from decide_eq_true oM,if_pos h6]
    refine su ?_
    refine A2m tab (by exact .cell rfl ib rfl (.tmp rfl .nil)) (hl1.trans hwu) fun hb2 hle=>?_
    exact TradeAt.none
   ·rw [show decide (((B2z d a).length:Int) > 6)=false from decide_eq_false oM,if_neg h6]
    refine su ?_
    refine A2m tab (by exact .cell rfl ib rfl (.tmp rfl .nil)) (hl1.trans hwu) fun hb2 hle=>?_
    exact⟨a6,k6,aq,cap,ys,Y,hd6.le (hwu.trans hle),RowAt.own hb2 (by exact cntL) hS,hY.le hle⟩
 ·rw [if_pos h]
  refine su ?_
  rw [show(holdE P d a != 0)=true from by simpa using h]
  refine su ?_
  refine A2m tab (by exact .cell rfl ib rfl (.tmp rfl .nil)) hl1 fun hb2 hle=>?_
  exact TradeAt.none
end
section
variable{mn:Who}{v:View}{P:Int}{aD:Option Addr}{cD:Nat}{d:List Int}
theorem knowsH_x{b1 b2:Nat}{h:Int}{p1 p2:Bool}{f1 f2:Nat×Nat}(h1:v b1=some (p1,.cells (List.toArray [intV h]) 3 f1))(h2:v b2=some (p2,.cells (List.toArray [intV P,.slice aD d.length cD]) 26 f2))(hdl:d.length<2^30) :
  Ret1 prog mn 91 [.pointer (some ⟨b1,0,none⟩),.pointer (some ⟨b2,0,none⟩)] (.bool (knows h d.length)) v:=by
 refine A0d tab func91 Y nB (args:=[_,_]) ?_
 refine su ?_
 refine A2b tab Y Y Y h1 (A0l tab Y Y Y Y) ?_
 refine su ?_
 refine A2b tab Y Y Y h2 (A0l tab Y Y Y Y) ?_
 refine su ?_
 refine Q_op fun ho=>A0u ho bod81 Y Y Y Y Y A3g ?_
 clear ho
 refine su ?_
 refine A0f tab [] (by exact .tmp rfl .nil) (Back.here cntL) ?_
 exact⟨Y,Y⟩
end
end Go.Proofs.YtclejblcnfaeaaaGreatDoor
end
section
namespace Go.Proofs.YtclejblcnfaeaaaGreatDoor.I
open Go Go.Pal Go.Conc View
open Go.Proofs.Tryz
open Go.Proofs.YtclejblcnfaeaaaGreatDoor.W (lexL)
open Go.Sort (swp PermIn SortedIn Below SWO insInner insOuter insertionSort)
set_option maxHeartbeats 4000000
set_option maxRecDepth 20000
def ltI(x y:Int):Bool:=decide (x<y)
theorem A1f(x:Int):(intV x).cells.size=1:=rfl
theorem A1v(x:Int):(intV x).cells.toList.all A2k=true:=rfl
def okI(_:Int):Prop:=True
structure DBi(cap:Nat)(d:Array Int)(c:Array Value):Prop where
 db:DB 1 (fun x:Int=>[intV x]) okI cap d c
abbrev slV(b n cap:Nat):Value:=.slice (some ⟨b,0,none⟩) n cap
section
variable{cap:Nat}{d:Array Int}{c:Array Value}
theorem DBi.le(h:DBi cap d c):d.size≤cap:=h.db.le
theorem DBi.rdE(h:DBi cap d c){i:Nat}(hi:i<d.size):A4k tab 3 c (0+i*1)=some (intV d[i]!):=A0l tab Y Y Y (h.db.one Y hi Y)
theorem DBi.ok(h:DBi cap d c){i:Nat}(hi:i<d.size):okI d[i]!:=h.db.ok hi
theorem DBi.off(h:DBi cap d c){i:Nat}(hi:i<d.size){n:Nat}(hn:n=1):Nat.ble (0+i*1+n) c.size=true:=h.db.off hi hn
theorem DBi.set(h:DBi cap d c){i:Nat}(hi:i<d.size){x:Int}(hx:okI x):DBi cap (d.setIfInBounds i x) (A0z c (0+i*1) (intV x).cells.toList):=⟨h.db.set hi hx⟩
theorem DBi.swp(h:DBi cap d c){i j:Nat}(hi:i<d.size)(hj:j<d.size):DBi cap (swp d i j) (A0z (A0z c (0+i*1) (intV d[j]!).cells.toList) (0+j*1) (intV d[i]!).cells.toList):=⟨h.db.swp hi hj⟩
def IBox(cap b:Nat)(p:Array Int→Prop)(β':A0e):Prop:=∃d' c',β'=[(b,c',3)]∧DBi cap d' c'∧p d'
end
section
variable{mn:Who}{v:View}
theorem isNaN_x{x:Int}:Ret1 prog mn 185 [intV x] (.bool false) v:=by
 refine A0d tab func185 Y nB (args:=[_]) ?_
 refine su ?_
 rw [show(x != x)=false from by simp]
 refine A0f tab [] (by exact .tmp rfl .nil) (Back.here cntL) ?_
 exact⟨Y,Y⟩
theorem less_x{x y:Int}:Ret1 prog mn 172 [intV x,intV y] (.bool (ltI x y)) v:=by
 refine A0d tab func172 Y nB (args:=[_,_]) ?_
 refine su ?_
 refine Q_op fun ho=>A0u ho bod185 Y Y Y Y Y isNaN_x ?_
 clear ho
 refine su ?_
 refine A0f tab [] (by exact .tmp rfl .nil) (Back.here cntL) ?_
 exact⟨Y,Y⟩
end
section
variable{mn:Who}{v:View}{cap:Nat}{d:Array Int}{c:Array Value}
abbrev AS:=Nat×Array Int×Array Value
theorem B1w{b x y:Nat}(hD:DBi cap d c)(hcap:d.size<2^30)(hxy:x≤y)(hy:y≤d.size) :
  CallsB prog mn 166 #[slV b d.size cap,.int .i64 x,.int .i64 y] (RetB fun r β'=>r = .tuple #[]∧IBox cap b (fun d'=>d'.size=d.size∧d'=insertionSort ltI d x y) β') [(b,c,3)] v:=by
 refine A0d tab func166 Y nB (args:=[_,_,_]) ?_
 have hle:=hD.le
 refine su ?_
 refine A1q (α:=AS) (fun z=>⟨[],[(6,.int .i64 z.1),(0,slV b d.size cap),(1,.int .i64 x),(2,.int .i64 y)],[(b,z.2.2,3)]⟩)
  (fun z u=>u=v∧DBi cap z.2.1 z.2.2∧z.2.1.size=d.size∧x<z.1∧z.1≤y+1∧insOuter ltI x y z.1 z.2.1=insertionSort ltI d x y) (fun z=>y+1-z.1) (x+1,d,c)
  ⟨Y,rg,cntL⟩ (Le.refl _) ⟨Y,hD,Y,by simp only;omega,by simp only;omega,Y⟩ ?_
 rintro⟨i,d1,c1⟩ u ⟨rfl,hD1,hs1,hxi,hiy,hr1⟩
 simp only at hD1 hs1 hxi hiy hr1
 dsimp only
 rw [insOuter]at hr1
 refine su ?_
 refine A1i Y (fun h=>?_) (fun h=>?_)
 ·replace h:=fa h
  rw [if_pos oM]at hr1
  refine su ?_
  refine A1q (α:=AS) (fun z=>⟨[],[(7,.int .i64 z.1),(6,.int .i64 i),(0,slV b d.size cap),(1,.int .i64 x),(2,.int .i64 y)],[(b,z.2.2,3)]⟩)
   (fun z w=>w=u∧DBi cap z.2.1 z.2.2∧z.2.1.size=d.size∧z.1≤i∧insInner ltI x z.1 z.2.1=insInner ltI x i d1) (fun z=>z.1) (i,d1,c1)
   ⟨Y,rg,cntL⟩ (Le.refl _) ⟨Y,hD1,hs1,Nat.le_refl _,Y⟩ ?_
  rintro⟨j,d2,c2⟩ w ⟨rfl,hD2,hs2,hji,hr2⟩
  simp only at hD2 hs2 hji hr2
  dsimp only
  refine su ?_
  refine lexL A1e Y kR ?_
  refine su ?_
  refine A7d Y Y (fun h=>?_) (fun h=>?_)
  ·replace h:=fa h
   obtain⟨j,rfl⟩:∃k,j=k+1:=⟨j-1,oM⟩
   refine su ?_
   refine A1m tab (j+1) Y Y Y Y Y Y Y oM ?_
   refine A1j tab Y Y Y InB.head (hD2.rdE oM) ?_
   refine su ?_
   refine A1m tab j Y Y Y Y oM Y Y oM ?_
   refine A1j tab Y Y Y InB.head (hD2.rdE oM) ?_
   refine su ?_
   refine A2w bod172 Y Y Y Y Y less_x ?_
   refine su ?_
   rw [show insInner ltI x (j+1) d2=(if decide (j+1 > x)&&ltI d2[j+1]! d2[j]! then insInner ltI x j (swp d2 (j+1) j)else d2)from rfl]at hr2
   refine A1i Y (fun h=>?_) (fun h=>?_)
   ·have h':ltI d2[j+1]! d2[j]! = true:=h
    rw [if_pos (by rw [h'];simp;omega)]at hr2
    refine su ?_
    ((refine A1d [15,17] [0,1,2,3,4,5,6,7,8,9,10,11,12,13,14,15,16,17] A1e Y kR ?_);(repeat (refine ss ?_));(refine A0s tab (j) Y Y Y kR Y Y (by first|rfl|omega) Y Y oM ?_);(refine A1a tab Y Y Y kR Y ib (hD2.rdE oM) ?_);(repeat (refine ss ?_));(refine A0s tab (j+1) Y Y Y kR Y Y (by first|rfl|omega) Y Y oM ?_);(refine A1a tab Y Y Y kR Y ib (hD2.rdE oM) ?_);(refine A0s tab (j+1) Y Y Y kR Y Y (by first|rfl|omega) Y Y oM ?_);(refine S_do kR (A1c tab Y Y Y Y Y (by first|exact A1f _|rfl) (by first|exact A1v _|rfl) ib (hD2.off oM Y) sb ⟨Le.refl _,kp,?_⟩));(refine A0s tab (j) Y Y Y kR Y Y (by first|rfl|omega) Y Y oM ?_);(refine S_do kR (A1c tab Y Y Y Y Y (by first|exact A1f _|rfl) (by first|exact A1v _|rfl) ib ((hD2.set oM (hD2.ok oM)).off (by first|simpa using oM|(simp;omega)) Y) sb ⟨Le.refl _,kp,?_⟩));(repeat (refine ss ?_)))
    refine su ?_
    refine A0b ⟨(j,swp d2 (j+1) j,_),w,by simp only;omega,⟨Y,?_,cntL⟩,Le.refl _,Y,hD2.swp oM oM,by rw [Go.Sort.size_swp,hs2],by simp only;omega,hr2⟩
    refine⟨?_,rg⟩
    show some (Value.int .i64 (((j+1:Nat):Int)-1))=some (Value.int .i64 (j:Int))
    congr 2;omega
   ·have h':ltI d2[j+1]! d2[j]! = false:=h
    rw [if_neg (by rw [h'];simp)]at hr2
    refine su ?_
    refine A0b ⟨(i+1,d2,c2),w,by simp only;omega,⟨Y,rg,cntL⟩,Le.refl _,Y,hD2,hs2,by simp only;omega,by simp only;omega,?_⟩
    rw [hr2];exact hr1
  ·replace h:=fa h
   have hr3:d2=insInner ltI x i d1:=by
    rw [←hr2]
    cases j with
    | zero=>rfl
    | succ j=>unfold insInner;rw [if_neg (by simp;omega)]
   refine su ?_
   refine A0b ⟨(i+1,d2,c2),w,by simp only;omega,⟨Y,rg,cntL⟩,Le.refl _,Y,hD2,hs2,by simp only;omega,by simp only;omega,?_⟩
   rw [hr3];exact hr1
 ·replace h:=fa h
  rw [if_neg oM]at hr1
  refine su ?_
  refine A1o tab [(b,c1,3)] .nil (Back.here cntL) ?_
  exact⟨Y,d1,c1,Y,hD1,hs1,hr1⟩
theorem pdq_x{b k:Nat}(hD:DBi cap d c)(hd:d.size≤12) :
  CallsB prog mn 136 #[slV b d.size cap,.int .i64 (0:Nat),.int .i64 d.size,.int .i64 k] (RetB fun r β'=>r = .tuple #[]∧IBox cap b (fun d'=>d'.size=d.size∧d'=insertionSort ltI d 0 d.size) β') [(b,c,3)] v:=by
 refine A0d tab func136 Y nB (args:=[_,_,_,_]) ?_
 refine su ?_
 refine A1q (α:=Unit) (fun _=>⟨[],[(0,slV b d.size cap),(1,.int .i64 (0:Nat)),(2,.int .i64 d.size),(3,.int .i64 k)],[(b,c,3)]⟩) (fun _ u=>u=v) (fun _=>0) () ⟨Y,rg,cntL⟩ (Le.refl _) Y ?_
 rintro⟨⟩ u rfl
 have hle:=hD.le
 refine su ?_
 rw [show decide ((d.size:Int)-((0:Nat):Int)≤12)=true from decide_eq_true oM]
 refine su ?_
 refine Q_op fun ho=>A0o [(b,c,3)] [] ho bod166 Y Y Y Y Y cntA (B1w (x:=0) (y:=d.size) hD oM (Nat.zero_le _) (Nat.le_refl _)) (fun x β' hR=>?_)
 clear ho
 obtain⟨rfl,d2,c2,rfl,hD2,hs2,hp2⟩:=hR
 rw [List.append_nil]
 refine su ?_
 refine A0f tab [(b,c2,3)] .nil (Back.here cntL) ?_
 exact⟨Y,d2,c2,Y,hD2,hs2,hp2⟩
theorem sort_x{b:Nat}(hD:DBi cap d c)(hd:d.size≤12) :
  CallsB prog mn 93 #[slV b d.size cap] (RetB fun r β'=>r = .tuple #[]∧IBox cap b (fun d'=>d'.size=d.size∧d'=insertionSort ltI d 0 d.size) β') [(b,c,3)] v:=by
 refine A0d tab func93 Y nB (args:=[_]) ?_
 refine su ?_
 rw [W.wrapU oM]
 refine Q_op fun ho=>A0u ho bod137 Y Y Y Y Y (W.len_x (x:=d.size) oM) ?_
 clear ho
 refine su ?_
 refine Q_op fun ho=>A0o [(b,c,3)] [] ho bod136 Y Y Y Y Y cntA (pdq_x hD hd) (fun x β' hR=>?_)
 clear ho
 obtain⟨rfl,d2,c2,rfl,hD2,hs2,hp2⟩:=hR
 rw [List.append_nil]
 refine su ?_
 refine A1o tab [(b,c2,3)] .nil (Back.here cntL) ?_
 exact⟨Y,d2,c2,Y,hD2,hs2,hp2⟩
end
end Go.Proofs.YtclejblcnfaeaaaGreatDoor.I
end
section
namespace Go.Proofs.YtclejblcnfaeaaaGreatDoor
open Go Go.Pal Go.Pal.To Go.Conc View
open Go.Proofs.Tryz
set_option maxHeartbeats 4000000
set_option maxRecDepth 20000
abbrev Ow3:=Int×Int×Int
def owV(k:Ow3):Value:=.agg (List.toArray [intV k.1,intV k.2.1,intV k.2.2])
section
variable{v:View}
theorem range3:(List.range' 0 3 1)=[0,1,2]:=rfl
theorem ow_eqD(d:Nat)(a b:Ow3){K:Bool→View→Prop}{E:Value→View→Prop}(h:K (decide (a=b)) v):SemX prog (Op.equalIn (d+1+1) 104 (owV a) (owV b)) K E v:=by
 obtain⟨a1,a2,a3⟩:=a
 obtain⟨b1,b2,b3⟩:=b
 have hd:decide (((a1,a2,a3):Ow3)=(b1,b2,b3))=(a1==b1&&(a2==b2&&a3==b3)):=by
  by_cases h1:a1=b1<;>by_cases h2:a2=b2<;>by_cases h3:a3=b3<;>simp [h1,h2,h3]
 rw [hd]at h
 unfold Op.equalIn
 rw [A0a,A1k tab (t:=104) rfl]
 simp only [owV,A0a]
 rw [A4f tab (t:=3) rfl]
 simp only [Std.Legacy.Range.forIn_eq_forIn_range',Std.Legacy.Range.size,Nat.sub_zero,Nat.add_sub_cancel,Nat.div_one,range3,List.forIn_cons,List.forIn_nil,A0a]
 refine A3j (x:=intV a1) Y (A3j (x:=intV b1) Y (i64_eq ?_))
 cases h1:(a1==b1)with
 | false=>
  rw [h1,Bool.false_and]at h
  exact h
 | true=>
  rw [h1,Bool.true_and]at h
  simp only [Bool.not_true,Bool.false_eq_true,if_false,A0h,A0a]
  refine A3j (x:=intV a2) Y (A3j (x:=intV b2) Y (i64_eq ?_))
  cases h2:(a2==b2)with
  | false=>
   rw [h2,Bool.false_and]at h
   exact h
  | true=>
   rw [h2,Bool.true_and]at h
   simp only [Bool.not_true,Bool.false_eq_true,if_false,A0h,A0a]
   refine A3j (x:=intV a3) Y (A3j (x:=intV b3) Y (i64_eq ?_))
   cases h3:(a3==b3)with
   | false=>
    rw [h3]at h
    exact h
   | true=>
    rw [h3]at h
    exact h
theorem ow_chkD(d:Nat)(e:Bool)(a:Ow3){K:Unit→View→Prop}{E:Value→View→Prop}(h:K () v):SemX prog (Instr.checkKey e (d+1+1) 104 (owV a)) K E v:=by
 unfold Instr.checkKey
 rw [A0a,A1k tab (t:=104) rfl]
 simp only [owV,A0a]
 simp only [Std.Legacy.Range.forIn_eq_forIn_range',Std.Legacy.Range.size,Nat.sub_zero,Nat.add_sub_cancel,Nat.div_one,range3,List.forIn_cons,List.forIn_nil,A0a]
 have key:∀(x:Int) {K':Unit→View→Prop},K' () v→SemX prog (Instr.checkKey e (d+1) 3 (intV x)) K' E v:=fun x K' h'=>by
  unfold Instr.checkKey
  rw [A0a,A1k tab (t:=3) rfl]
  exact h'
 rw [A4f tab (t:=3) rfl]
 refine A3j (x:=intV a.1) Y (key _ ?_)
 try simp only [A0h,A0a]
 rw [A4f tab (t:=3) rfl]
 refine A3j (x:=intV a.2.1) Y (key _ ?_)
 try simp only [A0h,A0a]
 rw [A4f tab (t:=3) rfl]
 refine A3j (x:=intV a.2.2) Y (key _ ?_)
 exact h
theorem ow_key:KeyT prog 104 owV where
 eq:=fun a b=>ow_eqD 9998 a b
 chk:=fun e a=>ow_chkD 9998 e a
 now:=⟨_,tab.und_ok 104 _ rfl,.inl fun a b=>rfl⟩
 bits:=fun a=>by simp [Instr.sameBits,owV]
end
end Go.Proofs.YtclejblcnfaeaaaGreatDoor
end
