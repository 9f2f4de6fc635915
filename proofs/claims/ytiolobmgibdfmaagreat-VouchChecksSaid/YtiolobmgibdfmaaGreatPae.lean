/- Part 5. -/
import Derived.Test.YtiolobmgibdfmaaGreatPad
set_option linter.all false
section
namespace Go.Pal
open Go Go.Conc View
theorem B3c{need cap:Nat}(h:cap<need):Builtin.nextslicecap need cap≤2*need+768:=by
 unfold Builtin.nextslicecap
 split
 ·omega
 ·split
  ·omega
  ·have key:∀(r c:Nat),c≤2*need+768→Builtin.growBy need r c≤2*need+768:=by
    intro r
    induction r with
    | zero=>intro c hc;simpa [Builtin.growBy]using hc
    | succ r ih=>
     intro c hc
     simp only [Builtin.growBy]
     split
     ·exact hc
     ·exact ih _ oM
   exact key _ _ oM
section
variable{P:Program}{mn:Who}(T:Tab P){E:Value→View→Prop}
theorem tx_info{K:TypeInfo→View→Prop}{w:View}{t:TypeId}{n:Nat}(h:T.byt t=some n)(hk:∀i:TypeInfo,i.bytes=n→K i w):SemX P (typeInfo t) K E w:=by
 obtain⟨i,hi,hz⟩:=T.byt_ok _ _ h
 rw [A7l hi];exact hk i hz
theorem A4q{K:Array Value→View→Prop}{w:View}{a:Option Addr}{cs:List Value}{k n len cap:Nat}(h:RowAt w a cs)(hl:cs.length=n*k)(hk:K cs.toArray w):SemX P (Builtin.firstCells k n (.slice a len cap)) K E w:=by
 rcases h with rfl|⟨b,off,p,c,e,f,rfl,h2,h3,h4⟩
 ·cases a with
  | none=>simpa only [Builtin.firstCells,A0m]using hk
  | some a=>
   have:n*k=0:=by simpa using hl.symm
   simp only [Builtin.firstCells,this,loadCells,loadCellsFrom,A0m]
   exact hk
 ·simp only [Builtin.firstCells,loadCells]
  refine B1n h2 (n*k) 0 #[] oM ?_
  have:(#[]++c.extract (off+0) (off+0+n*k))=cs.toArray:=by
   apply Array.ext_getElem?
   intro i
   simp only [Array.empty_append,Array.getElem?_extract,Nat.add_zero,List.getElem?_toArray]
   by_cases hi:i<cs.length
   ·rw [if_pos oM,h4 i cs[i] (by simp [hi])];simp [hi]
   ·rw [if_neg oM];simp;omega
  rw [this];exact hk
theorem A6o{z:Array Value}{n:Nat}:(Builtin.zeroCells z n).size=n*z.size:=by simp [Builtin.zeroCells]
theorem B0b{K:Value→View→Prop}{w:View}{t t' ty e e':TypeId}{k by_ n len cap cap2:Nat}{z:Value}{base a2:Option Addr}{old xs:List Value}(ht:T.und t=some (.slice e))(ht':T.und t'=some (.slice e'))(hs:T.siz e=some k)(hby:T.byt e=some by_)
  (hz:T.zer e=some z)(hzs:z.cells.size=k)(ho:RowAt w base old)(hol:old.length=len*k)(hx:RowAt w a2 xs)(hxl:xs.length=n*k)(hc:cap<len+n)(hb:(2*(len+n)+768)*by_≤2^48)(hp:0<by_)
  (h:∀(r cap':Nat) (c:Array Value),w r=none→len+n≤cap'→c.size=cap'*k→(∀(i:Nat) (x:Value),(old++xs)[i]?=some x→c[i]?=some x)→K (.slice (some ⟨r,0,none⟩) (len+n) cap') (w.set r true (.cells c e (0,0)))) :
  SemX P (Builtin.append_ #[t,t'] ty #[.slice base len cap,.slice a2 n cap2]) K E w:=by
 have hnc:=B3c hc
 have hle:Builtin.nextslicecap (len+n) cap*by_≤2^48:=Nat.le_trans (Nat.mul_le_mul_right _ hnc) hb
 have hneed:len+n≤2^48:=by
  have:(2*(len+n)+768)*1≤(2*(len+n)+768)*by_:=Nat.mul_le_mul_left _ hp
  omega
 unfold Builtin.append_
 simp only [show(#[t,t']:Array TypeId)[0]?=some t from Z,show(#[t,t']:Array TypeId)[1]?=some t' from Z,show ∀x y:Value,(#[x,y]:Array Value)[0]?=some x from fun _ _=>rfl,show ∀x y:Value,(#[x,y]:Array Value)[1]?=some y from fun _ _=>rfl,A0d,A1r T ht,A1r T ht',A5f T hs,A0m]
 simp only [Bool.false_eq_true,if_false,Builtin.lenOf,A0d,A0m]
 rw [if_neg oM,A0d]
 refine tx_info T hby fun i hi=>?_
 rw [hi]
 rw [if_neg (by
  rintro⟨h1,_⟩
  have:IntKind.i64.max=9223372036854775807:=rfl
  omega),A0d]
 refine tx_info T hby fun i hi=>?_
 rw [hi,if_neg oM,A0d,choose,SemX,if_neg (by simp [Question.forced])]
 intro tp
 simp only [SemX]
 rw [A0d]
 refine tx_info T hby fun i hi=>?_
 rw [A0d]
 have rest:∀{K':Unit→View→Prop},K' () w→∀b,SemX P (askRoom b) K' E w:=by
  intro K' hK b
  unfold askRoom
  split
  ·exact⟨trivial,hK⟩
  ·exact hK
 refine rest ?_ _
 rw [A0d]
 refine A4q ho hol ?_
 rw [A0d]
 have happ:∀{K':Array Value→View→Prop},K' xs.toArray w→SemX P (if(!false)=true then Builtin.firstCells k n (.slice a2 n cap2)else if n*k=0 then pure #[]else do pure (Builtin.zeroCells (←zeroValue e).cells n)) K' E w:=fun hK=>by
  simp only [Bool.not_false,if_true];exact A4q hx hxl hK
 refine happ ?_
 rw [A0d,A9x T hz,A0d]
 unfold newRow
 simp only [A0d,B2s,A0m]
 intro r hr
 have hcap:len+n≤(Question.appendCap (len+n) cap e).cut tp:=by simp [Question.cut]
 refine h r _ _ hr hcap ?_ ?_
 ·simp only [Array.size_append,List.size_toArray,A6o,hol,hxl,hzs]
  rw [←Nat.add_mul,←Nat.add_mul]
  congr 1
  omega
 ·intro i x hi
  have h0:i<(old++xs).length:=(List.getElem?_eq_some_iff.1 hi).1
  simp only [List.length_append]at h0
  rw [Array.getElem?_append_left (by simp;omega)]
  rw [←hi]
  simp
theorem sx_append_in{K:Value→View→Prop}{w:View}{t t' ty e e' e'':TypeId}{k n len cap cap2 b off:Nat}{a2:Option Addr}{xs:List Value}{c:Array Value}(ht:T.und t=some (.slice e))(ht':T.und t'=some (.slice e'))(hs:T.siz e=some k)
  (hx:RowAt w a2 xs)(hxl:xs.length=n*k)(hc:len+n≤cap)(hone:xs.all A3z=true)(hw:w b=some (true,.cells c e'' (0,0)))(hoff:off+len*k+xs.length≤c.size)
  (h:K (.slice (some ⟨b,off,none⟩) (len+n) cap) (w.set b true (.cells (A1l c (off+len*k) xs) e'' (0,0)))) :
  SemX P (Builtin.append_ #[t,t'] ty #[.slice (some ⟨b,off,none⟩) len cap,.slice a2 n cap2]) K E w:=by
 unfold Builtin.append_
 simp only [show(#[t,t']:Array TypeId)[0]?=some t from Z,show(#[t,t']:Array TypeId)[1]?=some t' from Z,show ∀x y:Value,(#[x,y]:Array Value)[0]?=some x from fun _ _=>rfl,show ∀x y:Value,(#[x,y]:Array Value)[1]?=some y from fun _ _=>rfl,A0d,A1r T ht,A1r T ht',A5f T hs,A0m]
 simp only [Bool.false_eq_true,if_false,Builtin.lenOf,A0d,A0m]
 rw [if_pos hc,A0d]
 have happ:∀{K':Array Value→View→Prop},K' xs.toArray w→SemX P (if(!false)=true then Builtin.firstCells k n (.slice a2 n cap2)else if n*k=0 then pure #[]else do pure (Builtin.zeroCells (←zeroValue e).cells n)) K' E w:=fun hK=>by
  simp only [Bool.not_false,if_true];exact A4q hx hxl hK
 refine happ ?_
 rw [A0d,A5m]
 refine A5j (e:=e'') (c:=c) hone hw (by simpa using hoff) ?_
 exact h
end
inductive OwnS(e:TypeId)(k:Nat):A0j→Option Addr→Nat→Nat→List Value→Prop
 | nil:OwnS e k [] none 0 0 []
 | box {b:Nat} {c:Array Value} {len cap:Nat} {cs:List Value}:cs.length=len*k→len≤cap→c.size=cap*k→(∀(i:Nat) (x:Value),cs[i]?=some x→c[i]?=some x)→OwnS e k [(b,c,e)] (some ⟨b,0,none⟩) len cap cs
theorem OwnS.row{e:TypeId}{k:Nat}{seg:A0j}{a:Option Addr}{len cap:Nat}{cs:List Value}(h:OwnS e k seg a len cap cs):RowAt (A0e seg) a cs:=by
 cases h with
 | nil=>exact .inl rfl
 | @box b c _ _ _ h1 h2 h3 h4=>
  refine .inr ⟨b,0,true,c,e,(0,0),Z,by simp [A0e],?_,by simpa using h4⟩
  rw [h1,h3,Nat.zero_add]
  exact Nat.mul_le_mul_right _ h2
theorem OwnS.len{e:TypeId}{k:Nat}{seg:A0j}{a:Option Addr}{len cap:Nat}{cs:List Value}(h:OwnS e k seg a len cap cs):cs.length=len*k:=by
 cases h with
 | nil=>simp
 | box h1=>exact h1
theorem OwnS.cast{e:TypeId}{k:Nat}{seg:A0j}{a:Option Addr}{len cap:Nat}{cs cs':List Value}(h:OwnS e k seg a len cap cs)(he:cs=cs'):OwnS e k seg a len cap cs':=he ▸ h
section
variable{P:Program}{mn:Who}(T:Tab P){rd:Option Nat}{n:Nat}{Q:Exit→St→View→Prop}{ds:List Deferred}{ρ:Regs}{β:A0j}{v:View}
 {ops:Array Oper}{i:Nat}{K:St→View→Prop}{o:Oper}
theorem B0r{τ:A0j}(h:Subm τ β)(hb:Bok β v):Bok τ v∧(v.union (A0e τ)).Le (v.union (A0e β)):=Back.here h hb
theorem Op_append{t t' e e':TypeId}{k by_ m len cap cap2:Nat}{y y2:Operand}{z:Value}{a a2:Option Addr}{cs xs:List Value}{seg:A0j}(rest drop:A0j)(ho:ops[i]?=some o)(hw:A5s ops o ρ=some true)(hn:A3j n o.dst=true)
  (hop:o.op = .call {callee:=.builtin .append,args:=#[y,y2],argTypes:=#[t,t'] })(hy:ρ.val y=some (.slice a len cap))(hy2:ρ.val y2=some (.slice a2 m cap2))
  (ht:T.und t=some (.slice e))(ht':T.und t'=some (.slice e'))(hs:T.siz e=some k)(hby:T.byt e=some by_)(hz:T.zer e=some z)(hzs:z.cells.size=k)
  (hsplit:∀p,cnt p β=cnt p (seg++(drop++rest)))(hS:OwnS e k seg a len cap cs)(hx:Bok (drop++rest) v→RowAt (v.union (A0e (drop++rest))) a2 xs)(hxl:xs.length=m*k)(hone:xs.all A3z=true)
  (hb:(2*(len+m)+768)*by_≤2^48)(hp:0<by_)
  (h:∀seg' a' cap',OwnS e k seg' a' (len+m) cap' (cs++xs)→K ⟨ds,putR o.dst (.slice a' (len+m) cap') ρ,seg'++rest⟩ v):XOp P mn rd n ops i Q K ⟨ds,ρ,β⟩ v:=by
 refine A2x ho hw (.inr (by rw [hop];rfl)) hn fun ev hev hbk=>?_
 obtain⟨dst,op,ty,pos,af,gu⟩:=o
 simp only at hop
 subst hop
 obtain⟨hb1,he⟩:=A8s (A4u hsplit) hbk
 obtain⟨hb2,hb3⟩:=bok_append.1 hb1
 have hview:=A1m hb1
 rw [he]at hview
 show SemX P (execOp ev ⟨dst,_,ty,pos,af,gu⟩) _ _ (v.union (A0e β))
 rw [hview]
 have hlex:(v.union (A0e (drop++rest))).Le ((v.union (A0e (drop++rest))).union (A0e seg)):=A0b _ _
 have hx':=(hx hb2).le hlex
 simp only [execOp,resolve,show(#[y,y2]:Array Operand).map ev=#[ev y,ev y2]from by simp,hev _ _ hy,hev _ _ hy2,A0d,A0m,invoke,builtin]
 have hdrop:Subm (seg++rest) (seg++(drop++rest)):=fun p=>by simp only [A2g];omega
 -- the new block
 have grown:cap<len+m→RowAt ((v.union (A0e (drop++rest))).union (A0e seg)) a cs→cs.length=len*k→SemX P (Builtin.append_ #[t,t'] ty #[.slice a len cap,.slice a2 m cap2]) (fun x w=>∃β' u,(Bok β' u∧(u.union (A0e β')).Le w)∧K ⟨ds,putR dst x ρ,β'⟩ u) (fun x w=>∃β' u,(Bok β' u∧(u.union (A0e β')).Le w)∧Q (.panic [{v:=x,recovered:=false }]) ⟨ds,ρ,β'⟩ u) ((v.union (A0e (drop++rest))).union (A0e seg)):=by
  intro hcap hrow hlen
  refine B0b T ht ht' hs hby hz hzs hrow hlen hx' hxl hcap hb hp fun r cap' c hr hc1 hc2 hc3=>?_
  have hbr:Bok rest v:=(bok_append.1 hb2).1
  have hr':(v.union (A0e rest)) r=none:=by
   cases hh:(v.union (A0e rest)) r with
   | none=>rfl
   | some x=>
    have h1:=(B0r (β:=seg++(drop++rest)) (τ:=rest) (fun p=>by simp only [A2g];omega) hb1).2 _ _ hh
    rw [←hview,←he,h1]at hr
    cases hr
  obtain⟨h5,h6⟩:=B0s (c:=c) (t:=e) hbr hr'
  refine⟨(r,c,e)::rest,v,⟨h5,h6.trans ?_⟩,h [(r,c,e)] (some ⟨r,0,none⟩) cap' (.box (by rw [List.length_append,hlen,hxl,Nat.add_mul]) hc1 hc2 hc3)⟩
  intro j x hj
  unfold View.set at hj⊢
  split
  ·rename_i hjr;rw [if_pos hjr]at hj;exact hj
  ·rename_i hjr
   rw [if_neg hjr]at hj
   have h1:=(B0r (β:=seg++(drop++rest)) (τ:=rest) (fun p=>by simp only [A2g];omega) hb1).2 _ _ hj
   rw [←hview,←he];exact h1
 cases hS with
 | nil=>
  by_cases hm:m=0
  ·subst hm
   have hxs:xs=[]:=by simpa using hxl
   subst hxs
   -- nothing to nothing
   unfold Builtin.append_
   simp only [show(#[t,t']:Array TypeId)[0]?=some t from Z,show(#[t,t']:Array TypeId)[1]?=some t' from Z,show ∀x y:Value,(#[x,y]:Array Value)[0]?=some x from fun _ _=>rfl,show ∀x y:Value,(#[x,y]:Array Value)[1]?=some y from fun _ _=>rfl,A0d,A1r T ht,A1r T ht',A5f T hs,A0m]
   simp only [Bool.false_eq_true,if_false,Builtin.lenOf,A0d,A0m]
   rw [if_pos (Nat.le_refl _),A0d]
   simp only [Bool.not_false,if_true]
   refine A4q (.inl Z) sM ?_
   simp only [A0m]
   obtain⟨h5,h6⟩:=B0r (β:=[]++(drop++rest)) (τ:=[]++rest) hdrop hb1
   exact⟨[]++rest,v,⟨h5,by rw [←hview,←he];exact h6⟩,h [] none 0 .nil⟩
  ·exact grown oM (.inl Z) sM
 | @box b c _ _ _ h1 h2 h3 h4=>
  have hbv:((v.union (A0e (drop++rest))).union (A0e [(b,c,e)])) b=some (true,.cells c e (0,0)):=A1u hb3.disj _ _ (by simp [A0e])
  by_cases hcap:len+m≤cap
  ·have hsz:len*k+xs.length≤c.size:=by
    rw [h3,hxl,←Nat.add_mul];exact Nat.mul_le_mul_right _ hcap
   refine sx_append_in T (e'':=e) ht ht' hs hx' hxl hcap hone hbv (by simpa using hsz) ?_
   have hset:SetB b (A1l c (0+len*k) xs) ([(b,c,e)]++(drop++rest)) ([(b,A1l c (0+len*k) xs,e)]++(drop++rest)):=.head
   have hbk':=bok_keys hb1 hset.keys
   obtain⟨_,c₀,t₀,hin,hv⟩:=B0c hb1 hset
   have hcc:t₀=e:=by
    have q1:=A1f (v:=v) hb1 hin
    have q2:=A1f (v:=v) hb1 (InB.head (b:=b) (c:=c) (t:=e) (r:=drop++rest))
    have q3:some (true,Obj.cells c₀ t₀)=some (true,Obj.cells c e):=by rw [←q1];exact q2
    simp only [Option.some.injEq,Prod.mk.injEq,Obj.cells.injEq]at q3
    exact q3.2.2.1
   subst hcc
   obtain⟨h5,h6⟩:=B0r (β:=[(b,A1l c (0+len*k) xs,t₀)]++(drop++rest)) (τ:=[(b,A1l c (0+len*k) xs,t₀)]++rest) (fun p=>by simp only [A2g,B2f];omega) hbk'
   refine⟨[(b,A1l c (0+len*k) xs,t₀)]++rest,v,⟨h5,h6.trans ?_⟩,h [(b,A1l c (0+len*k) xs,t₀)] (some ⟨b,0,none⟩) cap (.box (by rw [List.length_append,h1,hxl,Nat.add_mul]) hcap (by rw [A5q,h3]) ?_)⟩
   ·rw [hv,←A1m hb1]
    exact Le.refl _
   ·intro j x hj
    rw [A8h (by simpa using hsz)]
    have hj0:j<(cs++xs).length:=(List.getElem?_eq_some_iff.1 hj).1
    simp only [List.length_append]at hj0
    by_cases hjl:j<cs.length
    ·rw [if_neg oM]
     rw [List.getElem?_append_left hjl]at hj
     exact h4 j x hj
    ·rw [if_pos oM]
     rw [List.getElem?_append_right oM]at hj
     rw [←hj]
     congr 1
     omega
  ·refine grown oM (OwnS.row (.box (e:=e) h1 h2 h3 h4) |>.le ?_) h1
   intro j x hj
   exact A1u hb3.disj _ _ hj
end
section
variable{P:Program}{mn:Who}{rd:Option Nat}{ops:Array Oper}
def SK(P:Program)(mn:Who)(a:Act)(o:Oper)(K:Act→View→Prop):Next→View→Prop
 | .value x,u=>K (a.put o.dst x) u
 | .skip,u=>K (a.put o.dst undef) u
 | .enter f args,u=>CallsX P mn f args (fun e u'=>match e with | .ret x=>K (a.put o.dst x) u' | .pan _=>False) u
 | _,_=>False
def OpS(P:Program)(mn:Who)(ops:Array Oper)(i:Nat)(K:Act→View→Prop)(a:Act)(v:View):Prop:=
 match ops[i]? with
 | none=>K a v
 | some o=>if Region.wanted o (yielded ops a.tmps)then SemX P (execOp a.eval o) (SK P mn a o K) (fun _ _=>False) v else K (a.put o.dst undef) v
theorem opS_mono{i:Nat}{a:Act}{v:View}{K K':Act→View→Prop}(h:∀a u,K a u→K' a u)(hh:OpS P mn ops i K a v):OpS P mn ops i K' a v:=by
 unfold OpS at *
 split
 ·rename_i ho;simp only [ho]at hh;exact h _ _ hh
 ·rename_i o ho
  simp only [ho]at hh
  split
  ·rename_i hw
   simp only [hw,if_true]at hh
   refine A2c _ (fun nx u hn=>?_) (fun _ _ x=>x) hh
   cases nx<;>first|exact hn.elim|exact h _ _ hn|skip
   exact CallsX.mono hn fun e u' hR=>⟨u',Le.refl _,by cases e<;>first|exact h _ _ hR|exact hR⟩
  ·rename_i hw;simp only [hw]at hh;exact h _ _ hh
theorem opS_frame{K K':Act→View→Prop}{F:View}(hK:∀a u,Disj u F→K a u→K' a (u.union F)){i:Nat}{a:Act}{v:View}(hd:Disj v F)(h:OpS P mn ops i K a v):OpS P mn ops i K' a (v.union F):=by
 unfold OpS at *
 split
 ·rename_i ho;simp only [ho]at h;exact hK _ _ hd h
 ·rename_i o ho
  simp only [ho]at h
  split
  ·rename_i hw
   simp only [hw,if_true]at h
   refine A2c _ (fun nx u' hn=>?_) (fun _ _ ⟨_,_,_,z⟩=>z) (A8j _ h hd)
   obtain⟨u1,rfl,hd1,hn⟩:=hn
   cases nx<;>first|exact hn.elim|exact hK _ _ hd1 hn|skip
   exact CallsX.mono (CallsX.frame hn hd1) fun e u' ⟨u2,h2,hd2,hR⟩=>⟨u',Le.refl _,by
    subst h2
    cases e<;>first|exact hK _ _ hd2 hR|exact hR⟩
  ·rename_i hw;simp only [hw]at h;exact hK _ _ hd h
def depB(ops:Array Oper)(i:Nat):Nat→Nat→Bool
 | 0,_=>false
 | fuel+1,j=>match ops[j]? with
  | some o=>o.after.toList.any fun e=>Region.binds .any e&&(Nat.beq e.on i||depB ops i fuel e.on)
  | none=>false
def Keeps(ops:Array Oper)(ms:List Nat)(v0:View)(S:List (Nat×View))(j:Nat)(v u:View):Prop:=
 if ms.contains j then v0.Le u∧∀p∈S,depB ops p.1 ops.size j=false→p.2.Le u else v.Le u
def AnyS(P:Program)(mn:Who)(ops:Array Oper)(ms:List Nat)(v0:View)(K:Act→View→Prop):Nat→List (Nat×View)→Array Bool→Act→View→Prop
 | 0,_,listed,a,v=>Region.ready .any ops listed=[]∧K a v
 | fuel+1,S,listed,a,v=>(Region.ready .any ops listed=[]→K a v)∧∀i∈Region.ready .any ops listed,OpS P mn ops i (fun a u=>Keeps ops ms v0 S i v u∧AnyS P mn ops ms v0 K fuel S (listed.setIfInBounds i true) a u) a v
theorem Keeps.le{ms:List Nat}{v0:View}{S:List (Nat×View)}{j:Nat}{v u F:View}(h:Keeps ops ms v0 S j v u)(hd:Disj u F):Keeps ops ms v0 S j (v.union F) (u.union F):=by
 unfold Keeps at *
 split at h
 ·rw [if_pos ‹_›];exact⟨h.1.trans (A0b _ _),fun p hp hdp=>(h.2 p hp hdp).trans (A0b _ _)⟩
 ·rw [if_neg ‹_›];exact A4b h hd
theorem A6c{ms:List Nat}{v0:View}{K:Act→View→Prop}(hK:∀a u v,View.Le u v→K a u→K a v):∀(fuel:Nat) (S:List (Nat×View)) (listed:Array Bool) (a:Act) (u v:View),View.Le u v→AnyS P mn ops ms v0 K fuel S listed a u→AnyS P mn ops ms v0 K fuel S listed a v
 | 0,_,_,_,_,_,hl,h=>⟨h.1,hK _ _ _ hl h.2⟩
 | fuel+1,S,listed,a,u,v,hl,h=>⟨fun e=>hK _ _ _ hl (h.1 e),fun i hi=>by
   obtain⟨F,rfl,hd⟩:=B0j hl
   exact opS_frame (fun a' u' hd' ⟨hk,hA⟩=>⟨hk.le hd',A6c hK fuel S _ a' u' _ (A0b _ _) hA⟩) hd (h.2 i hi)⟩
theorem B3z{ms:List Nat}{v0:View}{K:Act→View→Prop}{S S':List (Nat×View)}(hs:∀p∈S',p∈S∨p.2.Le v0):∀(fuel:Nat) (listed:Array Bool) (a:Act) (v:View),AnyS P mn ops ms v0 K fuel S listed a v→AnyS P mn ops ms v0 K fuel S' listed a v
 | 0,_,_,_,h=>h
 | fuel+1,listed,a,v,h=>⟨h.1,fun i hi=>opS_mono (fun a u ⟨hk,hA⟩=>⟨by
   unfold Keeps at *
   split at hk
   ·rw [if_pos ‹_›];exact⟨hk.1,fun p hp hd=>(hs p hp).elim (fun h=>hk.2 p h hd) (fun h=>h.trans hk.1)⟩
   ·rw [if_neg ‹_›];exact hk,B3z hs fuel _ a u hA⟩) (h.2 i hi)⟩
theorem yields_opS{i:Nat}{o:Oper}{x:Value}{a:Act}{vq v:View}(hi:ops[i]?=some o)(hy:YieldsX P mn ops o x a vq)(hl:vq.Le v){K:Act→View→Prop}(h:∀u,v.Le u→K (a.put o.dst x) u):OpS P mn ops i K a v:=by
 unfold OpS
 simp only [hi]
 rcases hy with ⟨hw,hq⟩|⟨hw,rfl⟩
 ·simp only [hw,if_true]
  refine A2c _ (fun nx u hn=>?_) (fun _ _ z=>z) (hq v hl)
  obtain⟨hl',hn⟩:=hn
  cases nx<;>first|exact hn.elim|skip
  ·cases hn;exact h _ hl'
  ·cases hn;exact h _ hl'
  ·exact CallsX.mono hn fun e u' hR=>⟨u',Le.refl _,by obtain⟨rfl,hl''⟩:=hR;exact h _ hl''⟩
 ·simp only [hw,Bool.false_eq_true,if_false];exact h _ (Le.refl _)
theorem opS_put{j:Nat}{oi oj:Oper}{x:Value}{v vq:View}(hj:ops[j]?=some oj)(hap:oi.apart ops oj=true)(hsi:∀cs b,oi.op≠.select cs b)(hsj:∀cs b,oj.op≠.select cs b)
  {K:Act→View→Prop}{a:Act}(hy:YieldsX P mn ops oi x a vq)(h:OpS P mn ops j K (a.put oi.dst x) v):OpS P mn ops j (fun a' u=>YieldsX P mn ops oi x a' vq∧K (a'.put oi.dst x) u) a v:=by
 obtain⟨h1,h2,h3⟩:=Oper.apart_spec hap
 have keep:∀y,YieldsX P mn ops oi x (a.put oj.dst y) vq:=fun y=>hy.of_same (Le.refl _) (execOp_put oi hsi a oj.dst y h3) (wanted_put oi a oj.dst y h3)
 unfold OpS at *
 simp only [hj]at *
 rw [wanted_put oj a oi.dst x h1]at h
 split
 ·rename_i hw
  simp only [hw,if_true]at h
  rw [execOp_put oj hsj a oi.dst x h1]at h
  refine A2c _ (fun nx u hn=>?_) (fun _ _ z=>z) h
  cases nx<;>first|exact hn.elim|skip
  ·exact⟨keep _,by rw [←Act.put_comm a x _ h2];exact hn⟩
  ·exact⟨keep _,by rw [←Act.put_comm a x _ h2];exact hn⟩
  ·exact CallsX.mono hn fun e u' hR=>⟨u',Le.refl _,by
    cases e
    ·exact⟨keep _,by rw [←Act.put_comm a x _ h2];exact hR⟩
    ·exact hR⟩
 ·rename_i hw
  simp only [hw]at h
  exact⟨keep _,by rw [←Act.put_comm a x undef h2];exact h⟩
def Closed(ops:Array Oper)(listed:Array Bool):Prop:=∀(j:Nat) (o:Oper),ops[j]?=some o→listed.getD j true=true→∀e∈o.after,Region.binds .any e=true→listed.getD e.on false=true
theorem A7f{listed:Array Bool}{i:Nat}(h:Closed ops listed)(hi:i∈Region.ready .any ops listed)(hsz:listed.size=ops.size):Closed ops (listed.setIfInBounds i true):=by
 intro j o ho hj e he hb
 by_cases hij:i=j
 ·subst hij
  obtain⟨_,o',ho',hall⟩:=mem_ready.1 hi
  rw [ho]at ho'
  cases ho'
  exact getD_set_true (hall e he hb)
 ·rw [getD_set_ne true hij]at hj
  exact getD_set_true (h j o ho hj e he hb)
theorem dep_listed{listed:Array Bool}{i:Nat}(h:Closed ops listed)(hsz:listed.size=ops.size):∀(fuel j:Nat) (o:Oper),ops[j]?=some o→(∀e∈o.after,Region.binds .any e=true→listed.getD e.on false=true)→depB ops i fuel j=true→listed.getD i false=true:=by
 intro fuel
 induction fuel with
 | zero=>intro j o _ _ hd;simp [depB]at hd
 | succ fuel ih=>
  intro j o ho hall hd
  simp only [depB,ho,List.any_eq_true]at hd
  obtain⟨e,he,hd⟩:=hd
  have he:=Array.mem_toList_iff.1 he
  simp only [Bool.and_eq_true,Bool.or_eq_true]at hd
  obtain⟨hb,hd⟩:=hd
  have hl:=hall e he hb
  rcases hd with hd|hd
  ·have:=Nat.eq_of_beq_eq_true hd
   rw [←this];exact hl
  ·have hlt:e.on<ops.size:=by
    rw [←hsz]
    apply Classical.byContradiction
    intro hn
    rw [Array.getD_eq_getD_getElem?,Array.getElem?_eq_none oM]at hl
    cases hl
   refine ih e.on ops[e.on] (by simp [hlt]) (fun e' he' hb'=>h e.on ops[e.on] (by simp [hlt]) ?_ e' he' hb') hd
   rw [Array.getD_eq_getD_getElem?]at hl⊢
   rw [Array.getElem?_eq_getElem oM]at hl⊢
   exact hl
theorem anyS_first{ms:List Nat}{v0:View}{K:Act→View→Prop}(hK:∀a u v,View.Le u v→K a u→K a v){i:Nat}{oi:Oper}{x:Value}{vq:View}(hi:ops[i]?=some oi)(hsel:∀(j:Nat) (o:Oper) cs b,ops[j]?=some o→o.op≠.select cs b)(him:ms.contains i=false) :
  ∀ (fuel:Nat) (S:List (Nat×View)) (listed:Array Bool) (a:Act) (v:View),Closed ops listed→listed.size=ops.size→
   (∀j oj,ops[j]?=some oj→j≠i→listed.getD j true=false→(∀e∈oj.after,Region.binds .any e=true→e.on≠i)→oi.apart ops oj=true)→
   i∈Region.ready .any ops listed→YieldsX P mn ops oi x a vq→vq.Le v→
   AnyS P mn ops ms v0 K fuel ((i,vq)::S) (listed.setIfInBounds i true) (a.put oi.dst x) v→AnyS P mn ops ms v0 K (fuel+1) S listed a v:=by
 have own:∀(fuel:Nat) (S:List (Nat×View)) (listed:Array Bool) (a:Act) (v:View),YieldsX P mn ops oi x a vq→vq.Le v→AnyS P mn ops ms v0 K fuel ((i,vq)::S) (listed.setIfInBounds i true) (a.put oi.dst x) v→
   OpS P mn ops i (fun a u=>Keeps ops ms v0 S i v u∧AnyS P mn ops ms v0 K fuel S (listed.setIfInBounds i true) a u) a v:=fun fuel S listed a v hy hl H=>
  yields_opS hi hy hl fun u hu=>⟨by unfold Keeps;rw [him];exact hu,A6c hK _ _ _ _ _ _ hu (B3z (fun p hp=>.inl (List.mem_cons_of_mem _ hp)) _ _ _ _ H)⟩
 intro fuel
 induction fuel with
 | zero=>
  intro S listed a v _ _ _ hr hy hl H
  refine⟨fun h=>(by rw [h]at hr;cases hr),fun j hj=>?_⟩
  by_cases hji:j=i
  ·subst hji;exact own 0 S listed a v hy hl H
  ·have:=ready_mono hj hji
   rw [H.1]at this
   cases this
 | succ fuel ih=>
  intro S listed a v hcl hsz hfree hr hy hl H
  refine⟨fun h=>(by rw [h]at hr;cases hr),fun j hj=>?_⟩
  by_cases hji:j=i
  ·subst hji;exact own _ S listed a v hy hl H
  ·have h1:=H.2 j (ready_mono hj hji)
   obtain⟨hjun,oj,hoj,hall⟩:=mem_ready.1 hj
   have hnot:∀e∈oj.after,Region.binds .any e=true→e.on≠i:=fun e he hb heq=>by
    have h1:=hall e he hb
    have h0:=(mem_ready.1 hr).1
    rw [heq]at h1
    rcases Nat.lt_or_ge i listed.size with h'|h'
    ·simp [h']at h0 h1;rw [h0]at h1;cases h1
    ·simp [Array.getElem?_eq_none h']at h1
   have hdep:depB ops i ops.size j=false:=by
    cases hd:depB ops i ops.size j with
    | false=>rfl
    | true=>
     have h1:=dep_listed hcl hsz _ j oj hoj hall hd
     have h0:=(mem_ready.1 hr).1
     rcases Nat.lt_or_ge i listed.size with h'|h'
     ·simp [h']at h0 h1;rw [h0]at h1;cases h1
     ·simp [Array.getElem?_eq_none h']at h1
   have h2:=opS_put hoj (hfree j oj hoj hji hjun hnot) (fun cs b=>hsel i oi cs b hi) (fun cs b=>hsel j oj cs b hoj) hy h1
   have hfree':∀k ok,ops[k]?=some ok→k≠i→(listed.setIfInBounds j true).getD k true=false→
     (∀e∈ok.after,Region.binds .any e=true→e.on≠i)→oi.apart ops ok=true:=fun k ok hk hki hun hno=>by
    refine hfree k ok hk hki ?_ hno
    by_cases hjk:j=k
    ·subst hjk;exact hjun
    ·rw [getD_set_ne true hjk]at hun;exact hun
   refine opS_mono (fun a' u ⟨hy',hk,hA⟩=>⟨?_,ih S (listed.setIfInBounds j true) a' u (A7f hcl hj hsz) (by simp [hsz]) hfree' (ready_mono hr (Ne.symm hji)) hy' ?_ ?_⟩) h2
   ·unfold Keeps at hk⊢
    split at hk
    ·rw [if_pos ‹_›];exact⟨hk.1,fun p hp hd=>hk.2 p (List.mem_cons_of_mem _ hp) hd⟩
    ·rw [if_neg ‹_›];exact hk
   ·unfold Keeps at hk
    split at hk
    ·exact hk.2 (i,vq) (List.mem_cons_self ..) hdep
    ·exact hl.trans hk
   ·rw [Array.setIfInBounds_comm _ _ hji]
    exact hA
theorem opS_x{Q:Exit→Act→View→Prop}{i:Nat}{rest:List Nat}{a:Act}{v:View}(hsel:∀o,ops[i]?=some o→A3g o.op=false)(h:OpS P mn ops i (fun a' u=>A5r P mn rd ops rest Q a' u) a v):A5r P mn rd ops (i::rest) Q a v:=by
 unfold OpS at h
 split at h
 ·rename_i ho
  intro Stop b k cs hb hr hq
  refine Run.ctl Z (g':=G (b.on a (.inRegion ops rest::k)) cs) (fun w=>?_) (h Stop b k cs hb hr hq)
  simp [G,stepG,stepG.exec,Frame.on,ho,Frame.finish]
 ·rename_i o ho
  split at h
  ·rename_i hw
   refine x_op ho hw (.inr (hsel o ho)) (A2c _ (fun nx u hn=>?_) (fun _ _ x=>x.elim) h)
   cases nx<;>first|exact hn.elim|exact hn|skip
   exact CallsX.mono hn fun e u' hR=>⟨u',Le.refl _,by cases e<;>first|exact hR|exact hR.elim⟩
  ·rename_i hw;exact B1a ho (by simpa using hw) h
theorem anyS_ops{Q:Exit→Act→View→Prop}{ms:List Nat}{v0:View}(hd:∀(i:Nat) o,ops[i]?=some o→A3g o.op=false):∀(fuel t:Nat) (S:List (Nat×View)) (listed:Array Bool) (a:Act) (v:View),AnyS P mn ops ms v0 (fun a u=>Q .normal a u) fuel S listed a v→
  A5r P mn rd ops (Region.linearise.go .any ops fuel t listed []) Q a v:=by
 intro fuel
 induction fuel with
 | zero=>intro t S listed a v h;simp only [Region.linearise.go];exact A7t h.2
 | succ fuel ih=>
  intro t S listed a v h
  obtain⟨h₀,h₁⟩:=h
  simp only [Region.linearise.go]
  change A5r P mn rd ops (match (Region.ready .any ops listed)[t % (Region.ready .any ops listed).length]? with
   | some i=>Region.linearise.go .any ops fuel (t / (Region.ready .any ops listed).length) (listed.setIfInBounds i true) [i]
   | none=>[].reverse) Q a v
  cases hi:(Region.ready .any ops listed)[t % (Region.ready .any ops listed).length]? with
  | none=>
   have hnil:Region.ready .any ops listed=[]:=by
    cases hr:Region.ready .any ops listed with
    | nil=>rfl
    | cons x xs=>
     rw [hr]at hi
     have hlt:t % (x::xs).length<(x::xs).length:=Nat.mod_lt _ sM
     rw [List.getElem?_eq_getElem hlt]at hi
     cases hi
   exact A7t (h₀ hnil)
  | some i=>
   simp only []
   rw [linearise_go_acc,List.reverse_singleton,List.singleton_append]
   exact opS_x (hd i) (opS_mono (fun a u hA=>ih _ S _ a u hA.2) (h₁ i (List.mem_of_getElem? hi)))
theorem A9q{Q:Exit→Act→View→Prop}{ms:List Nat}{v0:View}{id:Nat}{a:Act}{v:View}(hm:P.follows .mixedOrders=true)(hd:ops.all (fun o=>!A3g o.op)=true)
  (h:AnyS P mn ops ms v0 (fun a u=>Q .normal a u) ops.size [] (Array.replicate ops.size false) a v):wpX P mn rd (.region id ops true) Q a v:=
 A9p fun t=>by
  simp only [Region.schedule,hm,Bool.true_or,if_true]
  refine anyS_ops (fun i o ho=>?_) ops.size t [] _ a _ h
  have:=Array.all_eq_true_iff_forall_mem.1 hd o (Array.mem_of_getElem? ho)
  simpa using this
end
def nthV:List Value→Nat→Option Value
 | [],_=>none
 | x::_,0=>some x
 | _::r,k+1=>nthV r k
def cutV:List Value→Nat→Nat→Option (List Value)
 | _,0,0=>some []
 | [],_,_=>none
 | x::r,0,k+1=>match cutV r 0 k with|some l=>some (x::l)|none=>none
 | _::r,off+1,k=>cutV r off k
theorem nthV_eq:∀(l:List Value) (i:Nat),nthV l i=l[i]?
 | [],_=>by simp [nthV]
 | _::_,0=>rfl
 | _::r,i+1=>by simp [nthV,nthV_eq r i]
theorem cutV_eq:∀(l:List Value) (off k:Nat) (m:List Value),cutV l off k=some m→off+k≤l.length∧m=(l.drop off).take k
 | l,0,0,m,h=>by unfold cutV at h;simp at h;simp [←h]
 | [],0,k+1,m,h=>by simp [cutV]at h
 | [],off+1,k,m,h=>by simp [cutV]at h
 | x::r,0,k+1,m,h=>by
  simp only [cutV]at h
  split at h
  ·rename_i l hl
   obtain⟨h1,h2⟩:=cutV_eq r 0 k l hl
   cases h
   simp only [List.length_cons,List.drop_zero,List.take_succ_cons,h2]
   exact⟨oM,trivial⟩
  ·cases h
 | x::r,off+1,k,m,h=>by
  have h':cutV r off k=some m:=by
   cases k<;>simpa [cutV]using h
  obtain⟨h1,h2⟩:=cutV_eq r off k m h'
  simp only [List.length_cons,List.drop_succ_cons]
  exact⟨oM,h2⟩
theorem InB.app{b:Nat}{c:Array Value}{t:TypeId}{l r:A0j}(h:InB b c t r):InB b c t (l++r):=by
 induction l with
 | nil=>exact h
 | cons p l ih=>exact .tail ih
theorem SetB.app{b:Nat}{c:Array Value}{l r r':A0j}(h:SetB b c r r'):SetB b c (l++r) (l++r'):=by
 induction l with
 | nil=>exact h
 | cons p l ih=>exact .tail ih
section
variable{P:Program}{mn:Who}(T:Tab P){rd:Option Nat}{n:Nat}{Q:Exit→St→View→Prop}{ds:List Deferred}{ρ:Regs}{β:A0j}{v:View}
 {ops:Array Oper}{i:Nat}{rest:List Nat}{l:List Oper}{d:Nat}{op:Op}{ty:TypeId}{pos:String}{af:Array Edge}{gu:Option (Nat×Bool)}{K:St→View→Prop}
def readN(t:TypeId)(c:Array Value)(off:Nat):Option Value:=
 match T.und t,T.siz t with
 | some d,some k=>if aggOf d then(match cutV c.toList off k with|some l=>some (.agg l.toArray)|none=>none)else nthV c.toList off
 | _,_=>none
theorem readN_B{t:TypeId}{c:Array Value}{off:Nat}{x:Value}(h:readN T t c off=some x):A5t T t c off=some x:=by
 unfold readN at h
 unfold A5t
 split at h
 ·rename_i d k h1 h2
  try simp only [h1,h2]
  split at h
  ·rename_i ha
   rw [if_pos ha]
   split at h
   ·rename_i m hm
    cases h
    obtain⟨h3,h4⟩:=cutV_eq _ _ _ _ hm
    rw [if_pos (by simpa using h3),h4]
    congr 2
    apply Array.ext'
    simp [Array.toList_extract,List.extract]
   ·cases h
  ·rename_i ha
   rw [if_neg ha]
   rw [nthV_eq]at h
   simpa using h
 ·cases h
theorem R_loadN{t t':TypeId}{y:Operand}{b off:Nat}{c:Array Value}{x:Value}(ho:ops[i]?=some ⟨some d,.load t y,ty,pos,af,gu⟩)(hw:A0x ops gu ρ=some true)(hn:Nat.blt d n=true)
  (hy:ρ.val y=some (.pointer (some ⟨b,off,none⟩)))(hb:InB b c t' β)(hx:readN T t c off=some x)
  (h:XO P mn rd n ops rest Q ⟨ds,(d,x)::ρ,β⟩ v):XO P mn rd n ops (i::rest) Q ⟨ds,ρ,β⟩ v:=R_loadB T ho hw hn hy hb (readN_B T hx) h
theorem L_loadN{t t':TypeId}{y:Operand}{b off:Nat}{c:Array Value}{x:Value}(hw:A0x ops gu ρ=some true)(hn:Nat.blt d n=true)
  (hy:ρ.val y=some (.pointer (some ⟨b,off,none⟩)))(hb:InB b c t' β)(hx:readN T t c off=some x)
  (h:XL P mn n ops Q l ⟨ds,(d,x)::ρ,β⟩ v):XL P mn n ops Q (⟨some d,.load t y,ty,pos,af,gu⟩::l) ⟨ds,ρ,β⟩ v:=A1y T hw hn hy hb (readN_B T hx) h
def mkL(ops:Array Oper):List Nat→Array Bool
 | []=>Array.replicate ops.size false
 | i::r=>(mkL ops r).setIfInBounds i true
theorem B0g{done:List Nat}:(mkL ops done).size=ops.size:=by
 induction done with
 | nil=>simp [mkL]
 | cons i r ih=>simp [mkL,ih]
abbrev Rec:=Nat×Nat×Array Value×TypeId
def SV(S:List Rec):List (Nat×View):=S.map fun p=>(p.1,A0e [(p.2.1,p.2.2.1,p.2.2.2)])
def XS(P:Program)(mn:Who)(n:Nat)(ops:Array Oper)(ms:List Nat)(v0:View)(Q:Exit→St→View→Prop)(todo:List Nat)(S:List Rec)(done:List Nat)(σ:St)(v:View):Prop:=
 ∀a,Fits n σ a→Bok σ.β v→v0.Le v→Closed ops (mkL ops done)→AnyS P mn ops ms v0 (fun a u=>Post n Q .normal a u) todo.length (SV S) (mkL ops done) a (v.union (A0e σ.β))
theorem post_le{e:Exit}{a:Act}{u w:View}(hl:u.Le w)(h:Post n Q e a u):Post n Q e a w:=by
 obtain⟨σ,u',h1,h2,h3,h4⟩:=h;exact⟨σ,u',h1,h2,h3,h4.trans hl⟩
theorem S_start{id:Nat}(ms todo:List Nat)(hk:todo.length=ops.size)(hm:P.follows .mixedOrders=true)(hd:ops.all (fun o=>!A3g o.op)=true)(h:XS P mn n ops ms v Q todo [] [] ⟨ds,ρ,β⟩ v):XC P mn rd n (.region id ops true) Q ⟨ds,ρ,β⟩ v:=fun a hf hb=>
 A3u (A9q (Q:=fun e a u=>e = .normal∧Post n Q .normal a u) (ms:=ms) (v0:=v) hm hd (by
  have hkk:(fun(a:Act) (u:View)=>(Exit.normal=Exit.normal∧Post n Q .normal a u))=(fun a u=>Post n Q .normal a u):=by funext a u;simp
  rw [hkk]
  have h':=h a hf hb (Le.refl _) (fun j o ho hj=>by
   simp only [mkL,Array.getD_eq_getD_getElem?,Array.getElem?_replicate]at hj
   rw [if_pos (Array.getElem?_eq_some_iff.1 ho).1]at hj
   cases hj)
  rw [hk]at h'
  exact h')) fun e a u ⟨he,hp⟩=>⟨u,Le.refl _,he ▸ hp⟩
theorem S_end{S:List Rec}{done:List Nat}{ms:List Nat}{v0:View}(hr:(Region.ready .any ops (mkL ops done)).isEmpty=true)(h:Q .normal ⟨ds,ρ,β⟩ v):XS P mn n ops ms v0 Q [] S done ⟨ds,ρ,β⟩ v:=fun a hf hb _ _=>
 ⟨by simpa using hr,A5v h hf hb⟩
def B1v(ops:Array Oper)(ms done:List Nat)(i:Nat):Bool:=(Region.ready .any ops (mkL ops done)).contains i&&Region.free .any ops (mkL ops done) i && !ms.contains i&&Region.noSelect ops
theorem A7i{S S':List Rec}{done:List Nat}{ms:List Nat}{v0 vq:View}{todo:List Nat}{o:Oper}{x:Value}{σ:St}(ho:ops[i]?=some o)(hn:A3j n o.dst=true)(hB:B1v ops ms done i=true)
  (hy:∀a,Fits n σ a→YieldsX P mn ops o x a vq)(hq:Bok σ.β v→v0.Le v→vq.Le (v.union (A0e σ.β)))(hS:∀p∈(i,vq)::SV S,p∈SV S'∨p.2.Le v0)
  (h:XS P mn n ops ms v0 Q todo S' (i::done) ⟨σ.ds,putR o.dst x σ.ρ,σ.β⟩ v):XS P mn n ops ms v0 Q (i::todo) S done σ v:=fun a hf hb hv hc=>by
 simp only [B1v,Bool.and_eq_true]at hB
 obtain⟨⟨⟨h1,h2⟩,h3⟩,h4⟩:=hB
 have hr:i∈Region.ready .any ops (mkL ops done):=by simpa using h1
 exact anyS_first (K:=fun a u=>Post n Q .normal a u) (fun a u v hl hp=>post_le hl hp) ho (Region.noSelect_spec h4) (by simpa using h3) todo.length (SV S) (mkL ops done) a _ hc B0g (Region.free_spec ho h2) hr (hy a hf) (hq hb hv)
  (B3z hS _ _ _ _ (h _ (A1h hf hn) hb hv (A7f hc hr B0g)))
theorem sv_mem{S:List Rec}{v0:View}{vq:View}(hl:vq.Le v0):∀p∈(i,vq)::SV S,p∈SV S∨p.2.Le v0:=fun p hp=>by
 rcases List.mem_cons.1 hp with rfl|h
 ·exact .inr hl
 ·exact .inl h
section
variable{S:List Rec}{done:List Nat}{ms:List Nat}{v0:View}{todo:List Nat}
theorem S_pure{x:Value}(ho:ops[i]?=some ⟨some d,op,ty,pos,af,gu⟩)(hw:A0x ops gu ρ=some true)(hn:Nat.blt d n=true)(hB:B1v ops ms done i=true)(hx:A1z T ρ.val op=some x)
  (h:XS P mn n ops ms v0 Q todo S (i::done) ⟨ds,(d,x)::ρ,β⟩ v):XS P mn n ops ms v0 Q (i::todo) S done ⟨ds,ρ,β⟩ v:=
 A7i (vq:=fun _=>none) ho hn hB (fun a hf=>.inl ⟨A0q hf (A0p hw),fun u _=>A7z T (A0o hf) hx ⟨Le.refl _,rfl⟩⟩) (fun _ _ b x e=>by cases e) (sv_mem fun b x e=>by cases e) h
theorem S_skip(ho:ops[i]?=some ⟨some d,op,ty,pos,af,gu⟩)(hw:A0x ops gu ρ=some false)(hn:Nat.blt d n=true)(hB:B1v ops ms done i=true)
  (h:XS P mn n ops ms v0 Q todo S (i::done) ⟨ds,(d,undef)::ρ,β⟩ v):XS P mn n ops ms v0 Q (i::todo) S done ⟨ds,ρ,β⟩ v:=
 A7i (vq:=fun _=>none) ho hn hB (fun a hf=>.inr ⟨A0q hf (A0p hw),rfl⟩) (fun _ _ b x e=>by cases e) (sv_mem fun b x e=>by cases e) h
theorem A0v{t e:TypeId}{y z:Operand}{b off len cap sz:Nat}{jz:Int}{k:IntKind}(j:Nat)(ho:ops[i]?=some ⟨some d,.indexAddr t y z,ty,pos,af,gu⟩)(hw:A0x ops gu ρ=some true)(hn:Nat.blt d n=true)(hB:B1v ops ms done i=true)
  (hy:ρ.val y=some (.slice (some ⟨b,off,none⟩) len cap))(hz:ρ.val z=some (.int k jz))(hj:jz=j)(ht:T.und t=some (.slice e))(hs:T.siz e=some sz)(h1:j<len)
  (h:XS P mn n ops ms v0 Q todo S (i::done) ⟨ds,(d,.pointer (some ⟨b,off+j*sz,none⟩))::ρ,β⟩ v):XS P mn n ops ms v0 Q (i::todo) S done ⟨ds,ρ,β⟩ v:=by
 subst hj
 exact A7i (vq:=fun _=>none) (x:=.pointer (some ⟨b,off+j*sz,none⟩)) ho hn hB (fun a hf=>.inl ⟨A0q hf (A0p hw),fun u _=>by
  unfold QAt execOp
  simp only [A0o hf _ _ hy,A0o hf _ _ hz,A0d,A0m]
  refine B1c T ht hs oM oM ⟨Le.refl _,?_⟩
  rw [A5m];simp⟩) (fun _ _ b x e=>by cases e) (sv_mem fun b x e=>by cases e) h
theorem A8d{t e:TypeId}{y:Operand}{b off:Nat}{p:Bool}{c:Array Value}{f:Nat×Nat}{x:Value}(ho:ops[i]?=some ⟨some d,.load t y,ty,pos,af,gu⟩)(hw:A0x ops gu ρ=some true)(hn:Nat.blt d n=true)(hB:B1v ops ms done i=true)
  (hy:ρ.val y=some (.pointer (some ⟨b,off,none⟩)))(hb:v0 b=some (p,.cells c e f))(hx:A5t T t c off=some x)
  (h:XS P mn n ops ms v0 Q todo S (i::done) ⟨ds,(d,x)::ρ,β⟩ v):XS P mn n ops ms v0 Q (i::todo) S done ⟨ds,ρ,β⟩ v:=
 A7i (vq:=v0) (x:=x) ho hn hB (fun a hf=>.inl ⟨A0q hf (A0p hw),fun u hu=>by
  unfold QAt execOp
  simp only [Instr.loadAt,Instr.sureAddr,A0o hf _ _ hy,A0d,A0m]
  exact A4n T (hu _ _ hb) hx ⟨Le.refl _,Z⟩⟩) (fun _ hv=>hv.trans (A0b _ _)) (sv_mem (Le.refl _)) h
theorem A1q{t t':TypeId}{y:Operand}{b off:Nat}{c:Array Value}{x:Value}(ho:ops[i]?=some ⟨some d,.load t y,ty,pos,af,gu⟩)(hw:A0x ops gu ρ=some true)(hn:Nat.blt d n=true)(hB:B1v ops ms done i=true)
  (hy:ρ.val y=some (.pointer (some ⟨b,off,none⟩)))(hb:InB b c t' β)(hx:A5t T t c off=some x)
  (h:XS P mn n ops ms v0 Q todo ((i,b,c,t')::S) (i::done) ⟨ds,(d,x)::ρ,β⟩ v):XS P mn n ops ms v0 Q (i::todo) S done ⟨ds,ρ,β⟩ v:=
 A7i (vq:=A0e [(b,c,t')]) (S':=(i,b,c,t')::S) (x:=x) ho hn hB (fun a hf=>.inl ⟨A0q hf (A0p hw),fun u hu=>by
  unfold QAt execOp
  simp only [Instr.loadAt,Instr.sureAddr,A0o hf _ _ hy,A0d,A0m]
  exact A4n T (hu b (true,.cells c t' (0,0)) (by simp [A0e])) hx ⟨Le.refl _,Z⟩⟩) (fun hbk _ j x e=>by
   simp only [A0e]at e
   split at e
   ·rename_i hj;subst hj;cases e;exact A1f hbk hb
   ·cases e) (fun p hp=>.inl hp) h
theorem S_loadN{t t':TypeId}{y:Operand}{b off:Nat}{c:Array Value}{x:Value}(ho:ops[i]?=some ⟨some d,.load t y,ty,pos,af,gu⟩)(hw:A0x ops gu ρ=some true)(hn:Nat.blt d n=true)(hB:B1v ops ms done i=true)
  (hy:ρ.val y=some (.pointer (some ⟨b,off,none⟩)))(hb:InB b c t' β)(hx:readN T t c off=some x)
  (h:XS P mn n ops ms v0 Q todo ((i,b,c,t')::S) (i::done) ⟨ds,(d,x)::ρ,β⟩ v):XS P mn n ops ms v0 Q (i::todo) S done ⟨ds,ρ,β⟩ v:=A1q T ho hw hn hB hy hb (readN_B T hx) h
def KeepS(ops:Array Oper)(i:Nat):List Rec→A0j→Prop
 | [],_=>True
 | (k,b,c,t)::S,β=>(depB ops k ops.size i=true∨InB b c t β)∧KeepS ops i S β
theorem A8l{i:Nat}{β:A0j}:∀{S:List Rec},KeepS ops i S β→∀p∈SV S,depB ops p.1 ops.size i=false→∃b c t,p.2=A0e [(b,c,t)]∧InB b c t β
 | [],_,p,hp,_=>by simp [SV]at hp
 | (k,b,c,t)::S,h,p,hp,hd=>by
  simp only [SV,List.map_cons,List.mem_cons]at hp
  rcases hp with rfl|hp
  ·rcases h.1 with h1|h1
   ·simp only at hd;rw [h1]at hd;cases hd
   ·exact⟨b,c,t,Z,h1⟩
  ·exact A8l h.2 p hp hd
def onlyB(ops:Array Oper)(ms done:List Nat)(i:Nat):Bool:=(Region.ready .any ops (mkL ops done)).contains i&&(Region.ready .any ops (mkL ops done)).all (fun j=>Nat.beq j i)&&ms.contains i
theorem S_do(hB:onlyB ops ms done i=true)(h:XOp P mn (some 4294967295) n ops i (fun _ _ _=>False) (fun σ' u=>v.Le u∧KeepS ops i S σ'.β∧XS P mn n ops ms v0 Q todo S (i::done) σ' u) ⟨ds,ρ,β⟩ v):XS P mn n ops ms v0 Q (i::todo) S done ⟨ds,ρ,β⟩ v:=fun a hf hb hv hc=>by
 simp only [onlyB,Bool.and_eq_true]at hB
 obtain⟨⟨h1,h2⟩,h3⟩:=hB
 have hr:i∈Region.ready .any ops (mkL ops done):=by simpa using h1
 show AnyS P mn ops ms v0 (fun a u=>Post n Q .normal a u) (todo.length+1) (SV S) (mkL ops done) a (v.union (A0e β))
 refine⟨fun e=>(by rw [e]at hr;cases hr),fun j hj=>?_⟩
 have hji:j=i:=Nat.eq_of_beq_eq_true (List.all_eq_true.1 h2 j hj)
 subst hji
 obtain⟨o,ho,hw,hd,hs⟩:=h a hf hb
 unfold OpS
 simp only [ho,hw,if_true]
 have key:∀{a' w},KP n (fun σ' u=>v.Le u∧KeepS ops j S σ'.β∧XS P mn n ops ms v0 Q todo S (j::done) σ' u) a' w→Keeps ops ms v0 (SV S) j (v.union (A0e β)) w∧AnyS P mn ops ms v0 (fun a u=>Post n Q .normal a u) todo.length (SV S) ((mkL ops done).setIfInBounds j true) a' w:=by
  rintro a' w ⟨σ',u,⟨hl,hk,hx⟩,hf',hb',hw'⟩
  refine⟨?_,?_⟩
  ·unfold Keeps
   rw [if_pos h3]
   refine⟨((hv.trans hl).trans (A0b _ _)).trans hw',fun p hp hdp=>?_⟩
   obtain⟨b,c,t,he,hin⟩:=A8l hk p hp hdp
   rw [he]
   intro j' x e
   simp only [A0e]at e
   split at e
   ·rename_i hj';subst hj';cases e;exact hw' _ _ (A1f hb' hin)
   ·cases e
  ·exact A6c (K:=fun a u=>Post n Q .normal a u) (fun a u v hl hp=>post_le hl hp) _ _ _ _ _ _ hw' (hx _ hf' hb' (hv.trans hl) (A7f hc hr B0g))
 refine A2c _ (fun nx w hK=>?_) (fun x w hE=>?_) hs
 ·cases nx with
  | value x=>exact key hK
  | skip=>exact key hK
  | defer d=>exact absurd hK.1 sM
  | enter f args=>exact CallsX.mono hK fun e w' hR=>⟨w',Le.refl _,by
    cases e with
    | ret x=>exact key hR
    | pan ch=>obtain⟨_,_,hq,_⟩:=hR;exact hq⟩
  | round l f tmps assign body=>exact absurd rfl hK.1
  | _=>exact hK.elim
 ·obtain⟨_,_,hq,_⟩:=hE;exact hq
end
theorem A1j{t t':TypeId}{y z:Operand}{b off k:Nat}{c:Array Value}{x:Value}{β':A0j}(ho:ops[i]?=some ⟨none,.store t y z,ty,pos,af,gu⟩)(hw:A0x ops gu ρ=some true)
  (hy:ρ.val y=some (.pointer (some ⟨b,off,none⟩)))(hz:ρ.val z=some x)(ht:T.siz t=some k)(hk:x.cells.size=k)(hone:x.cells.toList.all A3z=true)(hb:InB b c t' β)(hoff:Nat.ble (off+k) c.size=true)(hset:SetB b (A1l c off x.cells.toList) β β')
  (h:K ⟨ds,ρ,β'⟩ v):XOp P mn rd n ops i Q K ⟨ds,ρ,β⟩ v:=Op_storeB T ho (A0p hw) Z Z hy hz ht hk hone hb hoff hset h
theorem A7s{f:Operand}{args:Array Operand}{ats:Array TypeId}{k:FuncId}{first captured:Array Value}{xs:List Value}{R:End→A0j→Prop}(bin rest:A0j)(ho:ops[i]?=some ⟨some d,.call {callee:=.value f,args:=args,argTypes:=ats },ty,pos,af,gu⟩)(hw:A0x ops gu ρ=some true)(hn:Nat.blt d n=true)
  (hf:ρ.val f=some (.func (.func k) first captured))(hxs:A3q ρ.val args.toList=some xs)(hk:A0n P k)
  (hsplit:∀p,cnt p β=cnt p (bin++rest))(hc:CallsB P mn k (first++xs.toArray++captured) R bin (v.union (A0e rest)))
  (hr:∀x β',R (.ret x) β'→K ⟨ds,(d,x)::ρ,β'++rest⟩ v)(hp:∀ch β',R (.pan ch) β'→Q (.panic ch) ⟨ds,ρ,β'++rest⟩ v):XOp P mn rd n ops i Q K ⟨ds,ρ,β⟩ v:=
 Op_callB bin rest ho (A0p hw) hn rfl hf hxs hk hsplit hc hr hp
theorem A2w{t t' e e':TypeId}{k by_ m len cap cap2:Nat}{y y2:Operand}{z:Value}{a a2:Option Addr}{cs xs:List Value}(seg drop rest:A0j)(ho:ops[i]?=some ⟨some d,.call {callee:=.builtin .append,args:=#[y,y2],argTypes:=#[t,t'] },ty,pos,af,gu⟩)(hw:A0x ops gu ρ=some true)(hn:Nat.blt d n=true)
  (hy:ρ.val y=some (.slice a len cap))(hy2:ρ.val y2=some (.slice a2 m cap2))
  (ht:T.und t=some (.slice e))(ht':T.und t'=some (.slice e'))(hs:T.siz e=some k)(hby:T.byt e=some by_)(hz:T.zer e=some z)(hzs:z.cells.size=k)
  (hsplit:∀p,cnt p β=cnt p (seg++(drop++rest)))(hS:OwnS e k seg a len cap cs)(hx:Bok (drop++rest) v→RowAt (v.union (A0e (drop++rest))) a2 xs)(hxl:xs.length=m*k)(hone:xs.all A3z=true)
  (hb:(2*(len+m)+768)*by_≤2^48)(hp:0<by_)
  (h:∀seg' a' cap',OwnS e k seg' a' (len+m) cap' (cs++xs)→K ⟨ds,(d,.slice a' (len+m) cap')::ρ,seg'++rest⟩ v):XOp P mn rd n ops i Q K ⟨ds,ρ,β⟩ v:=
 Op_append T rest drop ho (A0p hw) hn rfl hy hy2 ht ht' hs hby hz hzs hsplit hS hx hxl hone hb hp h
end
def quietOp:Op→Bool
 | .store .. | .alloc .. | .box .. | .buildSlice .. | .makeSlice .. | .slice .. | .makeMap ..=>false
 | .call c=>match c.callee with
  | .builtin .len | .builtin .cap | .builtin .min | .builtin .max=>true
  | _=>false
 | _=>true
theorem C_lex{P:Program}{mn:Who}{rd:Option Nat}{n:Nat}{Q:Exit→St→View→Prop}{ds:List Deferred}{ρ:Regs}{β:A0j}{v:View}{ops:Array Oper}{id:Nat}{l:List Oper}(hm:P.follows .mixedOrders=true)(hl:ops.toList=l)(hq:l.all (fun o=>quietOp o.op)=true)(hB:(Region.lexB .any ops&&ops.all (fun o=>!A3g o.op))=true)(h:XL P mn n ops Q l ⟨ds,ρ,β⟩ v) :
  XC P mn rd n (.region id ops true) Q ⟨ds,ρ,β⟩ v:=B0v hm hl hB h
theorem A2u{P:Program}{mn:Who}{rd:Option Nat}{n:Nat}{Q:Exit→St→View→Prop}{ds:List Deferred}{ρ:Regs}{β:A0j}{v:View}{ops:Array Oper}{id:Nat}(ms todo:List Nat)(hm:P.follows .mixedOrders=true)(hk:todo.length=ops.size)(hd:ops.all (fun o=>!A3g o.op)=true)(h:XS P mn n ops ms v Q todo [] [] ⟨ds,ρ,β⟩ v):XC P mn rd n (.region id ops true) Q ⟨ds,ρ,β⟩ v:=
 S_start ms todo hk hm hd h
def B1g(k:Nat):Nat→List (Nat×Value)→Bool
 | _,[]=>true
 | i,(j,x)::r=>Nat.beq j i&&Nat.beq x.cells.size k&&B1g k (i+1) r
theorem fill_all{k:Nat}:∀(ps:List (Nat×Value)) (i:Nat) (cs:Array Value),B1g k i ps=true→i*k+ps.length*k=cs.size→
  ∃out,Instr.fill (fun i=>some (i*k,k)) cs ps=some out∧out.size=cs.size∧∀j,out[j]?=if j<i*k then cs[j]? else(ps.flatMap fun p=>p.2.cells.toList)[j-i*k]?
 | [],i,cs,_,h=>by
  refine⟨cs,Z,Z,fun j=>?_⟩
  split
  ·rfl
  ·simp at h⊢;omega
 | (j,x)::r,i,cs,hp,h=>by
  simp only [B1g,Bool.and_eq_true]at hp
  obtain⟨⟨h1,h2⟩,h3⟩:=hp
  have h1:=Nat.eq_of_beq_eq_true h1
  have h2:=Nat.eq_of_beq_eq_true h2
  subst h1
  simp only [List.length_cons,Nat.add_mul,Nat.one_mul]at h
  obtain⟨out,ho1,ho2,ho3⟩:=fill_all r (j+1) (A1l cs (j*k) x.cells.toList) h3 (by rw [A5q,Nat.add_mul,Nat.one_mul];omega)
  refine⟨out,?_,by rw [ho2,A5q],fun q=>?_⟩
  ·simp only [Instr.fill,h2]
   rw [if_neg (by simp;omega),foldl_set']
   exact ho1
  ·rw [ho3 q,A8h (by simp [h2];omega)]
   simp only [List.flatMap_cons,Array.length_toList,h2,Nat.add_mul,Nat.one_mul]
   by_cases hq:q<j*k
   ·rw [if_pos oM,if_neg oM,if_pos hq]
   ·rw [if_neg hq]
    by_cases hq2:q<j*k+k
    ·rw [if_pos hq2,if_pos oM,List.getElem?_append_left (by simp [h2];omega)]
    ·rw [if_neg hq2,List.getElem?_append_right (by simp [h2];omega)]
     simp only [Array.length_toList,h2]
     congr 1
     omega
section
variable{P:Program}{mn:Who}(T:Tab P){rd:Option Nat}{n:Nat}{Q:Exit→St→View→Prop}{ds:List Deferred}{ρ:Regs}{β:A0j}{v:View}
 {ops:Array Oper}{i:Nat}{rest:List Nat}{l:List Oper}{d:Nat}{op:Op}{ty:TypeId}{pos:String}{af:Array Edge}{gu:Option (Nat×Bool)}{K:St→View→Prop}
theorem A3x{t e:TypeId}{len k:Nat}{z:Value}{parts:Array (Nat×Operand)}{ps:List (Nat×Value)}(ho:ops[i]?=some ⟨some d,.buildSlice t len parts,ty,pos,af,gu⟩)(hw:A0x ops gu ρ=some true)(hn:Nat.blt d n=true)
  (ht:T.und t=some (.slice e))(hs:T.siz e=some k)(hz:T.zer e=some z)(hps:A8t ρ.val parts.toList=some ps)(hp:B1g k 0 ps=true)(hlen:Nat.beq ps.length len=true)(hsm:Nat.ble (len*k) 16777216=true)
  (h:∀b c,OwnS e k [(b,c,e)] (some ⟨b,0,none⟩) len len (ps.flatMap fun p=>p.2.cells.toList)→K ⟨ds,(d,.slice (some ⟨b,0,none⟩) len len)::ρ,(b,c,e)::β⟩ v):XOp P mn rd n ops i Q K ⟨ds,ρ,β⟩ v:=by
 refine A2x ho (A0p hw) (.inr Z) hn fun ev hev hbk=>?_
 have hlen:=Nat.eq_of_beq_eq_true hlen
 have hsm:=Nat.le_of_ble_eq_true hsm
 unfold execOp
 have e1:(parts.map fun(i,x)=>(i,ev x)).toList=ps:=by rw [←A6m hev hps];simp
 simp only [Instr.buildSlice,A0d,A1r T ht,A5f T hs,A0m,e1]
 rw [if_neg oM]
 obtain⟨KK,hKK⟩:∃KK:Value→View→Prop,KK=fun a v'=>∃β' u,(Bok β' u∧(u.union (A0e β')).Le v')∧K ⟨ds,putR (some d) a ρ,β'⟩ u:=⟨_,rfl⟩
 have fin:∀(EE:Value→View→Prop) (zz:Array Value) (why:String),SemX P (match Instr.fill (fun i=>some (i*k,k)) ((Array.range (len*k)).map (zz[· % zz.size]!)) ps with
   | some cells=>do pure (.slice (some (←newRow e cells)) len len)
   | _=>stuck why) KK EE (v.union (A0e β)):=by
  intro EE zz why
  obtain⟨out,ho1,ho2,ho3⟩:=fill_all (k:=k) ps 0 ((Array.range (len*k)).map (zz[· % zz.size]!)) hp (by simp [hlen])
  rw [ho1]
  simp only [newRow,A0d,A0m,B2s]
  intro b hb
  obtain⟨h1,h2⟩:=B0s (c:=out) (t:=e) hbk hb
  have hflat:(ps.flatMap fun p=>p.2.cells.toList).length=len*k:=by
   have:∀(ps:List (Nat×Value)) (i:Nat),B1g k i ps=true→(ps.flatMap fun p=>p.2.cells.toList).length=ps.length*k:=by
    intro ps
    induction ps with
    | nil=>intros;simp
    | cons p r ih=>
     intro i hp
     obtain⟨j,x⟩:=p
     simp only [B1g,Bool.and_eq_true]at hp
     have:=Nat.eq_of_beq_eq_true hp.1.2
     simp only [List.flatMap_cons,List.length_append,ih _ hp.2,List.length_cons,Array.length_toList,this]
     rw [Nat.add_mul];omega
   rw [this ps 0 hp,hlen]
  rw [hKK]
  refine⟨(b,out,e)::β,v,⟨h1,h2⟩,h b out (.box hflat (Nat.le_refl _) (by simpa using ho2) fun j x hj=>?_)⟩
  rw [ho3 j]
  simpa using hj
 rw [←hKK]
 split
 ·rw [A0d,A0m];exact fin _ _ _
 ·rw [A0d,A9x T hz,A0d,A0m];exact fin _ _ _
theorem B0a{KK:Nat→View→Prop}{E:Value→View→Prop}{w:View}{k:IntKind}{x y:Nat}{c:BoundsCode}(hle:x≤y)(hK:KK x w):SemX P (Instr.sliceBound (.int k x) y c) KK E w:=by
 unfold Instr.sliceBound
 simp only [asIntOf,A0d,A0m]
 rw [if_pos ⟨oM,oM⟩]
 rw [A0m,Int.toNat_natCast]
 exact hK
theorem A_slice_h{t e:TypeId}{y z1:Operand}{a:Option Addr}{len cap h' sz:Nat}{k1:IntKind}(ho:ops[i]?=some ⟨some d,.slice t y none (some z1) none,ty,pos,af,gu⟩)(hw:A0x ops gu ρ=some true)(hn:Nat.blt d n=true)
  (hy:ρ.val y=some (.slice a len cap))(ht:T.und t=some (.slice e))(hs:T.siz e=some sz)(hhi:ρ.val z1=some (.int k1 h'))(h2:h'≤cap)
  (h:K ⟨ds,(d,.slice (if cap=0 then a else a.map (·.add (0*sz))) (h'-0) (cap-0))::ρ,β⟩ v):XOp P mn rd n ops i Q K ⟨ds,ρ,β⟩ v:=by
 refine A2x ho (A0p hw) (.inr Z) hn fun ev hev hbk=>?_
 unfold execOp
 simp only [Option.map_none,Option.map_some,Instr.sliceAt,Instr.slice,Instr.sliceBounds,hev _ _ hy,hev _ _ hhi,A0d,A0m,A1r T ht]
 refine B0a h2 ?_
 simp only [A5f T hs]
 exact⟨β,v,⟨hbk,Le.refl _⟩,h⟩
theorem A_slice_l{t e:TypeId}{y z0:Operand}{a:Option Addr}{len cap l' sz:Nat}{k0:IntKind}(ho:ops[i]?=some ⟨some d,.slice t y (some z0) none none,ty,pos,af,gu⟩)(hw:A0x ops gu ρ=some true)(hn:Nat.blt d n=true)
  (hy:ρ.val y=some (.slice a len cap))(ht:T.und t=some (.slice e))(hs:T.siz e=some sz)(hlo:ρ.val z0=some (.int k0 l'))(h1:l'≤len)
  (h:K ⟨ds,(d,.slice (if cap=l' then a else a.map (·.add (l'*sz))) (len-l') (cap-l'))::ρ,β⟩ v):XOp P mn rd n ops i Q K ⟨ds,ρ,β⟩ v:=by
 refine A2x ho (A0p hw) (.inr Z) hn fun ev hev hbk=>?_
 unfold execOp
 simp only [Option.map_none,Option.map_some,Instr.sliceAt,Instr.slice,Instr.sliceBounds,hev _ _ hy,hev _ _ hlo,A0d,A0m,A1r T ht]
 refine B0a h1 ?_
 simp only [A5f T hs]
 exact⟨β,v,⟨hbk,Le.refl _⟩,h⟩
end
end Go.Pal
end
