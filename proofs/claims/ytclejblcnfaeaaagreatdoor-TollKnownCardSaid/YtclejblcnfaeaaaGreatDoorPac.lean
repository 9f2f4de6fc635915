/- Part 3. -/
import Derived.Test.YtclejblcnfaeaaaGreatDoorPab
set_option linter.all false
section
namespace Go.Pal
open Go Go.Conc View
section
variable{P:Program}{mn:Who}(T:Tab P){rd:Option Nat}{n:Nat}{Q:Exit→St→View→Prop}{ds:List Deferred}{ρ:Regs}{β:A0e}{v:View}
 {ops:Array Oper}{i:Nat}{rest:List Nat}{o:Oper}
theorem XO_pure{x:Value}(ho:ops[i]?=some o)(hw:A4s ops o ρ=some true)(hn:A2p n o.dst=true)(hx:A1h T ρ.val o.op=some x)
  (h:XO P mn rd n ops rest Q ⟨ds,putR o.dst x ρ,β⟩ v):XO P mn rd n ops (i::rest) Q ⟨ds,ρ,β⟩ v:=by
 refine XO_sem ho hw (.inr ?_) hn fun ev hev hb=>A5i T hev hx ⟨β,v,⟨hb,Le.refl _⟩,h⟩
 cases hop:o.op<;>first|rfl|(rw [hop]at hx;simp [A1h]at hx)
theorem fresh_box{b:Nat}(hb:Bok β v)(hr:(v.union (A0c β)) b=none):v b=none∧A0c β b=none∧b∉β.map (·.1):=by
 have h1:v b=none:=by
  cases hv:v b with
  | none=>rfl
  | some x=>rw [A0g _ _ _ _ hv]at hr;cases hr
 have h2:A0c β b=none:=by
  cases hv:A0c β b with
  | none=>rfl
  | some x=>rw [A1l hb.disj _ _ hv]at hr;cases hr
 refine⟨h1,h2,fun hm=>?_⟩
 obtain⟨⟨j,c,T⟩,hp,rfl⟩:=List.mem_map.1 hm
 rw [A2h hb.nodup hp]at h2
 cases h2
theorem A7m{b:Nat}{c:Array Value}{t:TypeId}(hb:Bok β v)(hr:(v.union (A0c β)) b=none) :
  Bok ((b,c,t)::β) v∧(v.union (A0c ((b,c,t)::β))).Le ((v.union (A0c β)).set b true (.cells c t (0,0))):=by
 obtain⟨h1,h2,h3⟩:=fresh_box hb hr
 refine⟨⟨List.nodup_cons.2 ⟨h3,hb.nodup⟩,fun j=>?_⟩,fun j x e=>?_⟩
 ·by_cases hj:j=b
  ·subst hj;exact .inl h1
  ·exact(hb.disj j).imp id fun e=>by simp only [A0c,hj,if_false];exact e
 ·unfold View.set View.union at *
  by_cases hj:j=b
  ·subst hj
   simp only [h1,A0c,if_true]at e⊢
   exact e
  ·simp only [A0c,hj,if_false]at e⊢
   exact e
theorem B1k{K:Addr→View→Prop}{E:Value→View→Prop}{t:TypeId}{x:Value}{w:View}(h:∀b,w b=none→K ⟨b,0,none⟩ (w.set b true (.cells x.cells t (0,0)))):SemX P (newVar t x) K E w:=by
 unfold newVar newRow
 rw [A0a,A8d]
 exact fun b hb=>h b hb
theorem XO_box{t:TypeId}{y:Operand}{x:Value}{d:Nat}(ho:ops[i]?=some o)(hw:A4s ops o ρ=some true)(hn:A2p n o.dst=true)(hop:o.op = .box t y)(hx:ρ.val y=some x)(hd:o.dst=some d)
  (h:∀b,XO P mn rd n ops rest Q ⟨ds,(d,.pointer (some ⟨b,0,none⟩))::ρ,(b,x.cells,t)::β⟩ v):XO P mn rd n ops (i::rest) Q ⟨ds,ρ,β⟩ v:=by
 refine XO_sem ho hw (.inr (by rw [hop];rfl)) hn fun ev hev hb=>?_
 obtain⟨dst,op,ty,pos,af,gu⟩:=o
 simp only at hop hd
 subst hop hd
 simp only [execOp,Instr.box,hev _ _ hx,A0a]
 refine B1k fun b hb'=>?_
 obtain⟨h1,h2⟩:=A7m (c:=x.cells) (t:=t) hb hb'
 exact⟨_,v,⟨h1,h2⟩,h b⟩
theorem XO_alloc{t:TypeId}{z:Value}{d:Nat}(ho:ops[i]?=some o)(hw:A4s ops o ρ=some true)(hn:A2p n o.dst=true)(hop:o.op = .alloc t)(hz:T.zer t=some z)(hd:o.dst=some d)
  (h:∀b,XO P mn rd n ops rest Q ⟨ds,(d,.pointer (some ⟨b,0,none⟩))::ρ,(b,z.cells,t)::β⟩ v):XO P mn rd n ops (i::rest) Q ⟨ds,ρ,β⟩ v:=by
 refine XO_sem ho hw (.inr (by rw [hop];rfl)) hn fun ev hev hb=>?_
 obtain⟨dst,op,ty,pos,af,gu⟩:=o
 simp only at hop hd
 subst hop hd
 simp only [execOp,Instr.alloc,A0a,A8b T hz]
 refine B1k fun b hb'=>?_
 obtain⟨h1,h2⟩:=A7m (c:=z.cells) (t:=t) hb hb'
 exact⟨_,v,⟨h1,h2⟩,h b⟩
inductive InB:Nat→Array Value→TypeId→A0e→Prop
 | head {b c t r}:InB b c t ((b,c,t)::r)
 | tail {b c t p r}:InB b c t r→InB b c t (p::r)
theorem InB.mem{b:Nat}{c:Array Value}{t:TypeId}{β:A0e}(h:InB b c t β):(b,c,t)∈β:=by
 induction h with
 | head=>exact List.mem_cons_self ..
 | tail _ ih=>exact List.mem_cons_of_mem _ ih
inductive SetB:Nat→Array Value→A0e→A0e→Prop
 | head {b c c' t r}:SetB b c' ((b,c,t)::r) ((b,c',t)::r)
 | tail {b c' p r r'}:SetB b c' r r'→SetB b c' (p::r) (p::r')
theorem SetB.keys{b:Nat}{c:Array Value}{β β':A0e}(h:SetB b c β β'):β'.map (·.1)=β.map (·.1):=by
 induction h with
 | head=>rfl
 | tail _ ih=>simp [ih]
def A4k(t:TypeId)(c:Array Value)(off:Nat):Option Value:=
 match T.und t,T.siz t with
 | some d,some k=>if aggOf d then(if off+k≤c.size then some (.agg (c.extract off (off+k)))else none)else c[off]?
 | _,_=>none
theorem B0f{K:Array Value→View→Prop}{E:Value→View→Prop}{w:View}{b off:Nat}{c:Array Value}{p:Bool}{e:TypeId}{f:Nat×Nat}(hc:w b=some (p,.cells c e f)) :
    ∀(k j:Nat) (acc:Array Value),off+j+k≤c.size→K (acc++c.extract (off+j) (off+j+k)) w→SemX P (loadCellsFrom ⟨b,off,none⟩ j k acc) K E w:=by
  intro k
  induction k with
  | zero => intro j acc h hk;simp only [loadCellsFrom,A0h];have e0:c.extract (off+j) (off+j+0)=#[]:=by simp;omega
            rw [e0]at hk;simpa using hk
  | succ k ih=>
    intro j acc h hk
    have hlt:off+j<c.size:=oM
    have hadd:(⟨b,off,none⟩:Addr).add j=⟨b,off+j,none⟩:=by unfold Addr.add;split<;>simp_all
    simp only [loadCellsFrom,A0a,hadd,sx_load]
    refine⟨c[off+j],?_,ih (j+1) _ oM ?_⟩
    · unfold View.cell;rw [hc];simp [hlt]
    · have:acc.push c[off+j]++c.extract (off+(j+1)) (off+(j+1)+k)=acc++c.extract (off+j) (off+j+(k+1)):=by
        apply Array.ext_getElem?
        intro q
        simp only [Array.getElem?_append,Array.getElem?_push,Array.getElem?_extract,Array.size_push]
        by_cases h1:q<acc.size
        · simp [h1,show q<acc.size+1 by omega,show q≠acc.size by omega]
        · by_cases h2:q=acc.size
          · subst h2
            simp [show min (off+j+(k+1)) c.size-(off+j)=k+1 by omega,hlt]
          · have h3:¬q<acc.size+1:=oM
            simp only [h1,h3,if_false]
            have e1:min (off+(j+1)+k) c.size-(off+(j+1))=k:=oM
            have e2:min (off+j+(k+1)) c.size-(off+j)=k+1:=oM
            simp only [e1,e2]
            have e3:off+(j+1)+(q-(acc.size+1))=off+j+(q-acc.size):=oM
            rw [e3]
            by_cases h4:q-acc.size<k+1
            · rw [if_pos h4,if_pos oM]
            · rw [if_neg h4,if_neg oM]
      rw [this];exact hk
theorem A2z{K:Value→View→Prop}{E:Value→View→Prop}{w:View}{t:TypeId}{b off:Nat}{c:Array Value}{p:Bool}{e:TypeId}{f:Nat×Nat}{x:Value}(hc:w b=some (p,.cells c e f))
  (hx:A4k T t c off=some x)(hk:K x w):SemX P (loadVar t ⟨b,off,none⟩) K E w:=by
 unfold A4k at hx
 split at hx
 ·rename_i d k hd hs
  unfold loadVar
  rw [A0a,sx_isAgg (T.und_ok _ _ hd)]
  split at hx
  ·rename_i ha
   split at hx
   ·rename_i hle
    cases hx
    rw [if_pos ha,A0a,A4f T hs,A0a]
    unfold loadCells
    refine B0f hc k 0 #[] oM ?_
    simpa [A0h]using hk
   ·cases hx
  ·rename_i ha
   rw [if_neg ha,sx_load]
   refine⟨x,?_,hk⟩
   unfold View.cell;rw [hc];exact hx
 ·cases hx
theorem A0q{b:Nat}{c:Array Value}{t:TypeId}(hb:Bok β v)(h:InB b c t β):(v.union (A0c β)) b=some (true,.cells c t (0,0)):=
 A1l hb.disj _ _ (A2h hb.nodup h.mem)
theorem XO_loadB{t t':TypeId}{y:Operand}{b off:Nat}{c:Array Value}{x:Value}(ho:ops[i]?=some o)(hw:A4s ops o ρ=some true)(hn:A2p n o.dst=true)(hop:o.op = .load t y)
  (hy:ρ.val y=some (.pointer (some ⟨b,off,none⟩)))(hb:InB b c t' β)(hx:A4k T t c off=some x)
  (h:XO P mn rd n ops rest Q ⟨ds,putR o.dst x ρ,β⟩ v):XO P mn rd n ops (i::rest) Q ⟨ds,ρ,β⟩ v:=by
 refine XO_sem ho hw (.inr (by rw [hop];rfl)) hn fun ev hev hbk=>?_
 unfold execOp
 simp only [hop,Instr.loadAt,Instr.sureAddr,hev _ _ hy,A0a,A0h]
 exact A2z T (A0q hbk hb) hx ⟨β,v,⟨hbk,Le.refl _⟩,h⟩
theorem XO_load{t e:TypeId}{y:Operand}{b off:Nat}{p:Bool}{c:Array Value}{f:Nat×Nat}{x:Value}(ho:ops[i]?=some o)(hw:A4s ops o ρ=some true)(hn:A2p n o.dst=true)(hop:o.op = .load t y)
  (hy:ρ.val y=some (.pointer (some ⟨b,off,none⟩)))(hb:v b=some (p,.cells c e f))(hx:A4k T t c off=some x)
  (h:XO P mn rd n ops rest Q ⟨ds,putR o.dst x ρ,β⟩ v):XO P mn rd n ops (i::rest) Q ⟨ds,ρ,β⟩ v:=by
 refine XO_sem ho hw (.inr (by rw [hop];rfl)) hn fun ev hev hbk=>?_
 unfold execOp
 simp only [hop,Instr.loadAt,Instr.sureAddr,hev _ _ hy,A0a,A0h]
 exact A2z T (A0g _ _ _ _ hb) hx ⟨β,v,⟨hbk,Le.refl _⟩,h⟩
def A0i(P:Program)(k:FuncId):Prop:=∃fn c,P.funcs[k]?=some fn∧fn.body=some c∧fn.name≠ "runtime.NumGoroutine"
theorem A4t{K:Next→View→Prop}{E:Value→View→Prop}{w:View}{k:FuncId}{args:Array Value}(hb:A0i P k)(h:K (.enter k args) w):SemX P (callFunc k args) K E w:=by
 obtain⟨fn,c,h1,h2,h3⟩:=hb
 unfold callFunc
 simp only [A0a,A1s,h1]
 rw [if_neg (by simpa using h3),if_neg (by simp [h2])]
 exact h
def XL(P:Program)(mn:Who)(n:Nat)(ops:Array Oper)(Q:Exit→St→View→Prop)(l:List Oper)(σ:St)(v:View):Prop:=
 ∀a,Fits n σ a→Bok σ.β v→LexX P mn ops (fun a u=>Post n Q .normal a u) l a (v.union (A0c σ.β))
theorem XC_lex{id:Nat}{l:List Oper}(hm:P.follows .mixedOrders=true)(hl:ops.toList=l)(hB:(Region.lexB .any ops&&ops.all (fun o=>!A1t o.op))=true)(h:XL P mn n ops Q l ⟨ds,ρ,β⟩ v) :
  XC P mn rd n (.region id ops true) Q ⟨ds,ρ,β⟩ v:=fun a hf hb=>x_region_lex hm hB (hl ▸ h a hf hb)
theorem XL_nil(h:Q .normal ⟨ds,ρ,β⟩ v):XL P mn n ops Q [] ⟨ds,ρ,β⟩ v:=fun _ hf hb=>A5w h hf hb
theorem XL_skip{l:List Oper}(hw:A4s ops o ρ=some false)(hn:A2p n o.dst=true)(h:XL P mn n ops Q l ⟨ds,putR o.dst undef ρ,β⟩ v):XL P mn n ops Q (o::l) ⟨ds,ρ,β⟩ v:=fun a hf hb=>
 ⟨undef,.inr ⟨A0m hf hw,Y⟩,h _ (A0x hf hn) hb⟩
theorem XL_split{l:List Oper}(d:Nat){b:Bool}(hd:ρ.get d=some (.bool b))(h1:b=true→XL P mn n ops Q l ⟨ds,(d,.bool true)::ρ,β⟩ v)
  (h2:b=false→XL P mn n ops Q l ⟨ds,(d,.bool false)::ρ,β⟩ v):XL P mn n ops Q l ⟨ds,ρ,β⟩ v:=fun a hf hb=>by
 have key:∀c:Bool,b=c→Fits n ⟨ds,(d,.bool c)::ρ,β⟩ a:=by
  rintro c rfl
  refine⟨hf.size,hf.defers,fun s y h=>?_⟩
  simp only [Regs.get]at h
  cases hbq:Nat.beq d s with
  | true=>
   rw [hbq]at h
   simp only [cond_true,Option.some.injEq]at h
   have:=Nat.eq_of_beq_eq_true hbq
   subst this
   subst h
   exact hf.get _ _ hd
  | false=>rw [hbq]at h;exact hf.get s y h
 cases b with
 | true=>exact h1 rfl a (key true rfl) hb
 | false=>exact h2 rfl a (key false rfl) hb
theorem A4e{l:List Oper}{x:Value}(hw:A4s ops o ρ=some true)(hn:A2p n o.dst=true)
  (hq:∀ev:Operand→Value,(∀x y,ρ.val x=some y→ev x=y)→Bok β v→∀w,(v.union (A0c β)).Le w→SemX P (execOp ev o) (fun nx u=>w.Le u∧match nx with
   | .value y=>y=x
   | .skip=>x=undef
   | .enter f args=>CallsX P mn f args (fun e u'=>e = .ret x∧w.Le u') u
   | _=>False) (fun _ _=>False) w)
  (h:XL P mn n ops Q l ⟨ds,putR o.dst x ρ,β⟩ v):XL P mn n ops Q (o::l) ⟨ds,ρ,β⟩ v:=fun a hf hb=>
 ⟨x,.inl ⟨A0m hf hw,fun w hl=>hq a.eval (A0k hf) hb w hl⟩,h _ (A0x hf hn) hb⟩
theorem XL_pure{l:List Oper}{x:Value}(hw:A4s ops o ρ=some true)(hn:A2p n o.dst=true)(hx:A1h T ρ.val o.op=some x)
  (h:XL P mn n ops Q l ⟨ds,putR o.dst x ρ,β⟩ v):XL P mn n ops Q (o::l) ⟨ds,ρ,β⟩ v:=
 A4e hw hn (fun _ hev _ w _=>A5i T hev hx ⟨Le.refl w,rfl⟩) h
theorem XL_loadB{l:List Oper}{t t':TypeId}{y:Operand}{b off:Nat}{c:Array Value}{x:Value}(hw:A4s ops o ρ=some true)(hn:A2p n o.dst=true)(hop:o.op = .load t y)
  (hy:ρ.val y=some (.pointer (some ⟨b,off,none⟩)))(hb:InB b c t' β)(hx:A4k T t c off=some x)
  (h:XL P mn n ops Q l ⟨ds,putR o.dst x ρ,β⟩ v):XL P mn n ops Q (o::l) ⟨ds,ρ,β⟩ v:=
 A4e hw hn (fun ev hev hbk w hl=>by
  unfold execOp
  simp only [hop,Instr.loadAt,Instr.sureAddr,hev _ _ hy,A0a,A0h]
  exact A2z T (hl _ _ (A0q hbk hb)) hx ⟨Le.refl _,Y⟩) h
theorem XL_load{l:List Oper}{t e:TypeId}{y:Operand}{b off:Nat}{p:Bool}{c:Array Value}{f:Nat×Nat}{x:Value}(hw:A4s ops o ρ=some true)(hn:A2p n o.dst=true)(hop:o.op = .load t y)
  (hy:ρ.val y=some (.pointer (some ⟨b,off,none⟩)))(hb:v b=some (p,.cells c e f))(hx:A4k T t c off=some x)
  (h:XL P mn n ops Q l ⟨ds,putR o.dst x ρ,β⟩ v):XL P mn n ops Q (o::l) ⟨ds,ρ,β⟩ v:=
 A4e hw hn (fun ev hev hbk w hl=>by
  unfold execOp
  simp only [hop,Instr.loadAt,Instr.sureAddr,hev _ _ hy,A0a,A0h]
  exact A2z T (hl _ _ (A0g _ _ _ _ hb)) hx ⟨Le.refl _,Y⟩) h
theorem XL_call{l:List Oper}{f:Operand}{args:Array Operand}{ats:Array TypeId}{k:FuncId}{first captured:Array Value}{xs:List Value}{x:Value}(hw:A4s ops o ρ=some true)(hn:A2p n o.dst=true)
  (hop:o.op = .call {callee:=.value f,args:=args,argTypes:=ats })(hf:ρ.val f=some (.func (.func k) first captured))(hxs:A2s ρ.val args.toList=some xs)(hk:A0i P k)
  (hc:CallsX P mn k (first++xs.toArray++captured) (fun e u=>e = .ret x∧v.Le u) v)
  (h:XL P mn n ops Q l ⟨ds,putR o.dst x ρ,β⟩ v):XL P mn n ops Q (o::l) ⟨ds,ρ,β⟩ v:=
 A4e hw hn (fun ev hev hbk w hl=>by
  have ha:args.map ev=xs.toArray:=Array.toList_inj.1 (by simpa using A2c hev hxs)
  unfold execOp
  simp only [hop,resolve,Deferred.ofValue,hev _ _ hf,ha,A0a,A0h,invoke]
  refine A4t hk ⟨Le.refl _,?_⟩
  obtain⟨F,rfl,hd⟩:=B0x ((A0g v (A0c β)).trans hl)
  refine CallsX.mono (hc.frame hd) fun e w' hR=>⟨w',Le.refl _,?_⟩
  obtain⟨u,rfl,hd',rfl,hl'⟩:=hR
  exact⟨Y,A2u hl' hd'⟩) h
theorem A9g{K:Value→View→Prop}{E:Value→View→Prop}{w:View}{t e:TypeId}{k:IntKind}{a:Addr}{len cap sz:Nat}{j:Int}(ht:T.und t=some (.slice e))(hs:T.siz e=some sz)(h0:0≤j)(h1:j<len)
  (hk:K (.pointer (some (a.add (j.toNat*sz)))) w):SemX P (Instr.indexAt t (.slice (some a) len cap) (.int k j)) K E w:=by
 unfold Instr.indexAt
 simp only [asIntOf,A0a,A0h,A1k T ht]
 rw [if_pos ⟨h0,h1⟩,A0a,A4f T hs]
 exact hk
theorem XO_index{t e:TypeId}{y z:Operand}{a:Addr}{len cap sz:Nat}{k:IntKind}{j:Int}(ho:ops[i]?=some o)(hw:A4s ops o ρ=some true)(hn:A2p n o.dst=true)(hop:o.op = .indexAddr t y z)
  (hy:ρ.val y=some (.slice (some a) len cap))(hz:ρ.val z=some (.int k j))(ht:T.und t=some (.slice e))(hs:T.siz e=some sz)(h0:0≤j)(h1:j<len)
  (h:XO P mn rd n ops rest Q ⟨ds,putR o.dst (.pointer (some (a.add (j.toNat*sz)))) ρ,β⟩ v):XO P mn rd n ops (i::rest) Q ⟨ds,ρ,β⟩ v:=by
 refine XO_sem ho hw (.inr (by rw [hop];rfl)) hn fun ev hev hbk=>?_
 unfold execOp
 simp only [hop,hev _ _ hy,hev _ _ hz,A0a,A0h]
 exact A9g T ht hs h0 h1 ⟨β,v,⟨hbk,Le.refl _⟩,h⟩
theorem XL_index{l:List Oper}{t e:TypeId}{y z:Operand}{a:Addr}{len cap sz:Nat}{k:IntKind}{j:Int}(hw:A4s ops o ρ=some true)(hn:A2p n o.dst=true)(hop:o.op = .indexAddr t y z)
  (hy:ρ.val y=some (.slice (some a) len cap))(hz:ρ.val z=some (.int k j))(ht:T.und t=some (.slice e))(hs:T.siz e=some sz)(h0:0≤j)(h1:j<len)
  (h:XL P mn n ops Q l ⟨ds,putR o.dst (.pointer (some (a.add (j.toNat*sz)))) ρ,β⟩ v):XL P mn n ops Q (o::l) ⟨ds,ρ,β⟩ v:=
 A4e hw hn (fun ev hev _ w _=>by
  unfold execOp
  simp only [hop,hev _ _ hy,hev _ _ hz,A0a,A0h]
  exact A9g T ht hs h0 h1 ⟨Le.refl _,Y⟩) h
def A2l:Nat→List Value→Regs
 | _,[]=>[]
 | i,x::r=>(i,x)::A2l (i+1) r
def A3t:List Value→Value
 | [x]=>x
 | l=>.tuple l.toArray
end
inductive Tr(α:Type) where
 | nil
 | node(l:Tr α)(k:Nat)(x:α)(r:Tr α)
def Tr.get{α:Type}:Tr α→Nat→Option α
 | .nil,_=>none
 | .node l k x r,t=>bif Nat.beq k t then some x else bif Nat.blt t k then l.get t else r.get t
def Tr.All{α:Type}(p:Nat→α→Prop):Tr α→Prop
 | .nil=>True
 | .node l k x r=>l.All p∧p k x∧r.All p
theorem Tr.All.get{α:Type}{p:Nat→α→Prop}:∀{T:Tr α},T.All p→∀{t:Nat} {x:α},T.get t=some x→p t x
 | .nil,_,_,_,h=>by simp [Tr.get]at h
 | .node l k y r,⟨h1,h2,h3⟩,t,x,h=>by
  simp only [Tr.get]at h
  cases hb:Nat.beq k t with
  | true=>
   rw [hb]at h
   simp only [cond_true,Option.some.injEq]at h
   subst h
   have:=Nat.eq_of_beq_eq_true hb
   subst this
   exact h2
  | false=>
   rw [hb]at h
   simp only [cond_false]at h
   cases hc:Nat.blt t k with
   | true=>rw [hc]at h;exact Tr.All.get h1 h
   | false=>rw [hc]at h;exact Tr.All.get h3 h
def tabOf{P:Program}(T:Tr (TypeDesc×Nat×Nat×Value))(h:T.All (fun k x=>P.underlying k=some x.1∧(P.info? k).map (fun i=>(i.size,i.bytes,i.zero))=some (x.2.1,x.2.2.1,some x.2.2.2))):Tab P where
  und:=fun t=>match T.get t with|some (d,_,_)=>some d|none=>none
  und_ok:=fun t d e=>by
    split at e
    · rename_i d' n z hg;cases e;exact(h.get hg).1
    · cases e
  siz:=fun t=>match T.get t with|some (_,n,_)=>some n|none=>none
  siz_ok:=fun t n e=>by
    split at e
    · rename_i d' n' z hg
      cases e
      have:=(h.get hg).2
      obtain⟨i,hi,he⟩:=Option.map_eq_some_iff.1 this
      simp only [Prod.mk.injEq]at he
      exact⟨i,hi,he.1⟩
    · cases e
  byt:=fun t=>match T.get t with|some (_,_,n,_)=>some n|none=>none
  byt_ok:=fun t n e=>by
    split at e
    · rename_i d' n' b z hg
      cases e
      have:=(h.get hg).2
      obtain⟨i,hi,he⟩:=Option.map_eq_some_iff.1 this
      simp only [Prod.mk.injEq]at he
      exact⟨i,hi,he.2.1⟩
    · cases e
  zer:=fun t=>match T.get t with|some (_,_,_,z)=>some z|none=>none
  zer_ok:=fun t n e=>by
    split at e
    · rename_i d' n' b z hg
      cases e
      have:=(h.get hg).2
      obtain⟨i,hi,he⟩:=Option.map_eq_some_iff.1 this
      simp only [Prod.mk.injEq]at he
      exact⟨i,hi,he.2.2⟩
    · cases e
theorem A2d{x:Int}(h1:-9223372036854775808≤x)(h2:x≤9223372036854775807):IntKind.i64.wrap x=x:=by
 simp only [IntKind.wrap,IntKind.signed,IntKind.bits]
 simp
 omega
section
variable{P:Program}{mn:Who}(T:Tab P){rd:Option Nat}{n:Nat}{Q:Exit→St→View→Prop}{ds:List Deferred}{ρ:Regs}{β:A0e}{v:View}
 {ops:Array Oper}{i:Nat}{rest:List Nat}{l:List Oper}{d:Nat}{op:Op}{ty:TypeId}{pos:String}{af:Array Edge}{gu:Option (Nat×Bool)}
def A0p(ops:Array Oper)(gu:Option (Nat×Bool))(ρ:Regs):Option Bool:=
 match gu with
 | none=>some true
 | some (j,want)=>match ops[j]? with
  | some ⟨some d,_,_,_,_,_⟩=>match ρ.get d with
   | some (.bool true)=>some want
   | some (.bool false)=>some (!want)
   | some _=>some false
   | none=>none
  | _=>none
theorem A0j{dst:Option Tmp}{t:Bool}(h:A0p ops gu ρ=some t):A4s ops ⟨dst,op,ty,pos,af,gu⟩ ρ=some t:=by
 unfold A0p at h
 unfold A4s
 cases gu with
 | none=>exact h
 | some jw=>
  obtain⟨j,want⟩:=jw
  simp only at h⊢
  split at h
  ·rename_i d' _ _ _ _ _ ho
   rw [ho]
   simp only [Option.bind_some]
   split at h
   ·rename_i hd;rw [hd];cases want<;>simpa using h
   ·rename_i hd;rw [hd];cases want<;>simpa using h
   ·rename_i x h1 h2 hd
    rw [hd]
    cases x<;>first|exact h|(rename_i b;cases b<;>first|exact absurd rfl h1|exact absurd rfl h2)
   ·cases h
  ·cases h
theorem R_pure{x:Value}(ho:ops[i]?=some ⟨some d,op,ty,pos,af,gu⟩)(hw:A0p ops gu ρ=some true)(hn:Nat.blt d n=true)(hx:A1h T ρ.val op=some x)
  (h:XO P mn rd n ops rest Q ⟨ds,(d,x)::ρ,β⟩ v):XO P mn rd n ops (i::rest) Q ⟨ds,ρ,β⟩ v:=XO_pure T ho (A0j hw) hn hx h
theorem R_skip(ho:ops[i]?=some ⟨some d,op,ty,pos,af,gu⟩)(hw:A0p ops gu ρ=some false)(hn:Nat.blt d n=true)
  (h:XO P mn rd n ops rest Q ⟨ds,(d,undef)::ρ,β⟩ v):XO P mn rd n ops (i::rest) Q ⟨ds,ρ,β⟩ v:=XO_skip ho (A0j hw) hn h
theorem R_guard{dst:Option Tmp}{op':Op}{ty':TypeId}{pos':String}{af':Array Edge}{gu':Option (Nat×Bool)}{j:Nat}{want b:Bool}(ho:ops[i]?=some ⟨dst,op,ty,pos,af,some (j,want)⟩)(hj:ops[j]?=some ⟨some d,op',ty',pos',af',gu'⟩)(hb:ρ.get d=some (.bool b))
  (h1:b=true→XO P mn rd n ops (i::rest) Q ⟨ds,(d,.bool true)::ρ,β⟩ v)(h2:b=false→XO P mn rd n ops (i::rest) Q ⟨ds,(d,.bool false)::ρ,β⟩ v):XO P mn rd n ops (i::rest) Q ⟨ds,ρ,β⟩ v:=
 XO_split d hb h1 h2
theorem R_box{t:TypeId}{y:Operand}{x:Value}(ho:ops[i]?=some ⟨some d,.box t y,ty,pos,af,gu⟩)(hw:A0p ops gu ρ=some true)(hn:Nat.blt d n=true)(hx:ρ.val y=some x)
  (h:∀b,XO P mn rd n ops rest Q ⟨ds,(d,.pointer (some ⟨b,0,none⟩))::ρ,(b,x.cells,t)::β⟩ v):XO P mn rd n ops (i::rest) Q ⟨ds,ρ,β⟩ v:=XO_box ho (A0j hw) hn Y hx Y h
theorem R_alloc{t:TypeId}{z:Value}(ho:ops[i]?=some ⟨some d,.alloc t,ty,pos,af,gu⟩)(hw:A0p ops gu ρ=some true)(hn:Nat.blt d n=true)(hz:T.zer t=some z)
  (h:∀b,XO P mn rd n ops rest Q ⟨ds,(d,.pointer (some ⟨b,0,none⟩))::ρ,(b,z.cells,t)::β⟩ v):XO P mn rd n ops (i::rest) Q ⟨ds,ρ,β⟩ v:=XO_alloc T ho (A0j hw) hn Y hz Y h
theorem R_loadB{t t':TypeId}{y:Operand}{b off:Nat}{c:Array Value}{x:Value}(ho:ops[i]?=some ⟨some d,.load t y,ty,pos,af,gu⟩)(hw:A0p ops gu ρ=some true)(hn:Nat.blt d n=true)
  (hy:ρ.val y=some (.pointer (some ⟨b,off,none⟩)))(hb:InB b c t' β)(hx:A4k T t c off=some x)
  (h:XO P mn rd n ops rest Q ⟨ds,(d,x)::ρ,β⟩ v):XO P mn rd n ops (i::rest) Q ⟨ds,ρ,β⟩ v:=XO_loadB T ho (A0j hw) hn Y hy hb hx h
theorem R_load{t e:TypeId}{y:Operand}{b off:Nat}{p:Bool}{c:Array Value}{f:Nat×Nat}{x:Value}(ho:ops[i]?=some ⟨some d,.load t y,ty,pos,af,gu⟩)(hw:A0p ops gu ρ=some true)(hn:Nat.blt d n=true)
  (hy:ρ.val y=some (.pointer (some ⟨b,off,none⟩)))(hb:v b=some (p,.cells c e f))(hx:A4k T t c off=some x)
  (h:XO P mn rd n ops rest Q ⟨ds,(d,x)::ρ,β⟩ v):XO P mn rd n ops (i::rest) Q ⟨ds,ρ,β⟩ v:=XO_load T ho (A0j hw) hn Y hy hb hx h
theorem R_index{t e:TypeId}{y z:Operand}{a:Addr}{len cap sz:Nat}{k:IntKind}{j:Int}(ho:ops[i]?=some ⟨some d,.indexAddr t y z,ty,pos,af,gu⟩)(hw:A0p ops gu ρ=some true)(hn:Nat.blt d n=true)
  (hy:ρ.val y=some (.slice (some a) len cap))(hz:ρ.val z=some (.int k j))(ht:T.und t=some (.slice e))(hs:T.siz e=some sz)(h0:0≤j)(h1:j<len)
  (h:XO P mn rd n ops rest Q ⟨ds,(d,.pointer (some (a.add (j.toNat*sz))))::ρ,β⟩ v):XO P mn rd n ops (i::rest) Q ⟨ds,ρ,β⟩ v:=XO_index T ho (A0j hw) hn Y hy hz ht hs h0 h1 h
include T in
theorem R_add{t t':TypeId}{y z:Operand}{a b:Int}(ho:ops[i]?=some ⟨some d,.binOp .add t y z t',ty,pos,af,gu⟩)(hw:A0p ops gu ρ=some true)(hn:Nat.blt d n=true)(hy:ρ.val y=some (.int .i64 a))(hz:ρ.val z=some (.int .i64 b))
  (h1:-9223372036854775808≤a+b)(h2:a+b≤9223372036854775807)(h:XO P mn rd n ops rest Q ⟨ds,(d,.int .i64 (a+b))::ρ,β⟩ v):XO P mn rd n ops (i::rest) Q ⟨ds,ρ,β⟩ v:=by
 refine R_pure T ho hw hn ?_ h
 simp only [A1h,hy,hz,A6c,A8s,if_true,A2d h1 h2]
include T in
theorem R_sub{t t':TypeId}{y z:Operand}{a b:Int}(ho:ops[i]?=some ⟨some d,.binOp .sub t y z t',ty,pos,af,gu⟩)(hw:A0p ops gu ρ=some true)(hn:Nat.blt d n=true)(hy:ρ.val y=some (.int .i64 a))(hz:ρ.val z=some (.int .i64 b))
  (h1:-9223372036854775808≤a-b)(h2:a-b≤9223372036854775807)(h:XO P mn rd n ops rest Q ⟨ds,(d,.int .i64 (a-b))::ρ,β⟩ v):XO P mn rd n ops (i::rest) Q ⟨ds,ρ,β⟩ v:=by
 refine R_pure T ho hw hn ?_ h
 simp only [A1h,hy,hz,A6c,A8s,if_true,A2d h1 h2]
theorem L_pure{x:Value}(hw:A0p ops gu ρ=some true)(hn:Nat.blt d n=true)(hx:A1h T ρ.val op=some x)
  (h:XL P mn n ops Q l ⟨ds,(d,x)::ρ,β⟩ v):XL P mn n ops Q (⟨some d,op,ty,pos,af,gu⟩::l) ⟨ds,ρ,β⟩ v:=XL_pure T (o:=⟨some d,op,ty,pos,af,gu⟩) (A0j hw) hn hx h
theorem L_skip(hw:A0p ops gu ρ=some false)(hn:Nat.blt d n=true)
  (h:XL P mn n ops Q l ⟨ds,(d,undef)::ρ,β⟩ v):XL P mn n ops Q (⟨some d,op,ty,pos,af,gu⟩::l) ⟨ds,ρ,β⟩ v:=XL_skip (o:=⟨some d,op,ty,pos,af,gu⟩) (A0j hw) hn h
theorem A7d{dst:Option Tmp}{op':Op}{ty':TypeId}{pos':String}{af':Array Edge}{gu':Option (Nat×Bool)}{j:Nat}{want b:Bool}(hj:ops[j]?=some ⟨some d,op',ty',pos',af',gu'⟩)(hb:ρ.get d=some (.bool b))
  (h1:b=true→XL P mn n ops Q (⟨dst,op,ty,pos,af,some (j,want)⟩::l) ⟨ds,(d,.bool true)::ρ,β⟩ v)(h2:b=false→XL P mn n ops Q (⟨dst,op,ty,pos,af,some (j,want)⟩::l) ⟨ds,(d,.bool false)::ρ,β⟩ v) :
  XL P mn n ops Q (⟨dst,op,ty,pos,af,some (j,want)⟩::l) ⟨ds,ρ,β⟩ v:=XL_split d hb h1 h2
theorem A1j{t t':TypeId}{y:Operand}{b off:Nat}{c:Array Value}{x:Value}(hw:A0p ops gu ρ=some true)(hn:Nat.blt d n=true)
  (hy:ρ.val y=some (.pointer (some ⟨b,off,none⟩)))(hb:InB b c t' β)(hx:A4k T t c off=some x)
  (h:XL P mn n ops Q l ⟨ds,(d,x)::ρ,β⟩ v):XL P mn n ops Q (⟨some d,.load t y,ty,pos,af,gu⟩::l) ⟨ds,ρ,β⟩ v:=XL_loadB T (o:=⟨some d,.load t y,ty,pos,af,gu⟩) (A0j hw) hn Y hy hb hx h
theorem A4l{t e:TypeId}{y:Operand}{b off:Nat}{p:Bool}{c:Array Value}{f:Nat×Nat}{x:Value}(hw:A0p ops gu ρ=some true)(hn:Nat.blt d n=true)
  (hy:ρ.val y=some (.pointer (some ⟨b,off,none⟩)))(hb:v b=some (p,.cells c e f))(hx:A4k T t c off=some x)
  (h:XL P mn n ops Q l ⟨ds,(d,x)::ρ,β⟩ v):XL P mn n ops Q (⟨some d,.load t y,ty,pos,af,gu⟩::l) ⟨ds,ρ,β⟩ v:=XL_load T (o:=⟨some d,.load t y,ty,pos,af,gu⟩) (A0j hw) hn Y hy hb hx h
theorem L_index{t e:TypeId}{y z:Operand}{a:Addr}{len cap sz:Nat}{k:IntKind}{j:Int}(hw:A0p ops gu ρ=some true)(hn:Nat.blt d n=true)
  (hy:ρ.val y=some (.slice (some a) len cap))(hz:ρ.val z=some (.int k j))(ht:T.und t=some (.slice e))(hs:T.siz e=some sz)(h0:0≤j)(h1:j<len)
  (h:XL P mn n ops Q l ⟨ds,(d,.pointer (some (a.add (j.toNat*sz))))::ρ,β⟩ v):XL P mn n ops Q (⟨some d,.indexAddr t y z,ty,pos,af,gu⟩::l) ⟨ds,ρ,β⟩ v:=
 XL_index T (o:=⟨some d,.indexAddr t y z,ty,pos,af,gu⟩) (A0j hw) hn rfl hy hz ht hs h0 h1 h
theorem L_call{f:Operand}{args:Array Operand}{ats:Array TypeId}{k:FuncId}{first captured:Array Value}{xs:List Value}{x:Value}(hw:A0p ops gu ρ=some true)(hn:Nat.blt d n=true)
  (hf:ρ.val f=some (.func (.func k) first captured))(hxs:A2s ρ.val args.toList=some xs)(hk:A0i P k)
  (hc:CallsX P mn k (first++xs.toArray++captured) (fun e u=>e = .ret x∧v.Le u) v)
  (h:XL P mn n ops Q l ⟨ds,(d,x)::ρ,β⟩ v):XL P mn n ops Q (⟨some d,.call {callee:=.value f,args:=args,argTypes:=ats },ty,pos,af,gu⟩::l) ⟨ds,ρ,β⟩ v:=
 XL_call (o:=⟨some d,.call {callee:=.value f,args:=args,argTypes:=ats },ty,pos,af,gu⟩) (A0j hw) hn rfl hf hxs hk hc h
include T in
theorem L_sub{t t':TypeId}{y z:Operand}{a b:Int}(hw:A0p ops gu ρ=some true)(hn:Nat.blt d n=true)(hy:ρ.val y=some (.int .i64 a))(hz:ρ.val z=some (.int .i64 b))
  (h1:-9223372036854775808≤a-b)(h2:a-b≤9223372036854775807)(h:XL P mn n ops Q l ⟨ds,(d,.int .i64 (a-b))::ρ,β⟩ v):XL P mn n ops Q (⟨some d,.binOp .sub t y z t',ty,pos,af,gu⟩::l) ⟨ds,ρ,β⟩ v:=by
 refine L_pure T hw hn ?_ h
 simp only [A1h,hy,hz,A6c,A8s,if_true,A2d h1 h2]
include T in
theorem L_add{t t':TypeId}{y z:Operand}{a b:Int}(hw:A0p ops gu ρ=some true)(hn:Nat.blt d n=true)(hy:ρ.val y=some (.int .i64 a))(hz:ρ.val z=some (.int .i64 b))
  (h1:-9223372036854775808≤a+b)(h2:a+b≤9223372036854775807)(h:XL P mn n ops Q l ⟨ds,(d,.int .i64 (a+b))::ρ,β⟩ v):XL P mn n ops Q (⟨some d,.binOp .add t y z t',ty,pos,af,gu⟩::l) ⟨ds,ρ,β⟩ v:=by
 refine L_pure T hw hn ?_ h
 simp only [A1h,hy,hz,A6c,A8s,if_true,A2d h1 h2]
end
end Go.Pal
end
