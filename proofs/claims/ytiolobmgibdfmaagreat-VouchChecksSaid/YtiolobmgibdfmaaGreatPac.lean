/- Part 3. -/
import Derived.Test.YtiolobmgibdfmaaGreatPab
set_option linter.all false
section
namespace Go.Pal
open Go Go.Conc View
section
variable{P:Program}{mn:Who}(T:Tab P){rd:Option Nat}{n:Nat}{Q:Exit→St→View→Prop}{ds:List Deferred}{ρ:Regs}{β:A0j}{v:View}
 {ops:Array Oper}{i:Nat}{rest:List Nat}{o:Oper}
theorem XO_pure{x:Value}(ho:ops[i]?=some o)(hw:A5s ops o ρ=some true)(hn:A3j n o.dst=true)(hx:A1z T ρ.val o.op=some x)
  (h:XO P mn rd n ops rest Q ⟨ds,putR o.dst x ρ,β⟩ v):XO P mn rd n ops (i::rest) Q ⟨ds,ρ,β⟩ v:=by
 refine XO_sem ho hw (.inr ?_) hn fun ev hev hb=>A7z T hev hx ⟨β,v,⟨hb,Le.refl _⟩,h⟩
 cases hop:o.op<;>first|rfl|(rw [hop]at hx;simp [A1z]at hx)
theorem fresh_box{b:Nat}(hb:Bok β v)(hr:(v.union (A0e β)) b=none):v b=none∧A0e β b=none∧b∉β.map (·.1):=by
 have h1:v b=none:=by
  cases hv:v b with
  | none=>rfl
  | some x=>rw [A0b _ _ _ _ hv]at hr;cases hr
 have h2:A0e β b=none:=by
  cases hv:A0e β b with
  | none=>rfl
  | some x=>rw [A1u hb.disj _ _ hv]at hr;cases hr
 refine⟨h1,h2,fun hm=>?_⟩
 obtain⟨⟨j,c,T⟩,hp,rfl⟩:=List.mem_map.1 hm
 rw [A3p hb.nodup hp]at h2
 cases h2
theorem B0s{b:Nat}{c:Array Value}{t:TypeId}(hb:Bok β v)(hr:(v.union (A0e β)) b=none) :
  Bok ((b,c,t)::β) v∧(v.union (A0e ((b,c,t)::β))).Le ((v.union (A0e β)).set b true (.cells c t (0,0))):=by
 obtain⟨h1,h2,h3⟩:=fresh_box hb hr
 refine⟨⟨List.nodup_cons.2 ⟨h3,hb.nodup⟩,fun j=>?_⟩,fun j x e=>?_⟩
 ·by_cases hj:j=b
  ·subst hj;exact .inl h1
  ·exact(hb.disj j).imp id fun e=>by simp only [A0e,hj,if_false];exact e
 ·unfold View.set View.union at *
  by_cases hj:j=b
  ·subst hj
   simp only [h1,A0e,if_true]at e⊢
   exact e
  ·simp only [A0e,hj,if_false]at e⊢
   exact e
theorem sx_newVar{K:Addr→View→Prop}{E:Value→View→Prop}{t:TypeId}{x:Value}{w:View}(h:∀b,w b=none→K ⟨b,0,none⟩ (w.set b true (.cells x.cells t (0,0)))):SemX P (newVar t x) K E w:=by
 unfold newVar newRow
 rw [A0d,B2s]
 exact fun b hb=>h b hb
theorem XO_box{t:TypeId}{y:Operand}{x:Value}{d:Nat}(ho:ops[i]?=some o)(hw:A5s ops o ρ=some true)(hn:A3j n o.dst=true)(hop:o.op = .box t y)(hx:ρ.val y=some x)(hd:o.dst=some d)
  (h:∀b,XO P mn rd n ops rest Q ⟨ds,(d,.pointer (some ⟨b,0,none⟩))::ρ,(b,x.cells,t)::β⟩ v):XO P mn rd n ops (i::rest) Q ⟨ds,ρ,β⟩ v:=by
 refine XO_sem ho hw (.inr (by rw [hop];rfl)) hn fun ev hev hb=>?_
 obtain⟨dst,op,ty,pos,af,gu⟩:=o
 simp only at hop hd
 subst hop hd
 simp only [execOp,Instr.box,hev _ _ hx,A0d]
 refine sx_newVar fun b hb'=>?_
 obtain⟨h1,h2⟩:=B0s (c:=x.cells) (t:=t) hb hb'
 exact⟨_,v,⟨h1,h2⟩,h b⟩
theorem XO_alloc{t:TypeId}{z:Value}{d:Nat}(ho:ops[i]?=some o)(hw:A5s ops o ρ=some true)(hn:A3j n o.dst=true)(hop:o.op = .alloc t)(hz:T.zer t=some z)(hd:o.dst=some d)
  (h:∀b,XO P mn rd n ops rest Q ⟨ds,(d,.pointer (some ⟨b,0,none⟩))::ρ,(b,z.cells,t)::β⟩ v):XO P mn rd n ops (i::rest) Q ⟨ds,ρ,β⟩ v:=by
 refine XO_sem ho hw (.inr (by rw [hop];rfl)) hn fun ev hev hb=>?_
 obtain⟨dst,op,ty,pos,af,gu⟩:=o
 simp only at hop hd
 subst hop hd
 simp only [execOp,Instr.alloc,A0d,A9x T hz]
 refine sx_newVar fun b hb'=>?_
 obtain⟨h1,h2⟩:=B0s (c:=z.cells) (t:=t) hb hb'
 exact⟨_,v,⟨h1,h2⟩,h b⟩
inductive InB:Nat→Array Value→TypeId→A0j→Prop
 | head {b c t r}:InB b c t ((b,c,t)::r)
 | tail {b c t p r}:InB b c t r→InB b c t (p::r)
theorem InB.mem{b:Nat}{c:Array Value}{t:TypeId}{β:A0j}(h:InB b c t β):(b,c,t)∈β:=by
 induction h with
 | head=>exact List.mem_cons_self ..
 | tail _ ih=>exact List.mem_cons_of_mem _ ih
inductive SetB:Nat→Array Value→A0j→A0j→Prop
 | head {b c c' t r}:SetB b c' ((b,c,t)::r) ((b,c',t)::r)
 | tail {b c' p r r'}:SetB b c' r r'→SetB b c' (p::r) (p::r')
theorem SetB.keys{b:Nat}{c:Array Value}{β β':A0j}(h:SetB b c β β'):β'.map (·.1)=β.map (·.1):=by
 induction h with
 | head=>rfl
 | tail _ ih=>simp [ih]
def A5t(t:TypeId)(c:Array Value)(off:Nat):Option Value:=
 match T.und t,T.siz t with
 | some d,some k=>if aggOf d then(if off+k≤c.size then some (.agg (c.extract off (off+k)))else none)else c[off]?
 | _,_=>none
theorem B1n{K:Array Value→View→Prop}{E:Value→View→Prop}{w:View}{b off:Nat}{c:Array Value}{p:Bool}{e:TypeId}{f:Nat×Nat}(hc:w b=some (p,.cells c e f)) :
    ∀(k j:Nat) (acc:Array Value),off+j+k≤c.size→K (acc++c.extract (off+j) (off+j+k)) w→SemX P (loadCellsFrom ⟨b,off,none⟩ j k acc) K E w:=by
  intro k
  induction k with
  | zero => intro j acc h hk;simp only [loadCellsFrom,A0m];have e0:c.extract (off+j) (off+j+0)=#[]:=by simp;omega
            rw [e0]at hk;simpa using hk
  | succ k ih=>
    intro j acc h hk
    have hlt:off+j<c.size:=oM
    have hadd:(⟨b,off,none⟩:Addr).add j=⟨b,off+j,none⟩:=by unfold Addr.add;split<;>simp_all
    simp only [loadCellsFrom,A0d,hadd,sx_load]
    refine⟨c[off+j],?_,ih (j+1) _ oM ?_⟩
    · unfold View.cell;rw [hc];simp [hlt]
    · have:acc.push c[off+j]++c.extract (off+(j+1)) (off+(j+1)+k)=acc++c.extract (off+j) (off+j+(k+1)):=by
        apply Array.ext_getElem?
        intro q
        simp only [Array.getElem?_append,Array.getElem?_push,Array.getElem?_extract,Array.size_push]
        by_cases h1:q<acc.size
        · simp [h1,show q<acc.size+1 by omega,show q≠acc.size by omega]
        · by_cases h2:q=acc.size
          · subst h2
            simp [show min (off+j+(k+1)) c.size-(off+j)=k+1 by omega,hlt]
          · have h3:¬q<acc.size+1:=oM
            simp only [h1,h3,if_false]
            have e1:min (off+(j+1)+k) c.size-(off+(j+1))=k:=oM
            have e2:min (off+j+(k+1)) c.size-(off+j)=k+1:=oM
            simp only [e1,e2]
            have e3:off+(j+1)+(q-(acc.size+1))=off+j+(q-acc.size):=oM
            rw [e3]
            by_cases h4:q-acc.size<k+1
            · rw [if_pos h4,if_pos oM]
            · rw [if_neg h4,if_neg oM]
      rw [this];exact hk
theorem A4n{K:Value→View→Prop}{E:Value→View→Prop}{w:View}{t:TypeId}{b off:Nat}{c:Array Value}{p:Bool}{e:TypeId}{f:Nat×Nat}{x:Value}(hc:w b=some (p,.cells c e f))
  (hx:A5t T t c off=some x)(hk:K x w):SemX P (loadVar t ⟨b,off,none⟩) K E w:=by
 unfold A5t at hx
 split at hx
 ·rename_i d k hd hs
  unfold loadVar
  rw [A0d,B1y (T.und_ok _ _ hd)]
  split at hx
  ·rename_i ha
   split at hx
   ·rename_i hle
    cases hx
    rw [if_pos ha,A0d,A5f T hs,A0d]
    unfold loadCells
    refine B1n hc k 0 #[] oM ?_
    simpa [A0m]using hk
   ·cases hx
  ·rename_i ha
   rw [if_neg ha,sx_load]
   refine⟨x,?_,hk⟩
   unfold View.cell;rw [hc];exact hx
 ·cases hx
theorem A1f{b:Nat}{c:Array Value}{t:TypeId}(hb:Bok β v)(h:InB b c t β):(v.union (A0e β)) b=some (true,.cells c t (0,0)):=
 A1u hb.disj _ _ (A3p hb.nodup h.mem)
theorem XO_loadB{t t':TypeId}{y:Operand}{b off:Nat}{c:Array Value}{x:Value}(ho:ops[i]?=some o)(hw:A5s ops o ρ=some true)(hn:A3j n o.dst=true)(hop:o.op = .load t y)
  (hy:ρ.val y=some (.pointer (some ⟨b,off,none⟩)))(hb:InB b c t' β)(hx:A5t T t c off=some x)
  (h:XO P mn rd n ops rest Q ⟨ds,putR o.dst x ρ,β⟩ v):XO P mn rd n ops (i::rest) Q ⟨ds,ρ,β⟩ v:=by
 refine XO_sem ho hw (.inr (by rw [hop];rfl)) hn fun ev hev hbk=>?_
 unfold execOp
 simp only [hop,Instr.loadAt,Instr.sureAddr,hev _ _ hy,A0d,A0m]
 exact A4n T (A1f hbk hb) hx ⟨β,v,⟨hbk,Le.refl _⟩,h⟩
theorem XO_load{t e:TypeId}{y:Operand}{b off:Nat}{p:Bool}{c:Array Value}{f:Nat×Nat}{x:Value}(ho:ops[i]?=some o)(hw:A5s ops o ρ=some true)(hn:A3j n o.dst=true)(hop:o.op = .load t y)
  (hy:ρ.val y=some (.pointer (some ⟨b,off,none⟩)))(hb:v b=some (p,.cells c e f))(hx:A5t T t c off=some x)
  (h:XO P mn rd n ops rest Q ⟨ds,putR o.dst x ρ,β⟩ v):XO P mn rd n ops (i::rest) Q ⟨ds,ρ,β⟩ v:=by
 refine XO_sem ho hw (.inr (by rw [hop];rfl)) hn fun ev hev hbk=>?_
 unfold execOp
 simp only [hop,Instr.loadAt,Instr.sureAddr,hev _ _ hy,A0d,A0m]
 exact A4n T (A0b _ _ _ _ hb) hx ⟨β,v,⟨hbk,Le.refl _⟩,h⟩
def A0n(P:Program)(k:FuncId):Prop:=∃fn c,P.funcs[k]?=some fn∧fn.body=some c∧fn.name≠ "runtime.NumGoroutine"
theorem A7m{K:Next→View→Prop}{E:Value→View→Prop}{w:View}{k:FuncId}{args:Array Value}(hb:A0n P k)(h:K (.enter k args) w):SemX P (callFunc k args) K E w:=by
 obtain⟨fn,c,h1,h2,h3⟩:=hb
 unfold callFunc
 simp only [A0d,A3v,h1]
 rw [if_neg (by simpa using h3),if_neg (by simp [h2])]
 exact h
def XL(P:Program)(mn:Who)(n:Nat)(ops:Array Oper)(Q:Exit→St→View→Prop)(l:List Oper)(σ:St)(v:View):Prop:=
 ∀a,Fits n σ a→Bok σ.β v→LexX P mn ops (fun a u=>Post n Q .normal a u) l a (v.union (A0e σ.β))
theorem B0v{id:Nat}{l:List Oper}(hm:P.follows .mixedOrders=true)(hl:ops.toList=l)(hB:(Region.lexB .any ops&&ops.all (fun o=>!A3g o.op))=true)(h:XL P mn n ops Q l ⟨ds,ρ,β⟩ v) :
  XC P mn rd n (.region id ops true) Q ⟨ds,ρ,β⟩ v:=fun a hf hb=>x_region_lex hm hB (hl ▸ h a hf hb)
theorem XL_nil(h:Q .normal ⟨ds,ρ,β⟩ v):XL P mn n ops Q [] ⟨ds,ρ,β⟩ v:=fun _ hf hb=>A5v h hf hb
theorem XL_skip{l:List Oper}(hw:A5s ops o ρ=some false)(hn:A3j n o.dst=true)(h:XL P mn n ops Q l ⟨ds,putR o.dst undef ρ,β⟩ v):XL P mn n ops Q (o::l) ⟨ds,ρ,β⟩ v:=fun a hf hb=>
 ⟨undef,.inr ⟨A0q hf hw,Z⟩,h _ (A1h hf hn) hb⟩
theorem XL_split{l:List Oper}(d:Nat){b:Bool}(hd:ρ.get d=some (.bool b))(h1:b=true→XL P mn n ops Q l ⟨ds,(d,.bool true)::ρ,β⟩ v)
  (h2:b=false→XL P mn n ops Q l ⟨ds,(d,.bool false)::ρ,β⟩ v):XL P mn n ops Q l ⟨ds,ρ,β⟩ v:=fun a hf hb=>by
 have key:∀c:Bool,b=c→Fits n ⟨ds,(d,.bool c)::ρ,β⟩ a:=by
  rintro c rfl
  refine⟨hf.size,hf.defers,fun s y h=>?_⟩
  simp only [Regs.get]at h
  cases hbq:Nat.beq d s with
  | true=>
   rw [hbq]at h
   simp only [cond_true,Option.some.injEq]at h
   have:=Nat.eq_of_beq_eq_true hbq
   subst this
   subst h
   exact hf.get _ _ hd
  | false=>rw [hbq]at h;exact hf.get s y h
 cases b with
 | true=>exact h1 rfl a (key true rfl) hb
 | false=>exact h2 rfl a (key false rfl) hb
theorem A8u{l:List Oper}{x:Value}(hw:A5s ops o ρ=some true)(hn:A3j n o.dst=true)
  (hq:∀ev:Operand→Value,(∀x y,ρ.val x=some y→ev x=y)→Bok β v→∀w,(v.union (A0e β)).Le w→SemX P (execOp ev o) (fun nx u=>w.Le u∧match nx with
   | .value y=>y=x
   | .skip=>x=undef
   | .enter f args=>CallsX P mn f args (fun e u'=>e = .ret x∧w.Le u') u
   | _=>False) (fun _ _=>False) w)
  (h:XL P mn n ops Q l ⟨ds,putR o.dst x ρ,β⟩ v):XL P mn n ops Q (o::l) ⟨ds,ρ,β⟩ v:=fun a hf hb=>
 ⟨x,.inl ⟨A0q hf hw,fun w hl=>hq a.eval (A0o hf) hb w hl⟩,h _ (A1h hf hn) hb⟩
theorem XL_pure{l:List Oper}{x:Value}(hw:A5s ops o ρ=some true)(hn:A3j n o.dst=true)(hx:A1z T ρ.val o.op=some x)
  (h:XL P mn n ops Q l ⟨ds,putR o.dst x ρ,β⟩ v):XL P mn n ops Q (o::l) ⟨ds,ρ,β⟩ v:=
 A8u hw hn (fun _ hev _ w _=>A7z T hev hx ⟨Le.refl w,rfl⟩) h
theorem XL_loadB{l:List Oper}{t t':TypeId}{y:Operand}{b off:Nat}{c:Array Value}{x:Value}(hw:A5s ops o ρ=some true)(hn:A3j n o.dst=true)(hop:o.op = .load t y)
  (hy:ρ.val y=some (.pointer (some ⟨b,off,none⟩)))(hb:InB b c t' β)(hx:A5t T t c off=some x)
  (h:XL P mn n ops Q l ⟨ds,putR o.dst x ρ,β⟩ v):XL P mn n ops Q (o::l) ⟨ds,ρ,β⟩ v:=
 A8u hw hn (fun ev hev hbk w hl=>by
  unfold execOp
  simp only [hop,Instr.loadAt,Instr.sureAddr,hev _ _ hy,A0d,A0m]
  exact A4n T (hl _ _ (A1f hbk hb)) hx ⟨Le.refl _,Z⟩) h
theorem XL_load{l:List Oper}{t e:TypeId}{y:Operand}{b off:Nat}{p:Bool}{c:Array Value}{f:Nat×Nat}{x:Value}(hw:A5s ops o ρ=some true)(hn:A3j n o.dst=true)(hop:o.op = .load t y)
  (hy:ρ.val y=some (.pointer (some ⟨b,off,none⟩)))(hb:v b=some (p,.cells c e f))(hx:A5t T t c off=some x)
  (h:XL P mn n ops Q l ⟨ds,putR o.dst x ρ,β⟩ v):XL P mn n ops Q (o::l) ⟨ds,ρ,β⟩ v:=
 A8u hw hn (fun ev hev hbk w hl=>by
  unfold execOp
  simp only [hop,Instr.loadAt,Instr.sureAddr,hev _ _ hy,A0d,A0m]
  exact A4n T (hl _ _ (A0b _ _ _ _ hb)) hx ⟨Le.refl _,Z⟩) h
theorem XL_call{l:List Oper}{f:Operand}{args:Array Operand}{ats:Array TypeId}{k:FuncId}{first captured:Array Value}{xs:List Value}{x:Value}(hw:A5s ops o ρ=some true)(hn:A3j n o.dst=true)
  (hop:o.op = .call {callee:=.value f,args:=args,argTypes:=ats })(hf:ρ.val f=some (.func (.func k) first captured))(hxs:A3q ρ.val args.toList=some xs)(hk:A0n P k)
  (hc:CallsX P mn k (first++xs.toArray++captured) (fun e u=>e = .ret x∧v.Le u) v)
  (h:XL P mn n ops Q l ⟨ds,putR o.dst x ρ,β⟩ v):XL P mn n ops Q (o::l) ⟨ds,ρ,β⟩ v:=
 A8u hw hn (fun ev hev hbk w hl=>by
  have ha:args.map ev=xs.toArray:=Array.toList_inj.1 (by simpa using A3h hev hxs)
  unfold execOp
  simp only [hop,resolve,Deferred.ofValue,hev _ _ hf,ha,A0d,A0m,invoke]
  refine A7m hk ⟨Le.refl _,?_⟩
  obtain⟨F,rfl,hd⟩:=B0j ((A0b v (A0e β)).trans hl)
  refine CallsX.mono (hc.frame hd) fun e w' hR=>⟨w',Le.refl _,?_⟩
  obtain⟨u,rfl,hd',rfl,hl'⟩:=hR
  exact⟨Z,A4b hl' hd'⟩) h
theorem B1c{K:Value→View→Prop}{E:Value→View→Prop}{w:View}{t e:TypeId}{k:IntKind}{a:Addr}{len cap sz:Nat}{j:Int}(ht:T.und t=some (.slice e))(hs:T.siz e=some sz)(h0:0≤j)(h1:j<len)
  (hk:K (.pointer (some (a.add (j.toNat*sz)))) w):SemX P (Instr.indexAt t (.slice (some a) len cap) (.int k j)) K E w:=by
 unfold Instr.indexAt
 simp only [asIntOf,A0d,A0m,A1r T ht]
 rw [if_pos ⟨h0,h1⟩,A0d,A5f T hs]
 exact hk
theorem XO_index{t e:TypeId}{y z:Operand}{a:Addr}{len cap sz:Nat}{k:IntKind}{j:Int}(ho:ops[i]?=some o)(hw:A5s ops o ρ=some true)(hn:A3j n o.dst=true)(hop:o.op = .indexAddr t y z)
  (hy:ρ.val y=some (.slice (some a) len cap))(hz:ρ.val z=some (.int k j))(ht:T.und t=some (.slice e))(hs:T.siz e=some sz)(h0:0≤j)(h1:j<len)
  (h:XO P mn rd n ops rest Q ⟨ds,putR o.dst (.pointer (some (a.add (j.toNat*sz)))) ρ,β⟩ v):XO P mn rd n ops (i::rest) Q ⟨ds,ρ,β⟩ v:=by
 refine XO_sem ho hw (.inr (by rw [hop];rfl)) hn fun ev hev hbk=>?_
 unfold execOp
 simp only [hop,hev _ _ hy,hev _ _ hz,A0d,A0m]
 exact B1c T ht hs h0 h1 ⟨β,v,⟨hbk,Le.refl _⟩,h⟩
theorem XL_index{l:List Oper}{t e:TypeId}{y z:Operand}{a:Addr}{len cap sz:Nat}{k:IntKind}{j:Int}(hw:A5s ops o ρ=some true)(hn:A3j n o.dst=true)(hop:o.op = .indexAddr t y z)
  (hy:ρ.val y=some (.slice (some a) len cap))(hz:ρ.val z=some (.int k j))(ht:T.und t=some (.slice e))(hs:T.siz e=some sz)(h0:0≤j)(h1:j<len)
  (h:XL P mn n ops Q l ⟨ds,putR o.dst (.pointer (some (a.add (j.toNat*sz)))) ρ,β⟩ v):XL P mn n ops Q (o::l) ⟨ds,ρ,β⟩ v:=
 A8u hw hn (fun ev hev _ w _=>by
  unfold execOp
  simp only [hop,hev _ _ hy,hev _ _ hz,A0d,A0m]
  exact B1c T ht hs h0 h1 ⟨Le.refl _,Z⟩) h
def A2z:Nat→List Value→Regs
 | _,[]=>[]
 | i,x::r=>(i,x)::A2z (i+1) r
def resOf(ρ:Regs)(β:A0j):List ResultVar→Option (List Value)
 | []=>some []
 | .tmp t::r=>match ρ.get t,resOf ρ β r with
  | some x,some xs=>some (x::xs)
  | _,_=>none
 | .cell a t::r=>match ρ.get a,resOf ρ β r with
  | some (.pointer (some ⟨b,off,none⟩)),some xs=>match β.find? (fun p=>Nat.beq p.1 b)with
   | some (_,c,_)=>match A5t T t c off with
    | some x=>some (x::xs)
    | none=>none
   | none=>none
  | _,_=>none
def A5l:List Value→Value
 | [x]=>x
 | l=>.tuple l.toArray
def FnQ(fn:Func)(R:End→View→Prop):Exit→St→View→Prop
 | .normal,σ,v | .ret,σ,v=>σ.ds=[]∧∃xs,resOf T σ.ρ σ.β fn.results.toList=some xs∧R (.ret (A5l xs)) v
 | .panic ch,σ,v=>σ.ds=[]∧R (.pan ch) v
 | _,_,_=>False
theorem B1b{E:Value→View→Prop}{a:Act}{w:View}(hf:Fits n ⟨ds,ρ,β⟩ a)(hb:Bok β v)(hl:(v.union (A0e β)).Le w):∀{rs:List ResultVar} {xs:List Value} {K:List Value→View→Prop},resOf T ρ β rs=some xs→K xs w→
  SemX P (rs.mapM (fun(r:ResultVar)=>(match r with
   | .tmp t=>pure (a.tmps.getD t undef)
   | .cell c t=>do loadVar t (←asAddr (a.tmps.getD c undef)):Sem Value))) K E w
 | [],xs,K,h,hk=>by simp [resOf]at h;subst h;simpa [A0m]using hk
 | .tmp t::r,xs,K,h,hk=>by
  simp only [resOf]at h
  split at h
  ·rename_i x ys h1 h2
   cases h
   rw [List.mapM_cons,A0d,A0m,A0d]
   have:a.tmps.getD t undef=x:=by rw [Array.getD_eq_getD_getElem?,hf.get t x h1];rfl
   rw [this]
   exact B1b hf hb hl h2 hk
  ·cases h
 | .cell c t::r,xs,K,h,hk=>by
  simp only [resOf]at h
  split at h
  ·rename_i b off ys h1 h2
   split at h
   ·rename_i j cs ty h3
    split at h
    ·rename_i x h4
     cases h
     have hg:a.tmps.getD c undef = .pointer (some ⟨b,off,none⟩):=by rw [Array.getD_eq_getD_getElem?,hf.get c _ h1];rfl
     rw [List.mapM_cons,A0d]
     simp only [hg,asAddr,A0d,A0m]
     have hj:j=b:=by have:=List.find?_some h3;exact Nat.eq_of_beq_eq_true this
     subst hj
     have hm:=List.mem_of_find?_eq_some h3
     refine A4n T (hl _ _ (A1u hb.disj _ _ (A3p hb.nodup hm))) h4 ?_
     exact B1b hf hb hl h2 hk
    ·cases h
   ·cases h
  ·cases h
theorem callsX_fn{f:FuncId}{fn:Func}{c:Code}{args:List Value}{R:End→View→Prop}(hf:P.funcs[f]?=some fn)(hb:fn.body=some c)(hn:args.length≤fn.ntmps)
  (h:XC P mn none fn.ntmps c (FnQ T fn R) ⟨[],A2z 0 args,[]⟩ v):CallsX P mn f args.toArray R v:=by
 refine CallsX.mono (R:=fun e w=>∃u,u.Le w∧R e u) ?_ (fun e w ⟨u,hl,hR⟩=>⟨u,hl,hR⟩)
 refine A9b hf hb (A3u (A6y (h _ ⟨?_,Z,?_⟩ ⟨by simp,fun b=>.inr Z⟩) ?_) ?_)
 ·simp;omega
 ·have key:∀(l:List Value) (i t:Nat) (x:Value),(A2z i l).get t=some x→i≤t∧l[t-i]?=some x:=by
   intro l
   induction l with
   | nil=>intro i t x h;simp [A2z,Regs.get]at h
   | cons y l ih=>
    intro i t x h
    simp only [A2z,Regs.get]at h
    cases hb:Nat.beq i t with
    | true=>
     rw [hb]at h
     have:=Nat.eq_of_beq_eq_true hb
     subst this
     simp only [cond_true]at h
     exact⟨Nat.le_refl _,by simpa using h⟩
    | false=>
     rw [hb]at h
     obtain⟨h1,h2⟩:=ih (i+1) t x h
     refine⟨oM,?_⟩
     rw [show t-i=(t-(i+1))+1 by omega]
     simpa using h2
  intro t x hx
  obtain⟨_,h2⟩:=key args 0 t x hx
  simp only [Nat.sub_zero]at h2
  obtain⟨hlt,_⟩:=List.getElem?_eq_some_iff.1 h2
  rw [Array.getElem?_append_left (by simpa using hlt)]
  simpa using h2
 ·intro b x e
  unfold View.union at e
  split at e
  ·rename_i hy;cases e;exact hy
  ·simp [A0e]at e
 ·rintro e a w ⟨⟨ds',ρ',β'⟩,u,hq,hf',hb',hl⟩
  refine⟨w,Le.refl _,?_⟩
  have hret:∀xs,resOf T ρ' β' fn.results.toList=some xs→R (.ret (A5l xs)) u→SemX P (results fn a.tmps) (fun x v'=>∃u,u.Le v'∧R (.ret x) u) (fun _ _=>False) w:=by
   intro xs hr hR
   have hul:u.Le w:=(A0b _ _).trans hl
   unfold results
   rw [A0d,Array.mapM_eq_mapM_toList,sx_map]
   refine B1b T hf' hb' hl hr ?_
   rw [A0m]
   refine⟨u,hul,?_⟩
   match xs,hR with
   | [],hR=>simpa [A5l]using hR
   | [x],hR=>simpa [A5l]using hR
   | x::y::r,hR=>simpa [A5l]using hR
  cases e with
  | normal=>exact⟨hf'.defers.trans hq.1,hret _ hq.2.choose_spec.1 hq.2.choose_spec.2⟩
  | ret=>exact⟨hf'.defers.trans hq.1,hret _ hq.2.choose_spec.1 hq.2.choose_spec.2⟩
  | panic ch=>exact⟨hf'.defers.trans hq.1,u,(A0b _ _).trans hl,hq.2⟩
  | exit id=>exact hq.elim
  | goto l=>exact hq.elim
  | outgrown=>exact hq.elim
end
inductive Tr(α:Type) where
 | nil
 | node(l:Tr α)(k:Nat)(x:α)(r:Tr α)
def Tr.get{α:Type}:Tr α→Nat→Option α
 | .nil,_=>none
 | .node l k x r,t=>bif Nat.beq k t then some x else bif Nat.blt t k then l.get t else r.get t
def Tr.All{α:Type}(p:Nat→α→Prop):Tr α→Prop
 | .nil=>True
 | .node l k x r=>l.All p∧p k x∧r.All p
theorem Tr.All.get{α:Type}{p:Nat→α→Prop}:∀{T:Tr α},T.All p→∀{t:Nat} {x:α},T.get t=some x→p t x
 | .nil,_,_,_,h=>by simp [Tr.get]at h
 | .node l k y r,⟨h1,h2,h3⟩,t,x,h=>by
  simp only [Tr.get]at h
  cases hb:Nat.beq k t with
  | true=>
   rw [hb]at h
   simp only [cond_true,Option.some.injEq]at h
   subst h
   have:=Nat.eq_of_beq_eq_true hb
   subst this
   exact h2
  | false=>
   rw [hb]at h
   simp only [cond_false]at h
   cases hc:Nat.blt t k with
   | true=>rw [hc]at h;exact Tr.All.get h1 h
   | false=>rw [hc]at h;exact Tr.All.get h3 h
def tabOf{P:Program}(T:Tr (TypeDesc×Nat×Nat×Value))(h:T.All (fun k x=>P.underlying k=some x.1∧(P.info? k).map (fun i=>(i.size,i.bytes,i.zero))=some (x.2.1,x.2.2.1,some x.2.2.2))):Tab P where
  und:=fun t=>match T.get t with|some (d,_,_)=>some d|none=>none
  und_ok:=fun t d e=>by
    split at e
    · rename_i d' n z hg;cases e;exact(h.get hg).1
    · cases e
  siz:=fun t=>match T.get t with|some (_,n,_)=>some n|none=>none
  siz_ok:=fun t n e=>by
    split at e
    · rename_i d' n' z hg
      cases e
      have:=(h.get hg).2
      obtain⟨i,hi,he⟩:=Option.map_eq_some_iff.1 this
      simp only [Prod.mk.injEq]at he
      exact⟨i,hi,he.1⟩
    · cases e
  byt:=fun t=>match T.get t with|some (_,_,n,_)=>some n|none=>none
  byt_ok:=fun t n e=>by
    split at e
    · rename_i d' n' b z hg
      cases e
      have:=(h.get hg).2
      obtain⟨i,hi,he⟩:=Option.map_eq_some_iff.1 this
      simp only [Prod.mk.injEq]at he
      exact⟨i,hi,he.2.1⟩
    · cases e
  zer:=fun t=>match T.get t with|some (_,_,_,z)=>some z|none=>none
  zer_ok:=fun t n e=>by
    split at e
    · rename_i d' n' b z hg
      cases e
      have:=(h.get hg).2
      obtain⟨i,hi,he⟩:=Option.map_eq_some_iff.1 this
      simp only [Prod.mk.injEq]at he
      exact⟨i,hi,he.2.2⟩
    · cases e
theorem A4k{x:Int}(h1:-9223372036854775808≤x)(h2:x≤9223372036854775807):IntKind.i64.wrap x=x:=by
 simp only [IntKind.wrap,IntKind.signed,IntKind.bits]
 simp
 omega
section
variable{P:Program}{mn:Who}(T:Tab P){rd:Option Nat}{n:Nat}{Q:Exit→St→View→Prop}{ds:List Deferred}{ρ:Regs}{β:A0j}{v:View}
 {ops:Array Oper}{i:Nat}{rest:List Nat}{l:List Oper}{d:Nat}{op:Op}{ty:TypeId}{pos:String}{af:Array Edge}{gu:Option (Nat×Bool)}
def A0x(ops:Array Oper)(gu:Option (Nat×Bool))(ρ:Regs):Option Bool:=
 match gu with
 | none=>some true
 | some (j,want)=>match ops[j]? with
  | some ⟨some d,_,_,_,_,_⟩=>match ρ.get d with
   | some (.bool true)=>some want
   | some (.bool false)=>some (!want)
   | some _=>some false
   | none=>none
  | _=>none
theorem A0p{dst:Option Tmp}{t:Bool}(h:A0x ops gu ρ=some t):A5s ops ⟨dst,op,ty,pos,af,gu⟩ ρ=some t:=by
 unfold A0x at h
 unfold A5s
 cases gu with
 | none=>exact h
 | some jw=>
  obtain⟨j,want⟩:=jw
  simp only at h⊢
  split at h
  ·rename_i d' _ _ _ _ _ ho
   rw [ho]
   simp only [Option.bind_some]
   split at h
   ·rename_i hd;rw [hd];cases want<;>simpa using h
   ·rename_i hd;rw [hd];cases want<;>simpa using h
   ·rename_i x h1 h2 hd
    rw [hd]
    cases x<;>first|exact h|(rename_i b;cases b<;>first|exact absurd rfl h1|exact absurd rfl h2)
   ·cases h
  ·cases h
theorem R_pure{x:Value}(ho:ops[i]?=some ⟨some d,op,ty,pos,af,gu⟩)(hw:A0x ops gu ρ=some true)(hn:Nat.blt d n=true)(hx:A1z T ρ.val op=some x)
  (h:XO P mn rd n ops rest Q ⟨ds,(d,x)::ρ,β⟩ v):XO P mn rd n ops (i::rest) Q ⟨ds,ρ,β⟩ v:=XO_pure T ho (A0p hw) hn hx h
theorem R_skip(ho:ops[i]?=some ⟨some d,op,ty,pos,af,gu⟩)(hw:A0x ops gu ρ=some false)(hn:Nat.blt d n=true)
  (h:XO P mn rd n ops rest Q ⟨ds,(d,undef)::ρ,β⟩ v):XO P mn rd n ops (i::rest) Q ⟨ds,ρ,β⟩ v:=XO_skip ho (A0p hw) hn h
theorem R_guard{dst:Option Tmp}{op':Op}{ty':TypeId}{pos':String}{af':Array Edge}{gu':Option (Nat×Bool)}{j:Nat}{want b:Bool}(ho:ops[i]?=some ⟨dst,op,ty,pos,af,some (j,want)⟩)(hj:ops[j]?=some ⟨some d,op',ty',pos',af',gu'⟩)(hb:ρ.get d=some (.bool b))
  (h1:b=true→XO P mn rd n ops (i::rest) Q ⟨ds,(d,.bool true)::ρ,β⟩ v)(h2:b=false→XO P mn rd n ops (i::rest) Q ⟨ds,(d,.bool false)::ρ,β⟩ v):XO P mn rd n ops (i::rest) Q ⟨ds,ρ,β⟩ v:=
 XO_split d hb h1 h2
theorem R_box{t:TypeId}{y:Operand}{x:Value}(ho:ops[i]?=some ⟨some d,.box t y,ty,pos,af,gu⟩)(hw:A0x ops gu ρ=some true)(hn:Nat.blt d n=true)(hx:ρ.val y=some x)
  (h:∀b,XO P mn rd n ops rest Q ⟨ds,(d,.pointer (some ⟨b,0,none⟩))::ρ,(b,x.cells,t)::β⟩ v):XO P mn rd n ops (i::rest) Q ⟨ds,ρ,β⟩ v:=XO_box ho (A0p hw) hn Z hx Z h
theorem R_alloc{t:TypeId}{z:Value}(ho:ops[i]?=some ⟨some d,.alloc t,ty,pos,af,gu⟩)(hw:A0x ops gu ρ=some true)(hn:Nat.blt d n=true)(hz:T.zer t=some z)
  (h:∀b,XO P mn rd n ops rest Q ⟨ds,(d,.pointer (some ⟨b,0,none⟩))::ρ,(b,z.cells,t)::β⟩ v):XO P mn rd n ops (i::rest) Q ⟨ds,ρ,β⟩ v:=XO_alloc T ho (A0p hw) hn Z hz Z h
theorem R_loadB{t t':TypeId}{y:Operand}{b off:Nat}{c:Array Value}{x:Value}(ho:ops[i]?=some ⟨some d,.load t y,ty,pos,af,gu⟩)(hw:A0x ops gu ρ=some true)(hn:Nat.blt d n=true)
  (hy:ρ.val y=some (.pointer (some ⟨b,off,none⟩)))(hb:InB b c t' β)(hx:A5t T t c off=some x)
  (h:XO P mn rd n ops rest Q ⟨ds,(d,x)::ρ,β⟩ v):XO P mn rd n ops (i::rest) Q ⟨ds,ρ,β⟩ v:=XO_loadB T ho (A0p hw) hn Z hy hb hx h
theorem R_load{t e:TypeId}{y:Operand}{b off:Nat}{p:Bool}{c:Array Value}{f:Nat×Nat}{x:Value}(ho:ops[i]?=some ⟨some d,.load t y,ty,pos,af,gu⟩)(hw:A0x ops gu ρ=some true)(hn:Nat.blt d n=true)
  (hy:ρ.val y=some (.pointer (some ⟨b,off,none⟩)))(hb:v b=some (p,.cells c e f))(hx:A5t T t c off=some x)
  (h:XO P mn rd n ops rest Q ⟨ds,(d,x)::ρ,β⟩ v):XO P mn rd n ops (i::rest) Q ⟨ds,ρ,β⟩ v:=XO_load T ho (A0p hw) hn Z hy hb hx h
theorem R_index{t e:TypeId}{y z:Operand}{a:Addr}{len cap sz:Nat}{k:IntKind}{j:Int}(ho:ops[i]?=some ⟨some d,.indexAddr t y z,ty,pos,af,gu⟩)(hw:A0x ops gu ρ=some true)(hn:Nat.blt d n=true)
  (hy:ρ.val y=some (.slice (some a) len cap))(hz:ρ.val z=some (.int k j))(ht:T.und t=some (.slice e))(hs:T.siz e=some sz)(h0:0≤j)(h1:j<len)
  (h:XO P mn rd n ops rest Q ⟨ds,(d,.pointer (some (a.add (j.toNat*sz))))::ρ,β⟩ v):XO P mn rd n ops (i::rest) Q ⟨ds,ρ,β⟩ v:=XO_index T ho (A0p hw) hn Z hy hz ht hs h0 h1 h
include T in
theorem R_add{t t':TypeId}{y z:Operand}{a b:Int}(ho:ops[i]?=some ⟨some d,.binOp .add t y z t',ty,pos,af,gu⟩)(hw:A0x ops gu ρ=some true)(hn:Nat.blt d n=true)(hy:ρ.val y=some (.int .i64 a))(hz:ρ.val z=some (.int .i64 b))
  (h1:-9223372036854775808≤a+b)(h2:a+b≤9223372036854775807)(h:XO P mn rd n ops rest Q ⟨ds,(d,.int .i64 (a+b))::ρ,β⟩ v):XO P mn rd n ops (i::rest) Q ⟨ds,ρ,β⟩ v:=by
 refine R_pure T ho hw hn ?_ h
 simp only [A1z,hy,hz,A6l,B0t,if_true,A4k h1 h2]
include T in
theorem R_sub{t t':TypeId}{y z:Operand}{a b:Int}(ho:ops[i]?=some ⟨some d,.binOp .sub t y z t',ty,pos,af,gu⟩)(hw:A0x ops gu ρ=some true)(hn:Nat.blt d n=true)(hy:ρ.val y=some (.int .i64 a))(hz:ρ.val z=some (.int .i64 b))
  (h1:-9223372036854775808≤a-b)(h2:a-b≤9223372036854775807)(h:XO P mn rd n ops rest Q ⟨ds,(d,.int .i64 (a-b))::ρ,β⟩ v):XO P mn rd n ops (i::rest) Q ⟨ds,ρ,β⟩ v:=by
 refine R_pure T ho hw hn ?_ h
 simp only [A1z,hy,hz,A6l,B0t,if_true,A4k h1 h2]
theorem L_pure{x:Value}(hw:A0x ops gu ρ=some true)(hn:Nat.blt d n=true)(hx:A1z T ρ.val op=some x)
  (h:XL P mn n ops Q l ⟨ds,(d,x)::ρ,β⟩ v):XL P mn n ops Q (⟨some d,op,ty,pos,af,gu⟩::l) ⟨ds,ρ,β⟩ v:=XL_pure T (o:=⟨some d,op,ty,pos,af,gu⟩) (A0p hw) hn hx h
theorem L_skip(hw:A0x ops gu ρ=some false)(hn:Nat.blt d n=true)
  (h:XL P mn n ops Q l ⟨ds,(d,undef)::ρ,β⟩ v):XL P mn n ops Q (⟨some d,op,ty,pos,af,gu⟩::l) ⟨ds,ρ,β⟩ v:=XL_skip (o:=⟨some d,op,ty,pos,af,gu⟩) (A0p hw) hn h
theorem A8f{dst:Option Tmp}{op':Op}{ty':TypeId}{pos':String}{af':Array Edge}{gu':Option (Nat×Bool)}{j:Nat}{want b:Bool}(hj:ops[j]?=some ⟨some d,op',ty',pos',af',gu'⟩)(hb:ρ.get d=some (.bool b))
  (h1:b=true→XL P mn n ops Q (⟨dst,op,ty,pos,af,some (j,want)⟩::l) ⟨ds,(d,.bool true)::ρ,β⟩ v)(h2:b=false→XL P mn n ops Q (⟨dst,op,ty,pos,af,some (j,want)⟩::l) ⟨ds,(d,.bool false)::ρ,β⟩ v) :
  XL P mn n ops Q (⟨dst,op,ty,pos,af,some (j,want)⟩::l) ⟨ds,ρ,β⟩ v:=XL_split d hb h1 h2
theorem A1y{t t':TypeId}{y:Operand}{b off:Nat}{c:Array Value}{x:Value}(hw:A0x ops gu ρ=some true)(hn:Nat.blt d n=true)
  (hy:ρ.val y=some (.pointer (some ⟨b,off,none⟩)))(hb:InB b c t' β)(hx:A5t T t c off=some x)
  (h:XL P mn n ops Q l ⟨ds,(d,x)::ρ,β⟩ v):XL P mn n ops Q (⟨some d,.load t y,ty,pos,af,gu⟩::l) ⟨ds,ρ,β⟩ v:=XL_loadB T (o:=⟨some d,.load t y,ty,pos,af,gu⟩) (A0p hw) hn Z hy hb hx h
theorem A9d{t e:TypeId}{y:Operand}{b off:Nat}{p:Bool}{c:Array Value}{f:Nat×Nat}{x:Value}(hw:A0x ops gu ρ=some true)(hn:Nat.blt d n=true)
  (hy:ρ.val y=some (.pointer (some ⟨b,off,none⟩)))(hb:v b=some (p,.cells c e f))(hx:A5t T t c off=some x)
  (h:XL P mn n ops Q l ⟨ds,(d,x)::ρ,β⟩ v):XL P mn n ops Q (⟨some d,.load t y,ty,pos,af,gu⟩::l) ⟨ds,ρ,β⟩ v:=XL_load T (o:=⟨some d,.load t y,ty,pos,af,gu⟩) (A0p hw) hn Z hy hb hx h
theorem L_index{t e:TypeId}{y z:Operand}{a:Addr}{len cap sz:Nat}{k:IntKind}{j:Int}(hw:A0x ops gu ρ=some true)(hn:Nat.blt d n=true)
  (hy:ρ.val y=some (.slice (some a) len cap))(hz:ρ.val z=some (.int k j))(ht:T.und t=some (.slice e))(hs:T.siz e=some sz)(h0:0≤j)(h1:j<len)
  (h:XL P mn n ops Q l ⟨ds,(d,.pointer (some (a.add (j.toNat*sz))))::ρ,β⟩ v):XL P mn n ops Q (⟨some d,.indexAddr t y z,ty,pos,af,gu⟩::l) ⟨ds,ρ,β⟩ v:=
 XL_index T (o:=⟨some d,.indexAddr t y z,ty,pos,af,gu⟩) (A0p hw) hn rfl hy hz ht hs h0 h1 h
theorem L_call{f:Operand}{args:Array Operand}{ats:Array TypeId}{k:FuncId}{first captured:Array Value}{xs:List Value}{x:Value}(hw:A0x ops gu ρ=some true)(hn:Nat.blt d n=true)
  (hf:ρ.val f=some (.func (.func k) first captured))(hxs:A3q ρ.val args.toList=some xs)(hk:A0n P k)
  (hc:CallsX P mn k (first++xs.toArray++captured) (fun e u=>e = .ret x∧v.Le u) v)
  (h:XL P mn n ops Q l ⟨ds,(d,x)::ρ,β⟩ v):XL P mn n ops Q (⟨some d,.call {callee:=.value f,args:=args,argTypes:=ats },ty,pos,af,gu⟩::l) ⟨ds,ρ,β⟩ v:=
 XL_call (o:=⟨some d,.call {callee:=.value f,args:=args,argTypes:=ats },ty,pos,af,gu⟩) (A0p hw) hn rfl hf hxs hk hc h
include T in
theorem L_sub{t t':TypeId}{y z:Operand}{a b:Int}(hw:A0x ops gu ρ=some true)(hn:Nat.blt d n=true)(hy:ρ.val y=some (.int .i64 a))(hz:ρ.val z=some (.int .i64 b))
  (h1:-9223372036854775808≤a-b)(h2:a-b≤9223372036854775807)(h:XL P mn n ops Q l ⟨ds,(d,.int .i64 (a-b))::ρ,β⟩ v):XL P mn n ops Q (⟨some d,.binOp .sub t y z t',ty,pos,af,gu⟩::l) ⟨ds,ρ,β⟩ v:=by
 refine L_pure T hw hn ?_ h
 simp only [A1z,hy,hz,A6l,B0t,if_true,A4k h1 h2]
include T in
theorem L_add{t t':TypeId}{y z:Operand}{a b:Int}(hw:A0x ops gu ρ=some true)(hn:Nat.blt d n=true)(hy:ρ.val y=some (.int .i64 a))(hz:ρ.val z=some (.int .i64 b))
  (h1:-9223372036854775808≤a+b)(h2:a+b≤9223372036854775807)(h:XL P mn n ops Q l ⟨ds,(d,.int .i64 (a+b))::ρ,β⟩ v):XL P mn n ops Q (⟨some d,.binOp .add t y z t',ty,pos,af,gu⟩::l) ⟨ds,ρ,β⟩ v:=by
 refine L_pure T hw hn ?_ h
 simp only [A1z,hy,hz,A6l,B0t,if_true,A4k h1 h2]
end
end Go.Pal
end
