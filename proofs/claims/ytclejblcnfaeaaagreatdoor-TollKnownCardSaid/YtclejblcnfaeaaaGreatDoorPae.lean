/- Part 5. -/
import Derived.Test.YtclejblcnfaeaaaGreatDoorPad
set_option linter.all false
section
namespace Go.Pal
open Go Go.Conc View
def SeqQ(P:Program)(mn:Who)(rd:Option Nat)(n:Nat)(y:Code)(Q:Exit→St→View→Prop):Exit→St→View→Prop:=fun e σ v=>match e with | .normal=>XC P mn rd n y Q σ v|e=>Q e σ v
def BlockQ(id:Nat)(Q:Exit→St→View→Prop):Exit→St→View→Prop:=fun e σ v=>match e with | .normal=>Q .normal σ v | .exit j=>(bif Nat.beq j id then Q .normal σ v else Q (.exit j) σ v)|e=>Q e σ v
def LoopQ(again:St→View→Prop)(Q:Exit→St→View→Prop):Exit→St→View→Prop:=fun e σ v=>match e with | .normal=>again σ v|e=>Q e σ v
section
variable{P:Program}{mn:Who}{rd:Option Nat}{n:Nat}{Q:Exit→St→View→Prop}{σ:St}{v u:View}{ds:List Deferred}{ρ:Regs}{β:A0e}
theorem A4i{x y:Code}(h:XC P mn rd n x (SeqQ P mn rd n y Q) σ v):XC P mn rd n (.seq x y) Q σ v:=XC_seq (B2m h fun e σ u hq=>by cases e<;>exact hq)
theorem C_seqR{id:Nat}{ops:Array Oper}{dr:Bool}{y:Code}(h:XC P mn rd n (.region id ops dr) (SeqQ P mn rd n y Q) σ v):XC P mn rd n (.seq (.region id ops dr) y) Q σ v:=A4i h
theorem A4d{y:Code}(h:XC P mn rd n y Q σ v):SeqQ P mn rd n y Q .normal σ v:=h
theorem A8u{y:Code}{j:Nat}(h:Q (.exit j) σ v):SeqQ P mn rd n y Q (.exit j) σ v:=h
theorem Seq_ret{y:Code}(h:Q .ret σ v):SeqQ P mn rd n y Q .ret σ v:=h
theorem Seq_panic{y:Code}{ch:List PanicEntry}(h:Q (.panic ch) σ v):SeqQ P mn rd n y Q (.panic ch) σ v:=h
theorem C_block{id:Nat}{c:Code}(h:XC P mn rd n c (BlockQ id Q) σ v):XC P mn rd n (.block id c) Q σ v:=XC_block (B2m h fun e σ u hq=>by cases e<;>exact hq)
theorem A5r{id:Nat}(h:Q .normal σ v):BlockQ id Q .normal σ v:=h
theorem A6e{id j:Nat}(hj:Nat.beq j id=true)(h:Q .normal σ v):BlockQ id Q (.exit j) σ v:=by simp only [BlockQ,hj,cond_true];exact h
theorem B1b{id j:Nat}(hj:Nat.beq j id=false)(h:Q (.exit j) σ v):BlockQ id Q (.exit j) σ v:=by simp only [BlockQ,hj,cond_false];exact h
theorem A8y{id:Nat}(h:Q .ret σ v):BlockQ id Q .ret σ v:=h
theorem Block_panic{id:Nat}{ch:List PanicEntry}(h:Q (.panic ch) σ v):BlockQ id Q (.panic ch) σ v:=h
theorem A0b{again:St→View→Prop}(h:again σ v):LoopQ again Q .normal σ v:=h
theorem A7c{again:St→View→Prop}{j:Nat}(h:Q (.exit j) σ v):LoopQ again Q (.exit j) σ v:=h
theorem B1a{again:St→View→Prop}(h:Q .ret σ v):LoopQ again Q .ret σ v:=h
theorem Loop_panic{again:St→View→Prop}{ch:List PanicEntry}(h:Q (.panic ch) σ v):LoopQ again Q (.panic ch) σ v:=h
theorem A1q{body:Code}{α:Type}(st:α→St)(J:α→View→Prop)(m:α→Nat)(x:α)(hs:Sub (st x) σ)(hl:u.Le v)(hj:J x u)
  (round:∀x u,J x u→XC P mn rd n body (LoopQ (fun σ' u'=>∃y w,m y<m x∧Sub (st y) σ'∧w.Le u'∧J y w) Q) (st x) u):XC P mn rd n (.loop body) Q σ v:=
 XC_loop st J (measure m).wf x hs hl hj fun x u h=>B2m (round x u h) fun e σ u hq=>by cases e<;>exact hq
theorem A6q{x y:Code}(M:St→View→Prop)(h':∀τ u,M τ u→XC P mn rd n y Q τ u)(h:XC P mn rd n x (LoopQ (fun σ' u'=>∃τ u,M τ u∧Sub τ σ'∧u.Le u') Q) σ v):XC P mn rd n (.seq x y) Q σ v:=
 XC_seq_mid M (B2m h fun e σ u hq=>by cases e<;>exact hq) h'
def KP(n:Nat)(K:St→View→Prop)(a:Act)(w:View):Prop:=∃σ u,K σ u∧Fits n σ a∧Bok σ.β u∧(u.union (A0c σ.β)).Le w
def XOp(P:Program)(mn:Who)(rd:Option Nat)(n:Nat)(ops:Array Oper)(i:Nat)(Q:Exit→St→View→Prop)(K:St→View→Prop)(σ:St)(v:View):Prop:=
 ∀a,Fits n σ a→Bok σ.β v→∃o,ops[i]?=some o∧Region.wanted o (yielded ops a.tmps)=true∧(rd=none∨A1t o.op=false)∧SemX P (execOp a.eval o) (fun nx w=>match nx with
   | .value x=>KP n K (a.put o.dst x) w
   | .skip=>KP n K (a.put o.dst undef) w
   | .defer d=>rd=none∧KP n K ({a with defers:=d::a.defers }.put o.dst undef) w
   | .enter f args=>CallsX P mn f args (fun e w'=>match e with
     | .ret x=>KP n K (a.put o.dst x) w'
     | .pan ch=>Post n Q (.panic ch) a w') w
   | .round l f tmps assign body=>rd≠some 4294967295∧RoundX P mn l f tmps assign body (fun e w'=>match e with
     | .ret x=>KP n K (a.put o.dst x) w'
     | .pan ch=>Post n Q (.panic ch) a w') w
   | _=>False) (fun x w=>Post n Q (.panic [{v:=x,recovered:=false }]) a w) (v.union (A0c σ.β))
theorem XO_op{ops:Array Oper}{i:Nat}{rest:List Nat}(h:XOp P mn rd n ops i Q (fun σ u=>XO P mn rd n ops rest Q σ u) σ v):XO P mn rd n ops (i::rest) Q σ v:=fun a hf hb=>by
 obtain⟨o,ho,hw,hd,hs⟩:=h a hf hb
 have key:∀{a' w},KP n (fun σ u=>XO P mn rd n ops rest Q σ u) a' w→A4r P mn rd ops rest (Post n Q) a' w:=fun⟨σ',u,hK,hf',hb',hl⟩=>A3p (hK _ hf' hb') hl
 refine x_op ho hw hd (A1y _ (fun nx w hK=>?_) (fun x w hE=>hE) hs)
 cases nx with
 | value x=>exact key hK
 | skip=>exact key hK
 | defer d=>exact⟨hK.1,key hK.2⟩
 | enter f args=>exact CallsX.mono hK fun e w' hR=>⟨w',Le.refl _,by cases e<;>first|exact key hR|exact hR⟩
 | round l f tmps assign body=>
  intro Stop c cs hc hk
  exact hK.2 Stop c cs hc fun e w' hR=>hk e w' (by cases e<;>first|exact key hR|exact hR)
 | _=>exact hK.elim
theorem A1w{ops:Array Oper}{i:Nat}{o:Oper}{K:St→View→Prop}(ho:ops[i]?=some o)(hw:A4s ops o σ.ρ=some true)(hd:rd=none∨A1t o.op=false)(hn:A2p n o.dst=true)
  (h:∀ev:Operand→Value,(∀x y,σ.ρ.val x=some y→ev x=y)→Bok σ.β v→SemX P (execOp ev o) (fun nx w=>match nx with
    | .value x=>∃β' u,(Bok β' u∧(u.union (A0c β')).Le w)∧K ⟨σ.ds,putR o.dst x σ.ρ,β'⟩ u
    | .skip=>∃β' u,(Bok β' u∧(u.union (A0c β')).Le w)∧K ⟨σ.ds,putR o.dst undef σ.ρ,β'⟩ u
    | .defer d=>rd=none∧∃β' u,(Bok β' u∧(u.union (A0c β')).Le w)∧K ⟨d::σ.ds,putR o.dst undef σ.ρ,β'⟩ u
    | .enter f args=>CallsX P mn f args (fun e w'=>∃β' u,(Bok β' u∧(u.union (A0c β')).Le w')∧match e with
      | .ret x=>K ⟨σ.ds,putR o.dst x σ.ρ,β'⟩ u
      | .pan ch=>Q (.panic ch) ⟨σ.ds,σ.ρ,β'⟩ u) w
    | .round l f tmps assign body=>rd≠some 4294967295∧RoundX P mn l f tmps assign body (fun e w'=>∃β' u,(Bok β' u∧(u.union (A0c β')).Le w')∧match e with
      | .ret x=>K ⟨σ.ds,putR o.dst x σ.ρ,β'⟩ u
      | .pan ch=>Q (.panic ch) ⟨σ.ds,σ.ρ,β'⟩ u) w
    | _=>False) (fun x w=>∃β' u,(Bok β' u∧(u.union (A0c β')).Le w)∧Q (.panic [{v:=x,recovered:=false }]) ⟨σ.ds,σ.ρ,β'⟩ u) (v.union (A0c σ.β))):XOp P mn rd n ops i Q K σ v:=fun a hf hb=>by
 refine⟨o,ho,A0m hf hw,hd,A1y _ (fun nx w hK=>?_) (fun x w hE=>?_) (h a.eval (A0k hf) hb)⟩
 ·have fp:∀x β',Fits n ⟨σ.ds,putR o.dst x σ.ρ,β'⟩ (a.put o.dst x):=fun x β'=>⟨(A0x hf hn).size,(A0x hf hn).defers,(A0x (x:=x) hf hn).get⟩
  cases nx with
  | value x=>obtain⟨β',u,⟨h1,h2⟩,h3⟩:=hK;exact⟨_,u,h3,fp x β',h1,h2⟩
  | skip=>obtain⟨β',u,⟨h1,h2⟩,h3⟩:=hK;exact⟨_,u,h3,fp undef β',h1,h2⟩
  | defer d=>
   obtain⟨hrd,β',u,⟨h1,h2⟩,h3⟩:=hK
   refine⟨hrd,_,u,h3,?_,h1,h2⟩
   have:=A0x (σ:={σ with ds:=d::σ.ds }) (a:={a with defers:=d::a.defers }) (x:=undef) ⟨hf.size,by simp [hf.defers],hf.get⟩ hn
   exact⟨this.size,this.defers,this.get⟩
  | enter f args=>
   refine CallsX.mono hK fun e w' hR=>⟨w',Le.refl _,?_⟩
   obtain⟨β',u,⟨h1,h2⟩,h3⟩:=hR
   cases e with
   | ret x=>exact⟨_,u,h3,fp x β',h1,h2⟩
   | pan ch=>exact⟨_,u,h3,⟨hf.size,hf.defers,hf.get⟩,h1,h2⟩
  | round l f tmps assign body=>
   refine⟨hK.1,?_⟩
   intro Stop c cs hc hk
   refine hK.2 Stop c cs hc fun e w' hR=>hk e w' ?_
   obtain⟨β',u,⟨h1,h2⟩,h3⟩:=hR
   cases e with
   | ret x=>exact⟨_,u,h3,fp x β',h1,h2⟩
   | pan ch=>exact⟨_,u,h3,⟨hf.size,hf.defers,hf.get⟩,h1,h2⟩
  | _=>exact hK.elim
 ·obtain⟨β',u,⟨h1,h2⟩,h3⟩:=hE
  exact⟨_,u,h3,⟨hf.size,hf.defers,hf.get⟩,h1,h2⟩
end
theorem SetB.split{b:Nat}{c':Array Value}{β β':A0e}(h:SetB b c' β β'):∃l r c t,β=l++(b,c,t)::r∧β'=l++(b,c',t)::r:=by
 induction h with
 | head=>exact⟨[],_,_,_,rfl,rfl⟩
 | tail _ ih=>obtain⟨l,r,c,t,rfl,rfl⟩:=ih;exact⟨_::l,r,c,t,rfl,rfl⟩
theorem bview_mid{b:Nat}{c:Array Value}{t:TypeId}{l r:A0e}(hn:((l++(b,c,t)::r).map (·.1)).Nodup)(c':Array Value):A0c (l++(b,c',t)::r)=(A0c (l++(b,c,t)::r)).set b true (.cells c' t (0,0)):=by
 funext j
 have hn':((l++(b,c',t)::r).map (·.1)).Nodup:=by simpa using hn
 unfold View.set
 by_cases hj:j=b
 ·subst hj;rw [if_pos rfl];exact A2h hn' sM
 ·rw [if_neg hj]
  induction l with
  | nil=>simp [A0c,hj]
  | cons p l ih=>
   obtain⟨i,d,t'⟩:=p
   simp only [List.cons_append,A0c]
   by_cases hi:j=i
   ·simp [hi]
   ·simp only [hi,if_false]
    exact ih (by simp only [List.cons_append,List.map_cons,List.nodup_cons]at hn;exact hn.2) (by simp only [List.cons_append,List.map_cons,List.nodup_cons]at hn';exact hn'.2)
theorem A8r{β β':A0e}{v:View}(hb:Bok β v)(h:β'.map (·.1)=β.map (·.1)):Bok β' v:=by
 refine⟨h ▸ hb.nodup,fun b=>?_⟩
 rcases hb.disj b with e|e
 ·exact .inl e
 ·right
  refine A9y fun hm=>?_
  rw [h]at hm
  obtain⟨⟨i,c,t⟩,hp,rfl⟩:=List.mem_map.1 hm
  rw [A2h hb.nodup hp]at e
  cases e
theorem B1h{v F:View}{b:Nat}{p:Bool}{o:Obj}(h:v b=none):v.union (F.set b p o)=(v.union F).set b p o:=by
 funext j
 unfold View.union View.set
 by_cases hj:j=b
 ·subst hj;simp [h]
 ·simp [hj]
theorem A8g{b:Nat}{c':Array Value}{β β':A0e}{v:View}(hb:Bok β v)(h:SetB b c' β β'):Bok β' v∧∃c t,InB b c t β∧v.union (A0c β')=(v.union (A0c β)).set b true (.cells c' t (0,0)):=by
 refine⟨A8r hb h.keys,?_⟩
 obtain⟨l,r,c,t,rfl,rfl⟩:=h.split
 refine⟨c,t,?_,?_⟩
 ·clear hb h
  induction l with
  | nil=>exact .head
  | cons p l ih=>exact .tail ih
 ·rw [bview_mid hb.nodup c',B1h]
  exact(hb.disj b).resolve_right (by rw [A2h hb.nodup (by simp:(b,c,t)∈_)];simp)
theorem A3l{l:List Value}:∀{c:Array Value} {off:Nat},(A0z c off l).size=c.size:=by
 induction l with
 | nil=>intros;rfl
 | cons x r ih=>intro c off;simp [A0z,ih]
theorem A9b{l:List Value}:∀{c:Array Value} {off i:Nat},off+l.length≤c.size→(A0z c off l)[i]?=if off≤i∧i<off+l.length then l[i-off]? else c[i]?:=by
 induction l with
 | nil=>intro c off i h;simp only [A0z,List.length_nil];rw [if_neg oM]
 | cons x r ih=>
  intro c off i h
  simp only [List.length_cons]at h
  simp only [A0z,List.length_cons]
  rw [ih (by simp;omega)]
  by_cases h1:off+1≤i∧i<off+1+r.length
  ·rw [if_pos h1,if_pos oM,show i-off=(i-(off+1))+1 by omega,List.getElem?_cons_succ]
  ·rw [if_neg h1]
   by_cases h2:i=off
   ·subst h2
    rw [if_pos oM,Array.getElem?_setIfInBounds_self,if_pos oM]
    simp
   ·rw [if_neg oM,Array.getElem?_setIfInBounds_ne oM]
section
variable{P:Program}{mn:Who}(T:Tab P){rd:Option Nat}{n:Nat}{Q:Exit→St→View→Prop}{ds:List Deferred}{ρ:Regs}{β:A0e}{v:View}
 {ops:Array Oper}{i:Nat}{K:St→View→Prop}
theorem A3q{K:Unit→View→Prop}{E:Value→View→Prop}{b off:Nat}{e:TypeId}:∀{l:List Value} {w:View} {c:Array Value} {j:Nat},(l.all A2k=true)→w b=some (true,.cells c e (0,0))→off+j+l.length≤c.size→
  K () (w.set b true (.cells (A0z c (off+j) l) e (0,0)))→SemX P (storeCells ⟨b,off,none⟩ l j) K E w
 | [],w,c,j,_,hw,_,hk=>by
  simp only [storeCells,A0h]
  have:w.set b true (.cells c e (0,0))=w:=by
   funext i;unfold View.set;split
   ·rename_i h;subst h;exact hw.symm
   ·rfl
  simp only [A0z]at hk
  rw [this]at hk
  exact hk
 | x::l,w,c,j,ha,hw,hl,hk=>by
  simp only [List.all_cons,Bool.and_eq_true]at ha
  simp only [List.length_cons]at hl
  simp only [storeCells,A0a]
  rw [show store ((⟨b,off,none⟩:Addr).add j) x=Sem.store .plain ((⟨b,off,none⟩:Addr).add j) x (.pure ())from Y,A5n]
  refine⟨Y,ha.1,c,e,(0,0),hw,Y,(by simp only;omega),by simp only [A8q,Bool.and_eq_false_imp,decide_eq_true_eq,decide_eq_false_iff_not];omega,?_⟩
  rw [sx_pure']
  refine A3q (e:=e) (c:=c.setIfInBounds (off+j) x) (j:=j+1) ha.2 (by simp [View.set]) (by simp;omega) ?_
  have:(w.set b true (.cells (c.setIfInBounds (off+j) x) e (0,0))).set b true (.cells (A0z (c.setIfInBounds (off+j) x) (off+(j+1)) l) e (0,0))=w.set b true (.cells (A0z c (off+j) (x::l)) e (0,0)):=by
   funext i;unfold View.set;split<;>simp_all [A0z,Nat.add_assoc]
  show K () ((w.set b true (.cells (c.setIfInBounds (off+j) x) e (0,0))).set b true _)
  rw [this]
  exact hk
theorem Op_storeB{o:Oper}{t t':TypeId}{y z:Operand}{b off k:Nat}{c:Array Value}{x:Value}{β':A0e}(ho:ops[i]?=some o)(hw:A4s ops o ρ=some true)(hop:o.op = .store t y z)(hdst:o.dst=none)
  (hy:ρ.val y=some (.pointer (some ⟨b,off,none⟩)))(hz:ρ.val z=some x)(ht:T.siz t=some k)(hk:x.cells.size=k)(hone:x.cells.toList.all A2k=true)(hb:InB b c t' β)(hoff:Nat.ble (off+k) c.size=true)(hset:SetB b (A0z c off x.cells.toList) β β')
  (h:K ⟨ds,ρ,β'⟩ v):XOp P mn rd n ops i Q K ⟨ds,ρ,β⟩ v:=by
 refine A1w ho hw (.inr (by rw [hop];rfl)) (by rw [hdst];rfl) fun ev hev hbk=>?_
 unfold execOp
 simp only [hop,Instr.storeAt,Instr.sureAddr,storeVar,hev _ _ hy,hev _ _ hz,A0a,A0h,A4f T ht]
 rw [if_neg (by simp [hk])]
 obtain⟨hbk',c₀,t₀,hin,hv⟩:=A8g hbk hset
 have hcc:c₀=c∧t₀=t':=by
  have h1:=A0q (v:=v) hbk hin
  have h2:=A0q (v:=v) hbk hb
  rw [h1]at h2
  simp only [Option.some.injEq,Prod.mk.injEq,Obj.cells.injEq]at h2
  exact⟨h2.2.1,h2.2.2.1⟩
 obtain⟨rfl,rfl⟩:=hcc
 refine A3q (off:=off) (c:=c₀) (e:=t₀) (j:=0) hone (A0q hbk hin) (by have:=Nat.le_of_ble_eq_true hoff;simp;omega) ?_
 refine⟨β',v,⟨hbk',?_⟩,by rw [hdst];exact h⟩
 rw [hv]
 exact Le.refl _
def CallsB(P:Program)(mn:Who)(f:FuncId)(args:Array Value)(R:End→A0e→Prop)(β:A0e)(v:View):Prop:=
 Bok β v→CallsX P mn f args (fun e w=>∃β',R e β'∧Bok β' v∧(v.union (A0c β')).Le w) (v.union (A0c β))
theorem A3v{β β':A0e}(hp:β.Perm β')(hb:Bok β v):Bok β' v∧A0c β'=A0c β:=by
 have hn:(β'.map (·.1)).Nodup:=(hp.map _).nodup_iff.1 hb.nodup
 have he:A0c β'=A0c β:=by
  funext b
  cases h:A0c β b with
  | none=>
   cases h':A0c β' b with
   | none=>rfl
   | some x=>
    have hm:=A4h h'
    obtain⟨⟨j,c,t⟩,hq,rfl⟩:=List.mem_map.1 hm
    rw [A2h hb.nodup (hp.mem_iff.2 hq)]at h
    cases h
  | some x=>
   have hm:=A4h h
   obtain⟨⟨j,c,t⟩,hq,rfl⟩:=List.mem_map.1 hm
   rw [A2h hb.nodup hq]at h
   rw [←h]
   exact A2h hn (hp.mem_iff.1 hq)
 exact⟨⟨hn,fun b=>(hb.disj b).imp id fun e=>by rw [he];exact e⟩,he⟩
theorem A5j{l r:A0e}:A0c (l++r)=(A0c l).union (A0c r):=by
 induction l with
 | nil=>funext b;simp [A0c,View.union]
 | cons p l ih=>
  obtain⟨i,c,t⟩:=p
  funext b
  simp only [List.cons_append,A0c,View.union]
  split
  ·rfl
  ·rw [ih];rfl
theorem union_assoc(u v w:View):(u.union v).union w=u.union (v.union w):=by
 funext b;unfold View.union;cases u b<;>simp
theorem bok_append{l r:A0e}:Bok (l++r) v↔Bok r v∧Bok l (v.union (A0c r)):=by
 constructor
 ·intro h
  have hn:=h.nodup
  rw [List.map_append]at hn
  obtain⟨h1,h2,h3⟩:=List.nodup_append.1 hn
  refine⟨⟨h2,fun b=>(h.disj b).imp id fun e=>?_⟩,⟨h1,fun b=>?_⟩⟩
  ·rw [A5j]at e
   unfold View.union at e
   split at e
   ·cases e
   ·exact e
  ·cases hl:A0c l b with
   | none=>exact .inr rfl
   | some x=>
    left
    have hm:=A4h hl
    unfold View.union
    have hv:v b=none:=(h.disj b).resolve_right (by rw [A5j];unfold View.union;rw [hl];simp)
    rw [hv]
    exact A9y fun hm'=>h3 _ hm _ hm' Y
 ·rintro⟨h1,h2⟩
  have hdis:∀b,b∈l.map (·.1)→v b=none∧b∉r.map (·.1):=fun b hm=>by
   obtain⟨⟨j,c,t⟩,hq,rfl⟩:=List.mem_map.1 hm
   have:=(h2.disj j).resolve_right (by rw [A2h h2.nodup hq];simp)
   unfold View.union at this
   split at this
   ·cases this
   ·rename_i hv
    refine⟨hv,fun hm'=>?_⟩
    obtain⟨⟨j',c',t'⟩,hq',rfl⟩:=List.mem_map.1 hm'
    rw [A2h h1.nodup hq']at this
    cases this
  refine⟨by rw [List.map_append];exact List.nodup_append.2 ⟨h2.nodup,h1.nodup,fun a ha b hb e=>(hdis a ha).2 (e ▸ hb)⟩,fun b=>?_⟩
  cases hl:A0c l b with
  | some x=>exact .inl (hdis b (A4h hl)).1
  | none=>exact(h1.disj b).imp id fun e=>by rw [A5j];unfold View.union;rw [hl];exact e
theorem A0v{l r:A0e}(h:Bok (l++r) v):v.union (A0c (l++r))=(v.union (A0c r)).union (A0c l):=by
 funext b
 obtain⟨h1,h2⟩:=bok_append.1 h
 rw [A5j]
 unfold View.union
 cases hv:v b with
 | some x=>rfl
 | none=>
  cases hl:A0c l b with
  | none=>cases hr:A0c r b<;>simp [hr]
  | some x=>
   have:=(h2.disj b).resolve_right (by rw [hl];simp)
   unfold View.union at this
   rw [hv]at this
   simp only at this⊢
   rw [this]
theorem A2e{l m:A0e}(h:∀p,cnt p l=cnt p m):l.Perm m:=by
 obtain⟨r,hr⟩:=A9i (τ:=l) (β:=m) fun p=>Nat.le_of_eq (h p)
 have:r=[]:=by
  have hlen:=fun q=>h q
  apply Classical.byContradiction
  intro hne
  obtain⟨q,hq⟩:=List.exists_mem_of_ne_nil r hne
  have h1:∀{a b:A0e},a.Perm b→cnt q a=cnt q b:=fun hp=>by
   induction hp with
   | nil=>rfl
   | cons x _ ih=>simp only [cnt,ih]
   | swap x y l=>simp only [cnt];omega
   | trans _ _ ih1 ih2=>exact ih1.trans ih2
  have h2:=h1 hr
  rw [A0n]at h2
  have h3:=cnt_pos.2 hq
  have:=hlen q
  omega
 subst this
 simpa using hr.symm
theorem Op_callB{o:Oper}{f:Operand}{args:Array Operand}{ats:Array TypeId}{k:FuncId}{first captured:Array Value}{xs:List Value}{R:End→A0e→Prop}(bin rest:A0e)(ho:ops[i]?=some o)(hw:A4s ops o ρ=some true)(hn:A2p n o.dst=true)
  (hop:o.op = .call {callee:=.value f,args:=args,argTypes:=ats })(hf:ρ.val f=some (.func (.func k) first captured))(hxs:A2s ρ.val args.toList=some xs)(hk:A0i P k)
  (hsplit:∀p,cnt p β=cnt p (bin++rest))(hc:CallsB P mn k (first++xs.toArray++captured) R bin (v.union (A0c rest)))
  (hr:∀x β',R (.ret x) β'→K ⟨ds,putR o.dst x ρ,β'++rest⟩ v)(hp:∀ch β',R (.pan ch) β'→Q (.panic ch) ⟨ds,ρ,β'++rest⟩ v):XOp P mn rd n ops i Q K ⟨ds,ρ,β⟩ v:=by
 refine A1w ho hw (.inr (by rw [hop];rfl)) hn fun ev hev hbk=>?_
 have ha:args.map ev=xs.toArray:=Array.toList_inj.1 (by simpa using A2c hev hxs)
 unfold execOp
 simp only [hop,resolve,Deferred.ofValue,hev _ _ hf,ha,A0a,A0h,invoke]
 obtain⟨hb1,he⟩:=A3v (A2e hsplit) hbk
 obtain⟨hb2,hb3⟩:=bok_append.1 hb1
 have hc':=hc hb3
 rw [←A0v hb1,he]at hc'
 refine A4t hk (CallsX.mono hc' fun e w hR=>⟨w,Le.refl _,?_⟩)
 obtain⟨β',hR,hb',hl⟩:=hR
 have hb4:Bok (β'++rest) v:=bok_append.2 ⟨hb2,hb'⟩
 refine⟨β'++rest,v,⟨hb4,(A0v hb4) ▸ hl⟩,?_⟩
 cases e with
 | ret x=>exact hr x β' hR
 | pan ch=>exact hp ch β' hR
theorem XC_retire{c:Code}{β1 β2:A0e}(hp:∀p,cnt p β=cnt p (β1++β2))(h:Bok β1 v→XC P mn rd n c Q ⟨ds,ρ,β2⟩ (v.union (A0c β1))):XC P mn rd n c Q ⟨ds,ρ,β⟩ v:=fun a hf hb=>by
 obtain⟨hb1,he⟩:=A3v (A2e (l:=β) (m:=β2++β1) fun p=>by rw [hp p,A0n,A0n];omega) hb
 obtain⟨hb2,hb3⟩:=bok_append.1 hb1
 rw [←he,A0v hb1]
 exact h hb2 a ⟨hf.size,hf.defers,hf.get⟩ hb3
theorem XO_retire{l:List Nat}{β1 β2:A0e}(hp:∀p,cnt p β=cnt p (β1++β2))(h:Bok β1 v→XO P mn rd n ops l Q ⟨ds,ρ,β2⟩ (v.union (A0c β1))):XO P mn rd n ops l Q ⟨ds,ρ,β⟩ v:=fun a hf hb=>by
 obtain⟨hb1,he⟩:=A3v (A2e (l:=β) (m:=β2++β1) fun p=>by rw [hp p,A0n,A0n];omega) hb
 obtain⟨hb2,hb3⟩:=bok_append.1 hb1
 rw [←he,A0v hb1]
 exact h hb2 a ⟨hf.size,hf.defers,hf.get⟩ hb3
inductive ResL{P:Program}(T:Tab P)(ρ:Regs)(β:A0e):List ResultVar→List Value→Prop
 | nil:ResL T ρ β [] []
 | tmp {t:Tmp} {r:List ResultVar} {x:Value} {xs:List Value}:ρ.get t=some x→ResL T ρ β r xs→ResL T ρ β (.tmp t::r) (x::xs)
 | cell {a:Tmp} {t t':TypeId} {r:List ResultVar} {b off:Nat} {c:Array Value} {x:Value} {xs:List Value}:ρ.get a=some (.pointer (some ⟨b,off,none⟩))→InB b c t' β→A4k T t c off=some x→ResL T ρ β r xs→ResL T ρ β (.cell a t::r) (x::xs)
def Back(v:View)(β':A0e)(u:View)(β:A0e):Prop:=Bok β u→Bok β' v∧(v.union (A0c β')).Le (u.union (A0c β))
theorem Back.here{β' β:A0e}(h:Subm β' β):Back v β' v β:=fun hb=>by
 obtain⟨h1,h2⟩:=Sub.bok (τ:=⟨[],[],β'⟩) (σ:=⟨[],[],β⟩) ⟨rfl,trivial,h⟩ (Le.refl v) hb
 exact⟨h1,h2⟩
theorem Back.le{β' β:A0e}{u:View}(hl:v.Le u)(h:Subm β' β):Back v β' u β:=fun hb=>by
 obtain⟨h1,h2⟩:=Sub.bok (τ:=⟨[],[],β'⟩) (σ:=⟨[],[],β⟩) ⟨rfl,trivial,h⟩ hl hb
 exact⟨h1,h2⟩
def FnB(fn:Func)(R:End→A0e→Prop)(v:View):Exit→St→View→Prop
 | .normal,σ,u | .ret,σ,u=>σ.ds=[]∧∃xs β',ResL T σ.ρ σ.β fn.results.toList xs∧R (.ret (A3t xs)) β'∧Back v β' u σ.β
 | .panic ch,σ,u=>σ.ds=[]∧∃β',R (.pan ch) β'∧Back v β' u σ.β
 | _,_,_=>False
theorem A0f{fn:Func}{R:End→A0e→Prop}{u:View}{xs:List Value}(β':A0e)(h1:ResL T ρ β fn.results.toList xs)(h3:Back v β' u β)(h2:R (.ret (A3t xs)) β'):FnB T fn R v .ret ⟨[],ρ,β⟩ u:=⟨Y,xs,β',h1,h2,h3⟩
theorem A1o{fn:Func}{R:End→A0e→Prop}{u:View}{xs:List Value}(β':A0e)(h1:ResL T ρ β fn.results.toList xs)(h3:Back v β' u β)(h2:R (.ret (A3t xs)) β'):FnB T fn R v .normal ⟨[],ρ,β⟩ u:=⟨Y,xs,β',h1,h2,h3⟩
theorem A5p{fn:Func}{R:End→A0e→Prop}{u:View}{ch:List PanicEntry}(β':A0e)(h3:Back v β' u β)(h2:R (.pan ch) β'):FnB T fn R v (.panic ch) ⟨[],ρ,β⟩ u:=⟨Y,β',h2,h3⟩
theorem sx_resL{E:Value→View→Prop}{a:Act}{w:View}(hf:Fits n ⟨ds,ρ,β⟩ a)(hb:Bok β v)(hl:(v.union (A0c β)).Le w){rs:List ResultVar}{xs:List Value}(h:ResL T ρ β rs xs):∀{K:List Value→View→Prop},K xs w→
  SemX P (rs.mapM (fun(r:ResultVar)=>(match r with
   | .tmp t=>pure (a.tmps.getD t undef)
   | .cell c t=>do loadVar t (←asAddr (a.tmps.getD c undef)):Sem Value))) K E w:=by
 induction h with
 | nil=>intro K hk;simpa [A0h]using hk
 | @tmp t r x xs h1 _ ih=>
  intro K hk
  rw [List.mapM_cons,A0a,A0h,A0a]
  have:a.tmps.getD t undef=x:=by rw [Array.getD_eq_getD_getElem?,hf.get t x h1];rfl
  rw [this]
  exact ih hk
 | @cell c t t' r b off cs x xs h1 h2 h3 _ ih=>
  intro K hk
  have hg:a.tmps.getD c undef = .pointer (some ⟨b,off,none⟩):=by rw [Array.getD_eq_getD_getElem?,hf.get c _ h1];rfl
  rw [List.mapM_cons,A0a]
  simp only [hg,asAddr,A0a,A0h]
  refine A2z T (hl _ _ (A0q hb h2)) h3 ?_
  exact ih hk
theorem A0d{f:FuncId}{fn:Func}{c:Code}{args:List Value}{R:End→A0e→Prop}(hf:P.funcs[f]?=some fn)(hb:fn.body=some c)(hn:args.length≤fn.ntmps)
  (h:XC P mn none fn.ntmps c (FnB T fn R v) ⟨[],A2l 0 args,β⟩ v):CallsB P mn f args.toArray R β v:=fun hbk=>by
 refine A7u hf hb (A4m (h _ ⟨?_,Y,?_⟩ hbk) ?_)
 ·simp;omega
 ·have key:∀(l:List Value) (i t:Nat) (x:Value),(A2l i l).get t=some x→i≤t∧l[t-i]?=some x:=by
   intro l
   induction l with
   | nil=>intro i t x h;simp [A2l,Regs.get]at h
   | cons y l ih=>
    intro i t x h
    simp only [A2l,Regs.get]at h
    cases hb:Nat.beq i t with
    | true=>
     rw [hb]at h
     have:=Nat.eq_of_beq_eq_true hb
     subst this
     simp only [cond_true]at h
     exact⟨Nat.le_refl _,by simpa using h⟩
    | false=>
     rw [hb]at h
     obtain⟨h1,h2⟩:=ih (i+1) t x h
     refine⟨oM,?_⟩
     rw [show t-i=(t-(i+1))+1 by omega]
     simpa using h2
  intro t x hx
  obtain⟨_,h2⟩:=key args 0 t x hx
  simp only [Nat.sub_zero]at h2
  obtain⟨hlt,_⟩:=List.getElem?_eq_some_iff.1 h2
  rw [Array.getElem?_append_left (by simpa using hlt)]
  simpa using h2
 ·rintro e a w ⟨⟨ds',ρ',β'⟩,u,hq,hf',hb',hl⟩
  refine⟨w,Le.refl _,?_⟩
  have hret:∀xs β'',ResL T ρ' β' fn.results.toList xs→R (.ret (A3t xs)) β''→Back v β'' u β'→SemX P (results fn a.tmps) (fun x v'=>∃β',R (.ret x) β'∧Bok β' v∧(v.union (A0c β')).Le v') (fun _ _=>False) w:=by
   intro xs β'' hr hR hB
   obtain⟨h1,h2⟩:=hB hb'
   unfold results
   rw [A0a,Array.mapM_eq_mapM_toList,sx_map]
   refine sx_resL T hf' hb' hl hr ?_
   rw [A0h]
   refine⟨β'',?_,h1,h2.trans hl⟩
   match xs,hR with
   | [],hR=>simpa [A3t]using hR
   | [x],hR=>simpa [A3t]using hR
   | x::y::r,hR=>simpa [A3t]using hR
  cases e with
  | normal=>obtain⟨h1,xs,β'',h2,h3,h4⟩:=hq;exact⟨hf'.defers.trans h1,hret xs β'' h2 h3 h4⟩
  | ret=>obtain⟨h1,xs,β'',h2,h3,h4⟩:=hq;exact⟨hf'.defers.trans h1,hret xs β'' h2 h3 h4⟩
  | panic ch=>obtain⟨h1,β'',h2,h3⟩:=hq;obtain⟨h4,h5⟩:=h3 hb';exact⟨hf'.defers.trans h1,β'',h2,h4,h5.trans hl⟩
  | exit id=>exact hq.elim
  | goto l=>exact hq.elim
  | outgrown=>exact hq.elim
end
attribute [irreducible] SeqQ BlockQ LoopQ FnB
theorem B1u{need cap:Nat}(h:cap<need):Builtin.nextslicecap need cap≤2*need+768:=by
 unfold Builtin.nextslicecap
 split
 ·omega
 ·split
  ·omega
  ·have key:∀(r c:Nat),c≤2*need+768→Builtin.growBy need r c≤2*need+768:=by
    intro r
    induction r with
    | zero=>intro c hc;simpa [Builtin.growBy]using hc
    | succ r ih=>
     intro c hc
     simp only [Builtin.growBy]
     split
     ·exact hc
     ·exact ih _ oM
   exact key _ _ oM
section
variable{P:Program}{mn:Who}(T:Tab P){E:Value→View→Prop}
theorem tx_info{K:TypeInfo→View→Prop}{w:View}{t:TypeId}{n:Nat}(h:T.byt t=some n)(hk:∀i:TypeInfo,i.bytes=n→K i w):SemX P (typeInfo t) K E w:=by
 obtain⟨i,hi,hz⟩:=T.byt_ok _ _ h
 rw [A6h hi];exact hk i hz
theorem A3r{K:Array Value→View→Prop}{w:View}{a:Option Addr}{cs:List Value}{k n len cap:Nat}(h:RowAt w a cs)(hl:cs.length=n*k)(hk:K cs.toArray w):SemX P (Builtin.firstCells k n (.slice a len cap)) K E w:=by
 rcases h with rfl|⟨b,off,p,c,e,f,rfl,h2,h3,h4⟩
 ·cases a with
  | none=>simpa only [Builtin.firstCells,A0h]using hk
  | some a=>
   have:n*k=0:=by simpa using hl.symm
   simp only [Builtin.firstCells,this,loadCells,loadCellsFrom,A0h]
   exact hk
 ·simp only [Builtin.firstCells,loadCells]
  refine B0f h2 (n*k) 0 #[] oM ?_
  have:(#[]++c.extract (off+0) (off+0+n*k))=cs.toArray:=by
   apply Array.ext_getElem?
   intro i
   simp only [Array.empty_append,Array.getElem?_extract,Nat.add_zero,List.getElem?_toArray]
   by_cases hi:i<cs.length
   ·rw [if_pos oM,h4 i cs[i] (by simp [hi])];simp [hi]
   ·rw [if_neg oM];simp;omega
  rw [this];exact hk
theorem A7q{z:Array Value}{n:Nat}:(Builtin.zeroCells z n).size=n*z.size:=by simp [Builtin.zeroCells]
theorem A8f{K:Value→View→Prop}{w:View}{t t' ty e e':TypeId}{k by_ n len cap cap2:Nat}{z:Value}{base a2:Option Addr}{old xs:List Value}(ht:T.und t=some (.slice e))(ht':T.und t'=some (.slice e'))(hs:T.siz e=some k)(hby:T.byt e=some by_)
  (hz:T.zer e=some z)(hzs:z.cells.size=k)(ho:RowAt w base old)(hol:old.length=len*k)(hx:RowAt w a2 xs)(hxl:xs.length=n*k)(hc:cap<len+n)(hb:(2*(len+n)+768)*by_≤2^48)(hp:0<by_)
  (h:∀(r cap':Nat) (c:Array Value),w r=none→len+n≤cap'→c.size=cap'*k→(∀(i:Nat) (x:Value),(old++xs)[i]?=some x→c[i]?=some x)→K (.slice (some ⟨r,0,none⟩) (len+n) cap') (w.set r true (.cells c e (0,0)))) :
  SemX P (Builtin.append_ #[t,t'] ty #[.slice base len cap,.slice a2 n cap2]) K E w:=by
 have hnc:=B1u hc
 have hle:Builtin.nextslicecap (len+n) cap*by_≤2^48:=Nat.le_trans (Nat.mul_le_mul_right _ hnc) hb
 have hneed:len+n≤2^48:=by
  have:(2*(len+n)+768)*1≤(2*(len+n)+768)*by_:=Nat.mul_le_mul_left _ hp
  omega
 unfold Builtin.append_
 simp only [show(#[t,t']:Array TypeId)[0]?=some t from Y,show(#[t,t']:Array TypeId)[1]?=some t' from Y,show ∀x y:Value,(#[x,y]:Array Value)[0]?=some x from fun _ _=>rfl,show ∀x y:Value,(#[x,y]:Array Value)[1]?=some y from fun _ _=>rfl,A0a,A1k T ht,A1k T ht',A4f T hs,A0h]
 simp only [Bool.false_eq_true,if_false,Builtin.lenOf,A0a,A0h]
 rw [if_neg oM,A0a]
 refine tx_info T hby fun i hi=>?_
 rw [hi]
 rw [if_neg (by
  rintro⟨h1,_⟩
  have:IntKind.i64.max=9223372036854775807:=rfl
  omega),A0a]
 refine tx_info T hby fun i hi=>?_
 rw [hi,if_neg oM,A0a,choose,SemX,if_neg (by simp [Question.forced])]
 intro tp
 simp only [SemX]
 rw [A0a]
 refine tx_info T hby fun i hi=>?_
 rw [A0a]
 have rest:∀{K':Unit→View→Prop},K' () w→∀b,SemX P (askRoom b) K' E w:=by
  intro K' hK b
  unfold askRoom
  split
  ·exact⟨trivial,hK⟩
  ·exact hK
 refine rest ?_ _
 rw [A0a]
 refine A3r ho hol ?_
 rw [A0a]
 have happ:∀{K':Array Value→View→Prop},K' xs.toArray w→SemX P (if(!false)=true then Builtin.firstCells k n (.slice a2 n cap2)else if n*k=0 then pure #[]else do pure (Builtin.zeroCells (←zeroValue e).cells n)) K' E w:=fun hK=>by
  simp only [Bool.not_false,if_true];exact A3r hx hxl hK
 refine happ ?_
 rw [A0a,A8b T hz,A0a]
 unfold newRow
 simp only [A0a,A8d,A0h]
 intro r hr
 have hcap:len+n≤(Question.appendCap (len+n) cap e).cut tp:=by simp [Question.cut]
 refine h r _ _ hr hcap ?_ ?_
 ·simp only [Array.size_append,List.size_toArray,A7q,hol,hxl,hzs]
  rw [←Nat.add_mul,←Nat.add_mul]
  congr 1
  omega
 ·intro i x hi
  have h0:i<(old++xs).length:=(List.getElem?_eq_some_iff.1 hi).1
  simp only [List.length_append]at h0
  rw [Array.getElem?_append_left (by simp;omega)]
  rw [←hi]
  simp
theorem sx_append_in{K:Value→View→Prop}{w:View}{t t' ty e e' e'':TypeId}{k n len cap cap2 b off:Nat}{a2:Option Addr}{xs:List Value}{c:Array Value}(ht:T.und t=some (.slice e))(ht':T.und t'=some (.slice e'))(hs:T.siz e=some k)
  (hx:RowAt w a2 xs)(hxl:xs.length=n*k)(hc:len+n≤cap)(hone:xs.all A2k=true)(hw:w b=some (true,.cells c e'' (0,0)))(hoff:off+len*k+xs.length≤c.size)
  (h:K (.slice (some ⟨b,off,none⟩) (len+n) cap) (w.set b true (.cells (A0z c (off+len*k) xs) e'' (0,0)))) :
  SemX P (Builtin.append_ #[t,t'] ty #[.slice (some ⟨b,off,none⟩) len cap,.slice a2 n cap2]) K E w:=by
 unfold Builtin.append_
 simp only [show(#[t,t']:Array TypeId)[0]?=some t from Y,show(#[t,t']:Array TypeId)[1]?=some t' from Y,show ∀x y:Value,(#[x,y]:Array Value)[0]?=some x from fun _ _=>rfl,show ∀x y:Value,(#[x,y]:Array Value)[1]?=some y from fun _ _=>rfl,A0a,A1k T ht,A1k T ht',A4f T hs,A0h]
 simp only [Bool.false_eq_true,if_false,Builtin.lenOf,A0a,A0h]
 rw [if_pos hc,A0a]
 have happ:∀{K':Array Value→View→Prop},K' xs.toArray w→SemX P (if(!false)=true then Builtin.firstCells k n (.slice a2 n cap2)else if n*k=0 then pure #[]else do pure (Builtin.zeroCells (←zeroValue e).cells n)) K' E w:=fun hK=>by
  simp only [Bool.not_false,if_true];exact A3r hx hxl hK
 refine happ ?_
 rw [A0a,A5n]
 refine A3q (e:=e'') (c:=c) hone hw (by simpa using hoff) ?_
 exact h
end
inductive OwnS(e:TypeId)(k:Nat):A0e→Option Addr→Nat→Nat→List Value→Prop
 | nil:OwnS e k [] none 0 0 []
 | box {b:Nat} {c:Array Value} {len cap:Nat} {cs:List Value}:cs.length=len*k→len≤cap→c.size=cap*k→(∀(i:Nat) (x:Value),cs[i]?=some x→c[i]?=some x)→OwnS e k [(b,c,e)] (some ⟨b,0,none⟩) len cap cs
theorem OwnS.row{e:TypeId}{k:Nat}{seg:A0e}{a:Option Addr}{len cap:Nat}{cs:List Value}(h:OwnS e k seg a len cap cs):RowAt (A0c seg) a cs:=by
 cases h with
 | nil=>exact .inl rfl
 | @box b c _ _ _ h1 h2 h3 h4=>
  refine .inr ⟨b,0,true,c,e,(0,0),Y,by simp [A0c],?_,by simpa using h4⟩
  rw [h1,h3,Nat.zero_add]
  exact Nat.mul_le_mul_right _ h2
theorem OwnS.cast{e:TypeId}{k:Nat}{seg:A0e}{a:Option Addr}{len cap:Nat}{cs cs':List Value}(h:OwnS e k seg a len cap cs)(he:cs=cs'):OwnS e k seg a len cap cs':=he ▸ h
section
variable{P:Program}{mn:Who}(T:Tab P){rd:Option Nat}{n:Nat}{Q:Exit→St→View→Prop}{ds:List Deferred}{ρ:Regs}{β:A0e}{v:View}
 {ops:Array Oper}{i:Nat}{K:St→View→Prop}{o:Oper}
theorem A5k{τ:A0e}(h:Subm τ β)(hb:Bok β v):Bok τ v∧(v.union (A0c τ)).Le (v.union (A0c β)):=Back.here h hb
theorem Op_append{t t' e e':TypeId}{k by_ m len cap cap2:Nat}{y y2:Operand}{z:Value}{a a2:Option Addr}{cs xs:List Value}{seg:A0e}(rest drop:A0e)(ho:ops[i]?=some o)(hw:A4s ops o ρ=some true)(hn:A2p n o.dst=true)
  (hop:o.op = .call {callee:=.builtin .append,args:=#[y,y2],argTypes:=#[t,t'] })(hy:ρ.val y=some (.slice a len cap))(hy2:ρ.val y2=some (.slice a2 m cap2))
  (ht:T.und t=some (.slice e))(ht':T.und t'=some (.slice e'))(hs:T.siz e=some k)(hby:T.byt e=some by_)(hz:T.zer e=some z)(hzs:z.cells.size=k)
  (hsplit:∀p,cnt p β=cnt p (seg++(drop++rest)))(hS:OwnS e k seg a len cap cs)(hx:Bok (drop++rest) v→RowAt (v.union (A0c (drop++rest))) a2 xs)(hxl:xs.length=m*k)(hone:xs.all A2k=true)
  (hb:(2*(len+m)+768)*by_≤2^48)(hp:0<by_)
  (h:∀seg' a' cap',OwnS e k seg' a' (len+m) cap' (cs++xs)→K ⟨ds,putR o.dst (.slice a' (len+m) cap') ρ,seg'++rest⟩ v):XOp P mn rd n ops i Q K ⟨ds,ρ,β⟩ v:=by
 refine A1w ho hw (.inr (by rw [hop];rfl)) hn fun ev hev hbk=>?_
 obtain⟨dst,op,ty,pos,af,gu⟩:=o
 simp only at hop
 subst hop
 obtain⟨hb1,he⟩:=A3v (A2e hsplit) hbk
 obtain⟨hb2,hb3⟩:=bok_append.1 hb1
 have hview:=A0v hb1
 rw [he]at hview
 show SemX P (execOp ev ⟨dst,_,ty,pos,af,gu⟩) _ _ (v.union (A0c β))
 rw [hview]
 have hlex:(v.union (A0c (drop++rest))).Le ((v.union (A0c (drop++rest))).union (A0c seg)):=A0g _ _
 have hx':=(hx hb2).le hlex
 simp only [execOp,resolve,show(#[y,y2]:Array Operand).map ev=#[ev y,ev y2]from by simp,hev _ _ hy,hev _ _ hy2,A0a,A0h,invoke,builtin]
 have hdrop:Subm (seg++rest) (seg++(drop++rest)):=fun p=>by simp only [A0n];omega
 -- the new block
 have grown:cap<len+m→RowAt ((v.union (A0c (drop++rest))).union (A0c seg)) a cs→cs.length=len*k→SemX P (Builtin.append_ #[t,t'] ty #[.slice a len cap,.slice a2 m cap2]) (fun x w=>∃β' u,(Bok β' u∧(u.union (A0c β')).Le w)∧K ⟨ds,putR dst x ρ,β'⟩ u) (fun x w=>∃β' u,(Bok β' u∧(u.union (A0c β')).Le w)∧Q (.panic [{v:=x,recovered:=false }]) ⟨ds,ρ,β'⟩ u) ((v.union (A0c (drop++rest))).union (A0c seg)):=by
  intro hcap hrow hlen
  refine A8f T ht ht' hs hby hz hzs hrow hlen hx' hxl hcap hb hp fun r cap' c hr hc1 hc2 hc3=>?_
  have hbr:Bok rest v:=(bok_append.1 hb2).1
  have hr':(v.union (A0c rest)) r=none:=by
   cases hh:(v.union (A0c rest)) r with
   | none=>rfl
   | some x=>
    have h1:=(A5k (β:=seg++(drop++rest)) (τ:=rest) (fun p=>by simp only [A0n];omega) hb1).2 _ _ hh
    rw [←hview,←he,h1]at hr
    cases hr
  obtain⟨h5,h6⟩:=A7m (c:=c) (t:=e) hbr hr'
  refine⟨(r,c,e)::rest,v,⟨h5,h6.trans ?_⟩,h [(r,c,e)] (some ⟨r,0,none⟩) cap' (.box (by rw [List.length_append,hlen,hxl,Nat.add_mul]) hc1 hc2 hc3)⟩
  intro j x hj
  unfold View.set at hj⊢
  split
  ·rename_i hjr;rw [if_pos hjr]at hj;exact hj
  ·rename_i hjr
   rw [if_neg hjr]at hj
   have h1:=(A5k (β:=seg++(drop++rest)) (τ:=rest) (fun p=>by simp only [A0n];omega) hb1).2 _ _ hj
   rw [←hview,←he];exact h1
 cases hS with
 | nil=>
  by_cases hm:m=0
  ·subst hm
   have hxs:xs=[]:=by simpa using hxl
   subst hxs
   -- nothing to nothing
   unfold Builtin.append_
   simp only [show(#[t,t']:Array TypeId)[0]?=some t from Y,show(#[t,t']:Array TypeId)[1]?=some t' from Y,show ∀x y:Value,(#[x,y]:Array Value)[0]?=some x from fun _ _=>rfl,show ∀x y:Value,(#[x,y]:Array Value)[1]?=some y from fun _ _=>rfl,A0a,A1k T ht,A1k T ht',A4f T hs,A0h]
   simp only [Bool.false_eq_true,if_false,Builtin.lenOf,A0a,A0h]
   rw [if_pos (Nat.le_refl _),A0a]
   simp only [Bool.not_false,if_true]
   refine A3r (.inl Y) sM ?_
   simp only [A0h]
   obtain⟨h5,h6⟩:=A5k (β:=[]++(drop++rest)) (τ:=[]++rest) hdrop hb1
   exact⟨[]++rest,v,⟨h5,by rw [←hview,←he];exact h6⟩,h [] none 0 .nil⟩
  ·exact grown oM (.inl Y) sM
 | @box b c _ _ _ h1 h2 h3 h4=>
  have hbv:((v.union (A0c (drop++rest))).union (A0c [(b,c,e)])) b=some (true,.cells c e (0,0)):=A1l hb3.disj _ _ (by simp [A0c])
  by_cases hcap:len+m≤cap
  ·have hsz:len*k+xs.length≤c.size:=by
    rw [h3,hxl,←Nat.add_mul];exact Nat.mul_le_mul_right _ hcap
   refine sx_append_in T (e'':=e) ht ht' hs hx' hxl hcap hone hbv (by simpa using hsz) ?_
   have hset:SetB b (A0z c (0+len*k) xs) ([(b,c,e)]++(drop++rest)) ([(b,A0z c (0+len*k) xs,e)]++(drop++rest)):=.head
   have hbk':=A8r hb1 hset.keys
   obtain⟨_,c₀,t₀,hin,hv⟩:=A8g hb1 hset
   have hcc:t₀=e:=by
    have q1:=A0q (v:=v) hb1 hin
    have q2:=A0q (v:=v) hb1 (InB.head (b:=b) (c:=c) (t:=e) (r:=drop++rest))
    have q3:some (true,Obj.cells c₀ t₀)=some (true,Obj.cells c e):=by rw [←q1];exact q2
    simp only [Option.some.injEq,Prod.mk.injEq,Obj.cells.injEq]at q3
    exact q3.2.2.1
   subst hcc
   obtain⟨h5,h6⟩:=A5k (β:=[(b,A0z c (0+len*k) xs,t₀)]++(drop++rest)) (τ:=[(b,A0z c (0+len*k) xs,t₀)]++rest) (fun p=>by simp only [A0n,A3u];omega) hbk'
   refine⟨[(b,A0z c (0+len*k) xs,t₀)]++rest,v,⟨h5,h6.trans ?_⟩,h [(b,A0z c (0+len*k) xs,t₀)] (some ⟨b,0,none⟩) cap (.box (by rw [List.length_append,h1,hxl,Nat.add_mul]) hcap (by rw [A3l,h3]) ?_)⟩
   ·rw [hv,←A0v hb1]
    exact Le.refl _
   ·intro j x hj
    rw [A9b (by simpa using hsz)]
    have hj0:j<(cs++xs).length:=(List.getElem?_eq_some_iff.1 hj).1
    simp only [List.length_append]at hj0
    by_cases hjl:j<cs.length
    ·rw [if_neg oM]
     rw [List.getElem?_append_left hjl]at hj
     exact h4 j x hj
    ·rw [if_pos oM]
     rw [List.getElem?_append_right oM]at hj
     rw [←hj]
     congr 1
     omega
  ·refine grown oM (OwnS.row (.box (e:=e) h1 h2 h3 h4) |>.le ?_) h1
   intro j x hj
   exact A1l hb3.disj _ _ hj
end
section
variable{P:Program}{mn:Who}{rd:Option Nat}{ops:Array Oper}
def SK(P:Program)(mn:Who)(a:Act)(o:Oper)(K:Act→View→Prop):Next→View→Prop
 | .value x,u=>K (a.put o.dst x) u
 | .skip,u=>K (a.put o.dst undef) u
 | .enter f args,u=>CallsX P mn f args (fun e u'=>match e with | .ret x=>K (a.put o.dst x) u' | .pan _=>False) u
 | _,_=>False
def OpS(P:Program)(mn:Who)(ops:Array Oper)(i:Nat)(K:Act→View→Prop)(a:Act)(v:View):Prop:=
 match ops[i]? with
 | none=>K a v
 | some o=>if Region.wanted o (yielded ops a.tmps)then SemX P (execOp a.eval o) (SK P mn a o K) (fun _ _=>False) v else K (a.put o.dst undef) v
theorem opS_mono{i:Nat}{a:Act}{v:View}{K K':Act→View→Prop}(h:∀a u,K a u→K' a u)(hh:OpS P mn ops i K a v):OpS P mn ops i K' a v:=by
 unfold OpS at *
 split
 ·rename_i ho;simp only [ho]at hh;exact h _ _ hh
 ·rename_i o ho
  simp only [ho]at hh
  split
  ·rename_i hw
   simp only [hw,if_true]at hh
   refine A1y _ (fun nx u hn=>?_) (fun _ _ x=>x) hh
   cases nx<;>first|exact hn.elim|exact h _ _ hn|skip
   exact CallsX.mono hn fun e u' hR=>⟨u',Le.refl _,by cases e<;>first|exact h _ _ hR|exact hR⟩
  ·rename_i hw;simp only [hw]at hh;exact h _ _ hh
theorem opS_frame{K K':Act→View→Prop}{F:View}(hK:∀a u,Disj u F→K a u→K' a (u.union F)){i:Nat}{a:Act}{v:View}(hd:Disj v F)(h:OpS P mn ops i K a v):OpS P mn ops i K' a (v.union F):=by
 unfold OpS at *
 split
 ·rename_i ho;simp only [ho]at h;exact hK _ _ hd h
 ·rename_i o ho
  simp only [ho]at h
  split
  ·rename_i hw
   simp only [hw,if_true]at h
   refine A1y _ (fun nx u' hn=>?_) (fun _ _ ⟨_,_,_,z⟩=>z) (semX_frame _ h hd)
   obtain⟨u1,rfl,hd1,hn⟩:=hn
   cases nx<;>first|exact hn.elim|exact hK _ _ hd1 hn|skip
   exact CallsX.mono (CallsX.frame hn hd1) fun e u' ⟨u2,h2,hd2,hR⟩=>⟨u',Le.refl _,by
    subst h2
    cases e<;>first|exact hK _ _ hd2 hR|exact hR⟩
  ·rename_i hw;simp only [hw]at h;exact hK _ _ hd h
def depB(ops:Array Oper)(i:Nat):Nat→Nat→Bool
 | 0,_=>false
 | fuel+1,j=>match ops[j]? with
  | some o=>o.after.toList.any fun e=>Region.binds .any e&&(Nat.beq e.on i||depB ops i fuel e.on)
  | none=>false
def Keeps(ops:Array Oper)(ms:List Nat)(v0:View)(S:List (Nat×View))(j:Nat)(v u:View):Prop:=
 if ms.contains j then v0.Le u∧∀p∈S,depB ops p.1 ops.size j=false→p.2.Le u else v.Le u
def AnyS(P:Program)(mn:Who)(ops:Array Oper)(ms:List Nat)(v0:View)(K:Act→View→Prop):Nat→List (Nat×View)→Array Bool→Act→View→Prop
 | 0,_,listed,a,v=>Region.ready .any ops listed=[]∧K a v
 | fuel+1,S,listed,a,v=>(Region.ready .any ops listed=[]→K a v)∧∀i∈Region.ready .any ops listed,OpS P mn ops i (fun a u=>Keeps ops ms v0 S i v u∧AnyS P mn ops ms v0 K fuel S (listed.setIfInBounds i true) a u) a v
theorem Keeps.le{ms:List Nat}{v0:View}{S:List (Nat×View)}{j:Nat}{v u F:View}(h:Keeps ops ms v0 S j v u)(hd:Disj u F):Keeps ops ms v0 S j (v.union F) (u.union F):=by
 unfold Keeps at *
 split at h
 ·rw [if_pos ‹_›];exact⟨h.1.trans (A0g _ _),fun p hp hdp=>(h.2 p hp hdp).trans (A0g _ _)⟩
 ·rw [if_neg ‹_›];exact A2u h hd
theorem A5b{ms:List Nat}{v0:View}{K:Act→View→Prop}(hK:∀a u v,View.Le u v→K a u→K a v):∀(fuel:Nat) (S:List (Nat×View)) (listed:Array Bool) (a:Act) (u v:View),View.Le u v→AnyS P mn ops ms v0 K fuel S listed a u→AnyS P mn ops ms v0 K fuel S listed a v
 | 0,_,_,_,_,_,hl,h=>⟨h.1,hK _ _ _ hl h.2⟩
 | fuel+1,S,listed,a,u,v,hl,h=>⟨fun e=>hK _ _ _ hl (h.1 e),fun i hi=>by
   obtain⟨F,rfl,hd⟩:=B0x hl
   exact opS_frame (fun a' u' hd' ⟨hk,hA⟩=>⟨hk.le hd',A5b hK fuel S _ a' u' _ (A0g _ _) hA⟩) hd (h.2 i hi)⟩
theorem B2h{ms:List Nat}{v0:View}{K:Act→View→Prop}{S S':List (Nat×View)}(hs:∀p∈S',p∈S∨p.2.Le v0):∀(fuel:Nat) (listed:Array Bool) (a:Act) (v:View),AnyS P mn ops ms v0 K fuel S listed a v→AnyS P mn ops ms v0 K fuel S' listed a v
 | 0,_,_,_,h=>h
 | fuel+1,listed,a,v,h=>⟨h.1,fun i hi=>opS_mono (fun a u ⟨hk,hA⟩=>⟨by
   unfold Keeps at *
   split at hk
   ·rw [if_pos ‹_›];exact⟨hk.1,fun p hp hd=>(hs p hp).elim (fun h=>hk.2 p h hd) (fun h=>h.trans hk.1)⟩
   ·rw [if_neg ‹_›];exact hk,B2h hs fuel _ a u hA⟩) (h.2 i hi)⟩
theorem yields_opS{i:Nat}{o:Oper}{x:Value}{a:Act}{vq v:View}(hi:ops[i]?=some o)(hy:YieldsX P mn ops o x a vq)(hl:vq.Le v){K:Act→View→Prop}(h:∀u,v.Le u→K (a.put o.dst x) u):OpS P mn ops i K a v:=by
 unfold OpS
 simp only [hi]
 rcases hy with ⟨hw,hq⟩|⟨hw,rfl⟩
 ·simp only [hw,if_true]
  refine A1y _ (fun nx u hn=>?_) (fun _ _ z=>z) (hq v hl)
  obtain⟨hl',hn⟩:=hn
  cases nx<;>first|exact hn.elim|skip
  ·cases hn;exact h _ hl'
  ·cases hn;exact h _ hl'
  ·exact CallsX.mono hn fun e u' hR=>⟨u',Le.refl _,by obtain⟨rfl,hl''⟩:=hR;exact h _ hl''⟩
 ·simp only [hw,Bool.false_eq_true,if_false];exact h _ (Le.refl _)
theorem opS_put{j:Nat}{oi oj:Oper}{x:Value}{v vq:View}(hj:ops[j]?=some oj)(hap:oi.apart ops oj=true)(hsi:∀cs b,oi.op≠.select cs b)(hsj:∀cs b,oj.op≠.select cs b)
  {K:Act→View→Prop}{a:Act}(hy:YieldsX P mn ops oi x a vq)(h:OpS P mn ops j K (a.put oi.dst x) v):OpS P mn ops j (fun a' u=>YieldsX P mn ops oi x a' vq∧K (a'.put oi.dst x) u) a v:=by
 obtain⟨h1,h2,h3⟩:=Oper.apart_spec hap
 have keep:∀y,YieldsX P mn ops oi x (a.put oj.dst y) vq:=fun y=>hy.of_same (Le.refl _) (execOp_put oi hsi a oj.dst y h3) (wanted_put oi a oj.dst y h3)
 unfold OpS at *
 simp only [hj]at *
 rw [wanted_put oj a oi.dst x h1]at h
 split
 ·rename_i hw
  simp only [hw,if_true]at h
  rw [execOp_put oj hsj a oi.dst x h1]at h
  refine A1y _ (fun nx u hn=>?_) (fun _ _ z=>z) h
  cases nx<;>first|exact hn.elim|skip
  ·exact⟨keep _,by rw [←Act.put_comm a x _ h2];exact hn⟩
  ·exact⟨keep _,by rw [←Act.put_comm a x _ h2];exact hn⟩
  ·exact CallsX.mono hn fun e u' hR=>⟨u',Le.refl _,by
    cases e
    ·exact⟨keep _,by rw [←Act.put_comm a x _ h2];exact hR⟩
    ·exact hR⟩
 ·rename_i hw
  simp only [hw]at h
  exact⟨keep _,by rw [←Act.put_comm a x undef h2];exact h⟩
def B0p(ops:Array Oper)(listed:Array Bool):Prop:=∀(j:Nat) (o:Oper),ops[j]?=some o→listed.getD j true=true→∀e∈o.after,Region.binds .any e=true→listed.getD e.on false=true
theorem A4q{listed:Array Bool}{i:Nat}(h:B0p ops listed)(hi:i∈Region.ready .any ops listed)(hsz:listed.size=ops.size):B0p ops (listed.setIfInBounds i true):=by
 intro j o ho hj e he hb
 by_cases hij:i=j
 ·subst hij
  obtain⟨_,o',ho',hall⟩:=mem_ready.1 hi
  rw [ho]at ho'
  cases ho'
  exact getD_set_true (hall e he hb)
 ·rw [getD_set_ne true hij]at hj
  exact getD_set_true (h j o ho hj e he hb)
theorem dep_listed{listed:Array Bool}{i:Nat}(h:B0p ops listed)(hsz:listed.size=ops.size):∀(fuel j:Nat) (o:Oper),ops[j]?=some o→(∀e∈o.after,Region.binds .any e=true→listed.getD e.on false=true)→depB ops i fuel j=true→listed.getD i false=true:=by
 intro fuel
 induction fuel with
 | zero=>intro j o _ _ hd;simp [depB]at hd
 | succ fuel ih=>
  intro j o ho hall hd
  simp only [depB,ho,List.any_eq_true]at hd
  obtain⟨e,he,hd⟩:=hd
  have he:=Array.mem_toList_iff.1 he
  simp only [Bool.and_eq_true,Bool.or_eq_true]at hd
  obtain⟨hb,hd⟩:=hd
  have hl:=hall e he hb
  rcases hd with hd|hd
  ·have:=Nat.eq_of_beq_eq_true hd
   rw [←this];exact hl
  ·have hlt:e.on<ops.size:=by
    rw [←hsz]
    apply Classical.byContradiction
    intro hn
    rw [Array.getD_eq_getD_getElem?,Array.getElem?_eq_none oM]at hl
    cases hl
   refine ih e.on ops[e.on] (by simp [hlt]) (fun e' he' hb'=>h e.on ops[e.on] (by simp [hlt]) ?_ e' he' hb') hd
   rw [Array.getD_eq_getD_getElem?]at hl⊢
   rw [Array.getElem?_eq_getElem oM]at hl⊢
   exact hl
theorem anyS_first{ms:List Nat}{v0:View}{K:Act→View→Prop}(hK:∀a u v,View.Le u v→K a u→K a v){i:Nat}{oi:Oper}{x:Value}{vq:View}(hi:ops[i]?=some oi)(hsel:∀(j:Nat) (o:Oper) cs b,ops[j]?=some o→o.op≠.select cs b)(him:ms.contains i=false) :
  ∀ (fuel:Nat) (S:List (Nat×View)) (listed:Array Bool) (a:Act) (v:View),B0p ops listed→listed.size=ops.size→
   (∀j oj,ops[j]?=some oj→j≠i→listed.getD j true=false→(∀e∈oj.after,Region.binds .any e=true→e.on≠i)→oi.apart ops oj=true)→
   i∈Region.ready .any ops listed→YieldsX P mn ops oi x a vq→vq.Le v→
   AnyS P mn ops ms v0 K fuel ((i,vq)::S) (listed.setIfInBounds i true) (a.put oi.dst x) v→AnyS P mn ops ms v0 K (fuel+1) S listed a v:=by
 have own:∀(fuel:Nat) (S:List (Nat×View)) (listed:Array Bool) (a:Act) (v:View),YieldsX P mn ops oi x a vq→vq.Le v→AnyS P mn ops ms v0 K fuel ((i,vq)::S) (listed.setIfInBounds i true) (a.put oi.dst x) v→
   OpS P mn ops i (fun a u=>Keeps ops ms v0 S i v u∧AnyS P mn ops ms v0 K fuel S (listed.setIfInBounds i true) a u) a v:=fun fuel S listed a v hy hl H=>
  yields_opS hi hy hl fun u hu=>⟨by unfold Keeps;rw [him];exact hu,A5b hK _ _ _ _ _ _ hu (B2h (fun p hp=>.inl (List.mem_cons_of_mem _ hp)) _ _ _ _ H)⟩
 intro fuel
 induction fuel with
 | zero=>
  intro S listed a v _ _ _ hr hy hl H
  refine⟨fun h=>(by rw [h]at hr;cases hr),fun j hj=>?_⟩
  by_cases hji:j=i
  ·subst hji;exact own 0 S listed a v hy hl H
  ·have:=ready_mono hj hji
   rw [H.1]at this
   cases this
 | succ fuel ih=>
  intro S listed a v hcl hsz hfree hr hy hl H
  refine⟨fun h=>(by rw [h]at hr;cases hr),fun j hj=>?_⟩
  by_cases hji:j=i
  ·subst hji;exact own _ S listed a v hy hl H
  ·have h1:=H.2 j (ready_mono hj hji)
   obtain⟨hjun,oj,hoj,hall⟩:=mem_ready.1 hj
   have hnot:∀e∈oj.after,Region.binds .any e=true→e.on≠i:=fun e he hb heq=>by
    have h1:=hall e he hb
    have h0:=(mem_ready.1 hr).1
    rw [heq]at h1
    rcases Nat.lt_or_ge i listed.size with h'|h'
    ·simp [h']at h0 h1;rw [h0]at h1;cases h1
    ·simp [Array.getElem?_eq_none h']at h1
   have hdep:depB ops i ops.size j=false:=by
    cases hd:depB ops i ops.size j with
    | false=>rfl
    | true=>
     have h1:=dep_listed hcl hsz _ j oj hoj hall hd
     have h0:=(mem_ready.1 hr).1
     rcases Nat.lt_or_ge i listed.size with h'|h'
     ·simp [h']at h0 h1;rw [h0]at h1;cases h1
     ·simp [Array.getElem?_eq_none h']at h1
   have h2:=opS_put hoj (hfree j oj hoj hji hjun hnot) (fun cs b=>hsel i oi cs b hi) (fun cs b=>hsel j oj cs b hoj) hy h1
   have hfree':∀k ok,ops[k]?=some ok→k≠i→(listed.setIfInBounds j true).getD k true=false→
     (∀e∈ok.after,Region.binds .any e=true→e.on≠i)→oi.apart ops ok=true:=fun k ok hk hki hun hno=>by
    refine hfree k ok hk hki ?_ hno
    by_cases hjk:j=k
    ·subst hjk;exact hjun
    ·rw [getD_set_ne true hjk]at hun;exact hun
   refine opS_mono (fun a' u ⟨hy',hk,hA⟩=>⟨?_,ih S (listed.setIfInBounds j true) a' u (A4q hcl hj hsz) (by simp [hsz]) hfree' (ready_mono hr (Ne.symm hji)) hy' ?_ ?_⟩) h2
   ·unfold Keeps at hk⊢
    split at hk
    ·rw [if_pos ‹_›];exact⟨hk.1,fun p hp hd=>hk.2 p (List.mem_cons_of_mem _ hp) hd⟩
    ·rw [if_neg ‹_›];exact hk
   ·unfold Keeps at hk
    split at hk
    ·exact hk.2 (i,vq) (List.mem_cons_self ..) hdep
    ·exact hl.trans hk
   ·rw [Array.setIfInBounds_comm _ _ hji]
    exact hA
theorem opS_x{Q:Exit→Act→View→Prop}{i:Nat}{rest:List Nat}{a:Act}{v:View}(hsel:∀o,ops[i]?=some o→A1t o.op=false)(h:OpS P mn ops i (fun a' u=>A4r P mn rd ops rest Q a' u) a v):A4r P mn rd ops (i::rest) Q a v:=by
 unfold OpS at h
 split at h
 ·rename_i ho
  intro Stop b k cs hb hr hq
  refine Run.ctl Y (g':=G (b.on a (.inRegion ops rest::k)) cs) (fun w=>?_) (h Stop b k cs hb hr hq)
  simp [G,stepG,stepG.exec,Frame.on,ho,Frame.finish]
 ·rename_i o ho
  split at h
  ·rename_i hw
   refine x_op ho hw (.inr (hsel o ho)) (A1y _ (fun nx u hn=>?_) (fun _ _ x=>x.elim) h)
   cases nx<;>first|exact hn.elim|exact hn|skip
   exact CallsX.mono hn fun e u' hR=>⟨u',Le.refl _,by cases e<;>first|exact hR|exact hR.elim⟩
  ·rename_i hw;exact A9a ho (by simpa using hw) h
theorem anyS_ops{Q:Exit→Act→View→Prop}{ms:List Nat}{v0:View}(hd:∀(i:Nat) o,ops[i]?=some o→A1t o.op=false):∀(fuel t:Nat) (S:List (Nat×View)) (listed:Array Bool) (a:Act) (v:View),AnyS P mn ops ms v0 (fun a u=>Q .normal a u) fuel S listed a v→
  A4r P mn rd ops (Region.linearise.go .any ops fuel t listed []) Q a v:=by
 intro fuel
 induction fuel with
 | zero=>intro t S listed a v h;simp only [Region.linearise.go];exact A6r h.2
 | succ fuel ih=>
  intro t S listed a v h
  obtain⟨h₀,h₁⟩:=h
  simp only [Region.linearise.go]
  change A4r P mn rd ops (match (Region.ready .any ops listed)[t % (Region.ready .any ops listed).length]? with
   | some i=>Region.linearise.go .any ops fuel (t / (Region.ready .any ops listed).length) (listed.setIfInBounds i true) [i]
   | none=>[].reverse) Q a v
  cases hi:(Region.ready .any ops listed)[t % (Region.ready .any ops listed).length]? with
  | none=>
   have hnil:Region.ready .any ops listed=[]:=by
    cases hr:Region.ready .any ops listed with
    | nil=>rfl
    | cons x xs=>
     rw [hr]at hi
     have hlt:t % (x::xs).length<(x::xs).length:=Nat.mod_lt _ sM
     rw [List.getElem?_eq_getElem hlt]at hi
     cases hi
   exact A6r (h₀ hnil)
  | some i=>
   simp only []
   rw [linearise_go_acc,List.reverse_singleton,List.singleton_append]
   exact opS_x (hd i) (opS_mono (fun a u hA=>ih _ S _ a u hA.2) (h₁ i (List.mem_of_getElem? hi)))
theorem x_region_any2{Q:Exit→Act→View→Prop}{ms:List Nat}{v0:View}{id:Nat}{a:Act}{v:View}(hm:P.follows .mixedOrders=true)(hd:ops.all (fun o=>!A1t o.op)=true)
  (h:AnyS P mn ops ms v0 (fun a u=>Q .normal a u) ops.size [] (Array.replicate ops.size false) a v):wpX P mn rd (.region id ops true) Q a v:=
 A7y fun t=>by
  simp only [Region.schedule,hm,Bool.true_or,if_true]
  refine anyS_ops (fun i o ho=>?_) ops.size t [] _ a _ h
  have:=Array.all_eq_true_iff_forall_mem.1 hd o (Array.mem_of_getElem? ho)
  simpa using this
end
end Go.Pal
end
