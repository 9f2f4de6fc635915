/- Part 6. -/
import Derived.Test.YtiolobmgibdfmaaGreatPae
set_option linter.all false
section
namespace Go.Pal
open Go Go.Conc View
def XR(P:Program)(mn:Who)(rd:Option Nat)(n:Nat)(ops:Array Oper)(i:Nat)(l:List Oper)(Q:Exit→St→View→Prop)(σ:St)(v:View):Prop:=
 ops.toList.drop i=l→XO P mn rd n ops (List.range' i l.length) Q σ v
section
variable{P:Program}{mn:Who}(T:Tab P){rd:Option Nat}{n:Nat}{Q:Exit→St→View→Prop}{ds:List Deferred}{ρ:Regs}{β:A0j}{v:View}{σ:St}
 {ops:Array Oper}{i:Nat}{l:List Oper}{d:Nat}{o:Oper}{op:Op}{ty:TypeId}{pos:String}{af:Array Edge}{gu:Option (Nat×Bool)}
theorem A2y(h:ops.toList.drop i=o::l):ops[i]?=some o∧ops.toList.drop (i+1)=l:=by
 constructor
 ·have:=congrArg List.head? h
  simpa [List.head?_drop]using this
 ·have:ops.toList.drop (i+1)=(ops.toList.drop i).drop 1:=by rw [List.drop_drop]
  rw [this,h];rfl
theorem A8v{id:Nat}{l:List Oper}(h:XR P mn rd n (List.toArray l) 0 l Q σ v):XC P mn rd n (.region id (List.toArray l) false) Q σ v:=
 XC_region (l:=List.range' 0 l.length) (by simp [List.range_eq_range']) (h rfl)
theorem Q_nil(h:Q .normal σ v):XR P mn rd n ops i [] Q σ v:=fun _=>XO_nil h
theorem Q_op(h:ops[i]?=some o→XOp P mn rd n ops i Q (fun σ u=>XR P mn rd n ops (i+1) l Q σ u) σ v):XR P mn rd n ops i (o::l) Q σ v:=fun hd=>by
 obtain⟨h1,h2⟩:=A2y hd
 refine XO_op (rest:=List.range' (i+1) l.length) fun a hf hb=>?_
 obtain⟨o',ho,hw,hde,hs⟩:=h h1 a hf hb
 have key:∀{a' w},KP n (fun σ u=>XR P mn rd n ops (i+1) l Q σ u) a' w→KP n (fun σ u=>XO P mn rd n ops (List.range' (i+1) l.length) Q σ u) a' w:=fun⟨σ',u,hK,hr⟩=>⟨σ',u,hK h2,hr⟩
 refine⟨o',ho,hw,hde,A2c _ (fun nx w hK=>?_) (fun x w hE=>hE) hs⟩
 cases nx with
 | value x=>exact key hK
 | skip=>exact key hK
 | defer d=>exact⟨hK.1,key hK.2⟩
 | enter f args=>exact CallsX.mono hK fun e w' hR=>⟨w',Le.refl _,by cases e<;>first|exact key hR|exact hR⟩
 | round l f tmps assign body=>
  refine⟨hK.1,?_⟩
  intro Stop c cs hc hk
  exact hK.2 Stop c cs hc fun e w' hR=>hk e w' (by cases e<;>first|exact key hR|exact hR)
 | _=>exact hK.elim
theorem Q_pure{x:Value}(hw:A0x ops gu ρ=some true)(hn:Nat.blt d n=true)(hx:A1z T ρ.val op=some x)(h:XR P mn rd n ops (i+1) l Q ⟨ds,(d,x)::ρ,β⟩ v):XR P mn rd n ops i (⟨some d,op,ty,pos,af,gu⟩::l) Q ⟨ds,ρ,β⟩ v:=fun hd=>
 R_pure T (A2y hd).1 hw hn hx (h (A2y hd).2)
theorem Q_skip(hw:A0x ops gu ρ=some false)(hn:Nat.blt d n=true)(h:XR P mn rd n ops (i+1) l Q ⟨ds,(d,undef)::ρ,β⟩ v):XR P mn rd n ops i (⟨some d,op,ty,pos,af,gu⟩::l) Q ⟨ds,ρ,β⟩ v:=fun hd=>
 R_skip (A2y hd).1 hw hn (h (A2y hd).2)
theorem A6d{op':Op}{ty':TypeId}{pos':String}{af':Array Edge}{gu':Option (Nat×Bool)}{j:Nat}{want b:Bool}{dst:Option Tmp}(hj:ops[j]?=some ⟨some d,op',ty',pos',af',gu'⟩)(hb:ρ.get d=some (.bool b))
  (h1:b=true→XR P mn rd n ops i (⟨dst,op,ty,pos,af,some (j,want)⟩::l) Q ⟨ds,(d,.bool true)::ρ,β⟩ v)(h2:b=false→XR P mn rd n ops i (⟨dst,op,ty,pos,af,some (j,want)⟩::l) Q ⟨ds,(d,.bool false)::ρ,β⟩ v):XR P mn rd n ops i (⟨dst,op,ty,pos,af,some (j,want)⟩::l) Q ⟨ds,ρ,β⟩ v:=fun hd=>
 R_guard (A2y hd).1 hj hb (fun h=>h1 h hd) (fun h=>h2 h hd)
theorem Q_box{t:TypeId}{y:Operand}{x:Value}(hw:A0x ops gu ρ=some true)(hn:Nat.blt d n=true)(hx:ρ.val y=some x)(h:∀b,XR P mn rd n ops (i+1) l Q ⟨ds,(d,.pointer (some ⟨b,0,none⟩))::ρ,(b,x.cells,t)::β⟩ v):XR P mn rd n ops i (⟨some d,.box t y,ty,pos,af,gu⟩::l) Q ⟨ds,ρ,β⟩ v:=fun hd=>
 R_box (A2y hd).1 hw hn hx (fun b=>h b (A2y hd).2)
theorem Q_alloc{t:TypeId}{z:Value}(hw:A0x ops gu ρ=some true)(hn:Nat.blt d n=true)(hz:T.zer t=some z)(h:∀b,XR P mn rd n ops (i+1) l Q ⟨ds,(d,.pointer (some ⟨b,0,none⟩))::ρ,(b,z.cells,t)::β⟩ v):XR P mn rd n ops i (⟨some d,.alloc t,ty,pos,af,gu⟩::l) Q ⟨ds,ρ,β⟩ v:=fun hd=>
 R_alloc T (A2y hd).1 hw hn hz (fun b=>h b (A2y hd).2)
theorem Q_loadN{t t':TypeId}{y:Operand}{b off:Nat}{c:Array Value}{x:Value}(hw:A0x ops gu ρ=some true)(hn:Nat.blt d n=true)(hy:ρ.val y=some (.pointer (some ⟨b,off,none⟩)))(hb:InB b c t' β)(hx:readN T t c off=some x)
  (h:XR P mn rd n ops (i+1) l Q ⟨ds,(d,x)::ρ,β⟩ v):XR P mn rd n ops i (⟨some d,.load t y,ty,pos,af,gu⟩::l) Q ⟨ds,ρ,β⟩ v:=fun hd=>
 R_loadN T (A2y hd).1 hw hn hy hb hx (h (A2y hd).2)
theorem A6v{t t':TypeId}{y:Operand}{b off:Nat}{c:Array Value}{x:Value}(hw:A0x ops gu ρ=some true)(hn:Nat.blt d n=true)(hy:ρ.val y=some (.pointer (some ⟨b,off,none⟩)))(hb:InB b c t' β)(hx:A5t T t c off=some x)
  (h:XR P mn rd n ops (i+1) l Q ⟨ds,(d,x)::ρ,β⟩ v):XR P mn rd n ops i (⟨some d,.load t y,ty,pos,af,gu⟩::l) Q ⟨ds,ρ,β⟩ v:=fun hd=>
 R_loadB T (A2y hd).1 hw hn hy hb hx (h (A2y hd).2)
theorem A2p{t e:TypeId}{y:Operand}{b off:Nat}{p:Bool}{c:Array Value}{f:Nat×Nat}{x:Value}(hw:A0x ops gu ρ=some true)(hn:Nat.blt d n=true)(hy:ρ.val y=some (.pointer (some ⟨b,off,none⟩)))(hb:v b=some (p,.cells c e f))(hx:A5t T t c off=some x)
  (h:XR P mn rd n ops (i+1) l Q ⟨ds,(d,x)::ρ,β⟩ v):XR P mn rd n ops i (⟨some d,.load t y,ty,pos,af,gu⟩::l) Q ⟨ds,ρ,β⟩ v:=fun hd=>
 R_load T (A2y hd).1 hw hn hy hb hx (h (A2y hd).2)
theorem A2t{t e:TypeId}{y z:Operand}{b off len cap sz:Nat}{jz:Int}{k:IntKind}(j:Nat)(hw:A0x ops gu ρ=some true)(hn:Nat.blt d n=true)
  (hy:ρ.val y=some (.slice (some ⟨b,off,none⟩) len cap))(hz:ρ.val z=some (.int k jz))(hj:jz=j)(ht:T.und t=some (.slice e))(hs:T.siz e=some sz)(h1:j<len)
  (h:XR P mn rd n ops (i+1) l Q ⟨ds,(d,.pointer (some ⟨b,off+j*sz,none⟩))::ρ,β⟩ v):XR P mn rd n ops i (⟨some d,.indexAddr t y z,ty,pos,af,gu⟩::l) Q ⟨ds,ρ,β⟩ v:=fun hd=>
 R_elem T j (A2y hd).1 hw hn hy hz hj ht hs h1 (h (A2y hd).2)
include T in
theorem Q_add{t t':TypeId}{y z:Operand}{a b:Int}(hw:A0x ops gu ρ=some true)(hn:Nat.blt d n=true)(hy:ρ.val y=some (.int .i64 a))(hz:ρ.val z=some (.int .i64 b))(h1:-9223372036854775808≤a+b)(h2:a+b≤9223372036854775807)
  (h:XR P mn rd n ops (i+1) l Q ⟨ds,(d,.int .i64 (a+b))::ρ,β⟩ v):XR P mn rd n ops i (⟨some d,.binOp .add t y z t',ty,pos,af,gu⟩::l) Q ⟨ds,ρ,β⟩ v:=fun hd=>
 R_add T (A2y hd).1 hw hn hy hz h1 h2 (h (A2y hd).2)
include T in
theorem Q_sub{t t':TypeId}{y z:Operand}{a b:Int}(hw:A0x ops gu ρ=some true)(hn:Nat.blt d n=true)(hy:ρ.val y=some (.int .i64 a))(hz:ρ.val z=some (.int .i64 b))(h1:-9223372036854775808≤a-b)(h2:a-b≤9223372036854775807)
  (h:XR P mn rd n ops (i+1) l Q ⟨ds,(d,.int .i64 (a-b))::ρ,β⟩ v):XR P mn rd n ops i (⟨some d,.binOp .sub t y z t',ty,pos,af,gu⟩::l) Q ⟨ds,ρ,β⟩ v:=fun hd=>
 R_sub T (A2y hd).1 hw hn hy hz h1 h2 (h (A2y hd).2)
include T in
theorem Q_bin{bo:BinOp}{t t':TypeId}{y z:Operand}{a b:Value}(x:Value)(hw:A0x ops gu ρ=some true)(hn:Nat.blt d n=true)(hy:ρ.val y=some a)(hz:ρ.val z=some b)(hx:A6l T bo t a b=some x)
  (h:XR P mn rd n ops (i+1) l Q ⟨ds,(d,x)::ρ,β⟩ v):XR P mn rd n ops i (⟨some d,.binOp bo t y z t',ty,pos,af,gu⟩::l) Q ⟨ds,ρ,β⟩ v:=
 Q_pure T hw hn (by simp only [A1z,hy,hz,hx]) h
theorem Q_storeA{t t':TypeId}{y z:Operand}{b off k:Nat}{c:Array Value}{x:Value}{β':A0j}(hw:A0x ops gu ρ=some true)
  (hy:ρ.val y=some (.pointer (some ⟨b,off,none⟩)))(hz:ρ.val z=some x)(ht:T.siz t=some k)(hk:x.cells.size=k)(hone:x.cells.toList.all A3z=true)(hb:InB b c t' β)(hoff:Nat.ble (off+k) c.size=true)(hset:SetB b (A1l c off x.cells.toList) β β')
  (h:XR P mn rd n ops (i+1) l Q ⟨ds,ρ,β'⟩ v):XR P mn rd n ops i (⟨none,.store t y z,ty,pos,af,gu⟩::l) Q ⟨ds,ρ,β⟩ v:=Q_op fun ho=>A1j T ho hw hy hz ht hk hone hb hoff hset h
theorem Q_store{t t':TypeId}{y z:Operand}{b off k:Nat}{c:Array Value}{x:Value}{β':A0j}(hw:A0x ops gu ρ=some true)
  (hy:ρ.val y=some (.pointer (some ⟨b,off,none⟩)))(hz:ρ.val z=some x)(ht:T.siz t=some k)(hk:x.cells.size=k)(hone:x.cells.toList.all A3z=true)(hb:InB b c t' β)(hoff:Nat.ble (off+k) c.size=true)(hset:SetB b (putV c.toList off x.cells.toList).toArray β β')
  (h:XR P mn rd n ops (i+1) l Q ⟨ds,ρ,β'⟩ v):XR P mn rd n ops i (⟨none,.store t y z,ty,pos,af,gu⟩::l) Q ⟨ds,ρ,β⟩ v:=Q_storeA T hw hy hz ht hk hone hb hoff (by rw [←A8g]at hset;exact hset) h
theorem B0z{K:St→View→Prop}{t t':TypeId}{y z:Operand}{b off k:Nat}{c:Array Value}{x:Value}{β':A0j}(ho:ops[i]?=some ⟨none,.store t y z,ty,pos,af,gu⟩)(hw:A0x ops gu ρ=some true)
  (hy:ρ.val y=some (.pointer (some ⟨b,off,none⟩)))(hz:ρ.val z=some x)(ht:T.siz t=some k)(hk:x.cells.size=k)(hone:x.cells.toList.all A3z=true)(hb:InB b c t' β)(hoff:Nat.ble (off+k) c.size=true)(hset:SetB b (putV c.toList off x.cells.toList).toArray β β')
  (h:K ⟨ds,ρ,β'⟩ v):XOp P mn rd n ops i Q K ⟨ds,ρ,β⟩ v:=A1j T ho hw hy hz ht hk hone hb hoff (by rw [←A8g]at hset;exact hset) h
theorem C_lex'{id:Nat}{l:List Oper}(hm:P.follows .mixedOrders=true)(hq:l.all (fun o=>quietOp o.op)=true)(hB:(Region.lexB .any (List.toArray l)&&(List.toArray l).all (fun o=>!A3g o.op))=true)(h:XL P mn n (List.toArray l) Q l ⟨ds,ρ,β⟩ v) :
  XC P mn rd n (.region id (List.toArray l) true) Q ⟨ds,ρ,β⟩ v:=C_lex hm rfl hq hB h
def RetB(R:Value→A0j→Prop):End→A0j→Prop
 | .ret x,β=>R x β
 | .pan _,_=>False
theorem A0i{K:St→View→Prop}{f:Operand}{args:Array Operand}{ats:Array TypeId}{k:FuncId}{first captured:Array Value}{xs ys:List Value}{R:Value→A0j→Prop}(bin rest:A0j)(ho:ops[i]?=some ⟨some d,.call {callee:=.value f,args:=args,argTypes:=ats },ty,pos,af,gu⟩)(hk:A0n P k)(hw:A0x ops gu ρ=some true)(hn:Nat.blt d n=true)
  (hf:ρ.val f=some (.func (.func k) first captured))(hxs:A3q ρ.val args.toList=some xs)(hys:first.toList++(xs++captured.toList)=ys)
  (hsplit:∀p,cnt p β=cnt p (bin++rest))(hc:CallsB P mn k ys.toArray (RetB R) bin (v.union (A0e rest)))
  (hr:∀x β',R x β'→K ⟨ds,(d,x)::ρ,β'++rest⟩ v):XOp P mn rd n ops i Q K ⟨ds,ρ,β⟩ v:=
 A7s (R:=RetB R) bin rest ho hw hn hf hxs hk hsplit (by
  have:first++xs.toArray++captured=ys.toArray:=by rw [←hys];apply Array.ext';simp
  rw [this];exact hc) (fun x β' h=>hr x β' h) (fun ch β' h=>h.elim)
end
theorem flat_get{k:Nat}:∀(xs:List (List Value)) (j i:Nat),(∀x∈xs,x.length=k)→i<k→xs.flatten[j*k+i]?=(xs[j]?).bind (·[i]?)
 | [],j,i,_,_=>by simp
 | x::xs,0,i,h,hi=>by
  have hx:=h x (List.mem_cons_self ..)
  simp only [Nat.zero_mul,Nat.zero_add,List.flatten_cons,List.getElem?_cons_zero,Option.bind_some]
  rw [List.getElem?_append_left oM]
 | x::xs,j+1,i,h,hi=>by
  have hx:=h x (List.mem_cons_self ..)
  have ih:=flat_get xs j i (fun y hy=>h y (List.mem_cons_of_mem _ hy)) hi
  simp only [List.flatten_cons,List.getElem?_cons_succ]
  rw [List.getElem?_append_right (by rw [hx,Nat.add_mul];omega),←ih]
  congr 1
  rw [hx,Nat.add_mul];omega
theorem A8n{k:Nat}:∀(xs:List (List Value)),(∀x∈xs,x.length=k)→xs.flatten.length=xs.length*k
 | [],_=>by simp
 | x::xs,h=>by
  simp only [List.flatten_cons,List.length_append,List.length_cons,h x (List.mem_cons_self ..),A8n xs (fun y hy=>h y (List.mem_cons_of_mem _ hy)),Nat.add_mul]
  omega
theorem RowAt.recs{v:View}{a:Option Addr}{k:Nat}{xs:List (List Value)}(h:RowAt v a xs.flatten)(hk:∀x∈xs,x.length=k)(hk0:0<k){i:Nat}(hi:i<xs.length) :
  ∃b off p c e f,a=some ⟨b,off,none⟩∧v b=some (p,.cells c e f)∧∀j (hj:j<xs.length),off+j*k+k≤c.size∧c.extract (off+j*k) (off+j*k+k)=xs[j].toArray:=by
 have hlen:=A8n xs hk
 rcases h with h|⟨b,off,p,c,e,f,h1,h2,h3,h4⟩
 ·rw [h]at hlen
  simp only [List.length_nil]at hlen
  have:0<xs.length*k:=Nat.mul_pos oM hk0
  omega
 ·refine⟨b,off,p,c,e,f,h1,h2,fun j hj=>?_⟩
  have hle:j*k+k≤xs.length*k:=by
   have:(j+1)*k≤xs.length*k:=Nat.mul_le_mul_right _ hj
   rw [Nat.add_mul]at this;omega
  refine⟨oM,?_⟩
  have hx:=hk xs[j] (List.getElem_mem _)
  apply Array.ext_getElem?
  intro q
  simp only [Array.getElem?_extract,List.getElem?_toArray]
  by_cases hq:q<k
  ·rw [if_pos oM]
   have hg:=flat_get xs j q hk hq
   rw [List.getElem?_eq_getElem hj,Option.bind_some]at hg
   rw [List.getElem?_eq_getElem (show q<xs[j].length by omega)]at hg⊢
   rw [Nat.add_assoc]
   exact h4 _ _ hg
  ·rw [if_neg oM,List.getElem?_eq_none oM]
theorem RowAt.get{v:View}{a:Option Addr}{α:Type}{f:α→Value}{xs:List α}(h:RowAt v a (xs.map f)){i:Nat}(hi:i<xs.length) :
  ∃b off p c e fr,a=some ⟨b,off,none⟩∧v b=some (p,.cells c e fr)∧∀j (hj:j<xs.length),c[off+j]?=some (f xs[j]):=by
 rcases h with h|⟨b,off,p,c,e,fr,h1,h2,h3,h4⟩
 ·have:xs=[]:=by simpa using h
  subst this;simp at hi
 ·exact⟨b,off,p,c,e,fr,h1,h2,fun j hj=>h4 j _ (by simp [hj])⟩
section
variable{P:Program}{mn:Who}(T:Tab P){rd:Option Nat}{n:Nat}{Q:Exit→St→View→Prop}{ds:List Deferred}{ρ:Regs}{β:A0j}{v:View}{σ:St}
 {ops:Array Oper}{i:Nat}{l:List Oper}{d:Nat}{o:Oper}{op:Op}{ty:TypeId}{pos:String}{af:Array Edge}{gu:Option (Nat×Bool)}{K:St→View→Prop}
theorem A2d{t:TypeId}{td:TypeDesc}{c:Array Value}{off k:Nat}{x:List Value}(h1:T.und t=some td)(h2:T.siz t=some k)(h3:aggOf td=true)(h:off+k≤c.size∧c.extract off (off+k)=x.toArray):A5t T t c off=some (.agg x.toArray):=by
 unfold A5t;rw [h1,h2];simp only [h3,if_true,h.1,h.2]
end
def methB(P:Program)(t:TypeId)(name:String)(f:FuncId):Bool:=
 match P.info? t with
 | some i=>match i.methods.find? (·.name==name)with
  | some m=>m.path.isEmpty&&(match m.func with|some (g,false)=>Nat.beq g f|_=>false)
  | none=>false
 | none=>false
def plainD:TypeDesc→Bool
 | .pointer _=>false
 | _=>true
theorem RowAt.own{v:View}{β seg:A0j}{e:TypeId}{k:Nat}{a:Option Addr}{len cap:Nat}{cs:List Value}(hb:Bok β v)(hs:Subm seg β)(h:OwnS e k seg a len cap cs):RowAt (v.union (A0e β)) a cs:=
 h.row.le fun j x hj=>A1u hb.disj _ _ ((A8q hs hb.nodup).2 _ _ hj)
section
variable{P:Program}{mn:Who}(T:Tab P){rd:Option Nat}{n:Nat}{Q:Exit→St→View→Prop}{ds:List Deferred}{ρ:Regs}{β:A0j}{v:View}{σ:St}
 {ops:Array Oper}{i:Nat}{l:List Oper}{d:Nat}{o:Oper}{op:Op}{ty:TypeId}{pos:String}{af:Array Edge}{gu:Option (Nat×Bool)}{K:St→View→Prop}
theorem sx_method{KK:FuncId×Value→View→Prop}{E:Value→View→Prop}{w:View}{t:TypeId}{td:TypeDesc}{x:Value}{name:String}{f:FuncId}{fuel:Nat}(hm:methB P t name f=true)(ht:T.und t=some td)(hp:plainD td=true)(hk:KK (f,x) w) :
  SemX P (method (fuel+1) t x name) KK E w:=by
 unfold methB at hm
 split at hm
 ·rename_i inf hi
  split at hm
  ·rename_i m hfind
   simp only [Bool.and_eq_true]at hm
   obtain⟨hpath,hf⟩:=hm
   have hpath:m.path.toList=[]:=by simpa using hpath
   unfold method
   rw [A0d,A7l hi,hfind]
   simp only [A0d,hpath,follow,A0m]
   split at hf
   ·rename_i g hg
    have:=Nat.eq_of_beq_eq_true hf
    subst this
    simp only [hg,A0d]
    unfold receiverAt
    simp only [A0d,A1r T ht]
    cases td<;>first|exact hk|cases hp
   ·cases hf
  ·cases hm
 ·cases hm
theorem A0w{β1 β2:A0j}(hp:∀p,cnt p β=cnt p (β1++β2))(h:Bok β1 v→XR P mn rd n ops i l Q ⟨ds,ρ,β2⟩ (v.union (A0e β1))):XR P mn rd n ops i l Q ⟨ds,ρ,β⟩ v:=fun hd=>
 XO_retire hp fun hb=>h hb hd
theorem lit_box{b:Nat}{c:Array Value}{e:TypeId}{k len cap:Nat}{cs:List Value}(h:OwnS e k [(b,c,e)] (some ⟨b,0,none⟩) len cap cs):c.size=cap*k∧∀(i:Nat) (x:Value),cs[i]?=some x→c[i]?=some x:=by
 generalize hs:[(b,c,e)]=seg at h
 generalize ha:some (⟨b,0,none⟩:Addr)=a at h
 cases h with
 | nil=>cases hs
 | box h1 h2 h3 h4=>cases hs;exact⟨h3,h4⟩
include T in
theorem S_add{S:List Rec}{done ms todo:List Nat}{v0:View}{t t':TypeId}{y z:Operand}{a b:Int}(ho:ops[i]?=some ⟨some d,.binOp .add t y z t',ty,pos,af,gu⟩)(hw:A0x ops gu ρ=some true)(hn:Nat.blt d n=true)(hB:B1v ops ms done i=true)(hy:ρ.val y=some (.int .i64 a))(hz:ρ.val z=some (.int .i64 b))
  (h1:-9223372036854775808≤a+b)(h2:a+b≤9223372036854775807)(h:XS P mn n ops ms v0 Q todo S (i::done) ⟨ds,(d,.int .i64 (a+b))::ρ,β⟩ v):XS P mn n ops ms v0 Q (i::todo) S done ⟨ds,ρ,β⟩ v:=by
 refine S_pure T ho hw hn hB ?_ h
 simp only [A1z,hy,hz,A6l,B0t,if_true,A4k h1 h2]
include T in
theorem S_sub{S:List Rec}{done ms todo:List Nat}{v0:View}{t t':TypeId}{y z:Operand}{a b:Int}(ho:ops[i]?=some ⟨some d,.binOp .sub t y z t',ty,pos,af,gu⟩)(hw:A0x ops gu ρ=some true)(hn:Nat.blt d n=true)(hB:B1v ops ms done i=true)(hy:ρ.val y=some (.int .i64 a))(hz:ρ.val z=some (.int .i64 b))
  (h1:-9223372036854775808≤a-b)(h2:a-b≤9223372036854775807)(h:XS P mn n ops ms v0 Q todo S (i::done) ⟨ds,(d,.int .i64 (a-b))::ρ,β⟩ v):XS P mn n ops ms v0 Q (i::todo) S done ⟨ds,ρ,β⟩ v:=by
 refine S_pure T ho hw hn hB ?_ h
 simp only [A1z,hy,hz,A6l,B0t,if_true,A4k h1 h2]
end
structure KeyT(P:Program)(t:TypeId){κ:Type}[DecidableEq κ](val:κ→Value):Prop where
 eq:∀(a b:κ) {K:Bool→View→Prop} {E:Value→View→Prop} {v:View},K (decide (a=b)) v→SemX P (Op.equal t (val a) (val b)) K E v
 chk:∀(e:Bool) (a:κ) {K:Unit→View→Prop} {E:Value→View→Prop} {v:View},K () v→SemX P (Instr.checkKey e 10000 t (val a)) K E v
 now:∃d,P.underlying t=some d∧((∀a b,Instr.sameNow d (val a) (val b)=none)∨(∀a b,Instr.sameNow d (val a) (val b)=some (decide (a=b))))
 bits:∀a,Instr.sameBits 10000 (val a) (val a)=true
abbrev Ents(κ:Type):=List (κ×Value×Nat)
def A3e{κ:Type}(val:κ→Value)(e:κ×Value×Nat):MapEntry:={key:=val e.1,val:=e.2.1,born:=e.2.2 }
def mapO{κ:Type}(val:κ→Value)(l:Ents κ)(ck:Nat):Obj:=.map (l.map (A3e val)).toArray ck
def A3l{κ:Type}[DecidableEq κ](k:κ):Ents κ→Nat→Option (Nat×Value)
 | [],_=>none
 | e::es,i=>if k=e.1 then some (i,e.2.1)else A3l k es (i+1)
section
variable{κ:Type}[DecidableEq κ]
theorem findE_none{k:κ}:∀{l:Ents κ} {i:Nat},(∀e∈l,e.1≠k)→A3l k l i=none
 | [],i,_=>rfl
 | e::es,i,h=>by
  unfold A3l
  rw [if_neg (fun h'=>h e (List.mem_cons_self ..) h'.symm)]
  exact findE_none fun e' he=>h e' (List.mem_cons_of_mem _ he)
theorem A8o{k:κ}:∀{l:Ents κ} {i j:Nat} {x:Value},A3l k l i=some (j,x)→i≤j∧∃b,l[j-i]?=some (k,x,b)
 | [],i,j,x,h=>by cases h
 | e::es,i,j,x,h=>by
  unfold A3l at h
  split at h
  ·rename_i hk
   cases h
   exact⟨Nat.le_refl _,e.2.2,by simp [hk]⟩
  ·obtain⟨h1,b,h2⟩:=A8o h
   refine⟨oM,b,?_⟩
   rw [show j-i=(j-(i+1))+1 by omega]
   simpa using h2
variable{P:Program}{t:TypeId}{val:κ→Value}{E:Value→View→Prop}{v:View}
theorem A9y(hk:KeyT P t val){k:κ}{K:Option (Nat×Value)→View→Prop}:∀(l:Ents κ) (i:Nat),K (A3l k l i) v→SemX P (Instr.findAsking t (val k) (l.map (A3e val)) i) K E v
 | [],i,h=>h
 | e::es,i,h=>by
  show SemX P (Instr.findAsking t (val k) (A3e val e::es.map (A3e val)) i) K E v
  unfold Instr.findAsking
  rw [A0d]
  refine hk.eq k e.1 ?_
  unfold A3l at h
  by_cases hke:k=e.1
  ·rw [if_pos hke]at h
   simp only [hke,decide_true,if_true]
   exact h
  ·rw [if_neg hke]at h
   simp only [hke,decide_false,Bool.false_eq_true,if_false]
   exact A9y hk es (i+1) h
theorem A8i(hk:KeyT P t val){k:κ}{K:Option (Nat×Value)→View→Prop}{l:Ents κ}(h:K (A3l k l 0) v):SemX P (Instr.findKey t (val k) (l.map (A3e val))) K E v:=by
 obtain⟨d,hd,hn⟩:=hk.now
 unfold Instr.findKey
 rw [A0d,A7k hd]
 rcases hn with hn|hn
 ·cases l with
  | nil=>exact h
  | cons e es=>
   have:Instr.findNow d (val k) ((e::es).map (A3e val)) 0=none:=by
    show Instr.findNow d (val k) (A3e val e::es.map (A3e val)) 0=none
    unfold Instr.findNow
    rw [show(A3e val e).key=val e.1 from Z,hn]
   simp only [this]
   exact A9y hk _ 0 h
 ·have:∀(l:Ents κ) (i:Nat),Instr.findNow d (val k) (l.map (A3e val)) i=some (A3l k l i):=by
   intro l
   induction l with
   | nil=>intro i;rfl
   | cons e es ih=>
    intro i
    show Instr.findNow d (val k) (A3e val e::es.map (A3e val)) i=_
    unfold Instr.findNow A3l
    rw [show(A3e val e).key=val e.1 from Z,hn,ih]
    by_cases hke:k=e.1
    ·simp [hke,A3e]
    ·simp [hke]
  simp only [this]
  exact h
theorem B0o{α β:Type}(f:α→β):∀(l:List α) (i:Nat),(l.map f).eraseIdx i=(l.eraseIdx i).map f
 | [],_=>by simp
 | a::l,0=>by simp
 | a::l,i+1=>by simp [B0o f l i]
theorem A4p{K:Obj→View→Prop}{r:Nat}{p:Bool}{o:Obj}(hv:v r=some (p,o))(h1:B1l o=false)(h2:o.isChan=false)(h:K o v):SemX P (getObj r) K E v:=⟨p,o,hv,h1,h2,h⟩
theorem A4o{K:Unit→View→Prop}{r:Nat}{o o':Obj}(hv:v r=some (true,o'))(h1:B1l o'=false)(h2:o.isChan=false)(h:K () (v.set r true o)):SemX P (setObj r o) K E v:=⟨o',hv,h1,h2,h⟩
variable(T:Tab P)
theorem sx_mapNew{mt el:TypeId}(hm:T.und mt=some (.map t el))(hk:KeyT P t val){k:κ}{x:Value}{r ck:Nat}{l:Ents κ}{K:Unit→View→Prop}(hv:v r=some (true,mapO val l ck))(hf:A3l k l 0=none)
  (h:K () (v.set r true (mapO val (l++[(k,x,ck)]) (ck+1)))):SemX P (Instr.mapUpdate mt (.map (some r)) (val k) x) K E v:=by
 unfold Instr.mapUpdate
 rw [A0d,A1r T hm]
 rw [A0d]
 refine A4p hv Z Z ?_
 simp only [mapO,A0d]
 refine hk.chk false k ?_
 refine A8i hk ?_
 simp only [hf]
 refine A4o hv Z Z ?_
 have:(List.map (A3e val) l).toArray.push {key:=val k,val:=x,born:=ck }=(List.map (A3e val) (l++[(k,x,ck)])).toArray:=by simp [A3e]
 rw [this]
 exact h
theorem sx_mapOld{mt el:TypeId}(hm:T.und mt=some (.map t el))(hk:KeyT P t val){k:κ}{x y:Value}{r ck j b:Nat}{l:Ents κ}{K:Unit→View→Prop}(hv:v r=some (true,mapO val l ck))(hf:A3l k l 0=some (j,y))(hb:l[j]?=some (k,y,b))
  (h:K () (v.set r true (mapO val (l.set j (k,x,b)) ck))):SemX P (Instr.mapUpdate mt (.map (some r)) (val k) x) K E v:=by
 unfold Instr.mapUpdate
 rw [A0d,A1r T hm]
 rw [A0d]
 refine A4p hv Z Z ?_
 simp only [mapO,A0d]
 refine hk.chk false k ?_
 refine A8i hk ?_
 simp only [hf]
 have hkey:(((List.map (A3e val) l).toArray[j]?).map (·.key)).getD (val k)=val k:=by simp [hb,A3e]
 rw [A0d]
 unfold Instr.keyThatStays
 rw [hkey,hk.bits k,if_pos rfl]
 refine A4o hv Z Z ?_
 have hj:j<l.length:=(List.getElem?_eq_some_iff.1 hb).1
 have:(List.map (A3e val) l).toArray.modify j (fun e=>{e with key:=val k,val:=x })=(List.map (A3e val) (l.set j (k,x,b))).toArray:=by
  apply Array.ext'
  simp only [Array.toList_modify]
  apply List.ext_getElem?
  intro i
  rw [List.getElem?_modify,List.getElem?_map,List.getElem?_map,List.getElem?_set]
  by_cases hij:j=i
  ·subst hij
   simp only [if_true,hb,hj]
   rfl
  ·simp [hij]
 rw [this]
 exact h
theorem sx_lookup{mt el:TypeId}(hm:T.und mt=some (.map t el))(hk:KeyT P t val){k:κ}{z:Value}(hz:T.zer el=some z){r ck:Nat}{p ok:Bool}{l:Ents κ}{K:Value→View→Prop}(hv:v r=some (p,mapO val l ck))
  (h:K (match A3l k l 0 with|some (_,y)=>(if ok then .tuple #[y,.bool true]else y)|none=>(if ok then .tuple #[z,.bool false]else z)) v):SemX P (Instr.lookup mt (.map (some r)) (val k) ok) K E v:=by
 unfold Instr.lookup
 rw [A0d,A1r T hm]
 rw [A0d]
 refine A4p hv Z Z ?_
 simp only [mapO,A0d,A0m]
 refine hk.chk _ k ?_
 refine A8i hk ?_
 cases hf:A3l k l 0 with
 | none=>
  simp only [hf]at h
  simp only [A0d,A9x T hz]
  cases ok<;>exact h
 | some q=>
  obtain⟨j,y⟩:=q
  simp only [hf]at h
  cases ok<;>exact h
theorem sx_delete{mt el ty:TypeId}(hm:T.und mt=some (.map t el))(hk:KeyT P t val){k:κ}{r ck:Nat}{l:Ents κ}{ats:Array TypeId}(hat:ats[0]?=some mt){K:Value→View→Prop}(hv:v r=some (true,mapO val l ck))
  (h:K (.tuple #[]) (v.set r true (mapO val (match A3l k l 0 with|some (j,_)=>l.eraseIdx j|none=>l) ck))):SemX P (Builtin.delete_ ats ty #[.map (some r),val k]) K E v:=by
 unfold Builtin.delete_
 simp only [hat,show(#[.map (some r),val k]:Array Value)[0]?=some (.map (some r))from Z,show(#[.map (some r),val k]:Array Value)[1]?=some (val k)from rfl]
 rw [A0d,A1r T hm]
 rw [A0d]
 refine A4p hv Z Z ?_
 simp only [mapO,A0d]
 refine hk.chk _ k ?_
 refine A8i hk ?_
 cases hf:A3l k l 0 with
 | none=>
  simp only [hf]at h
  rw [A0d]
  refine A4o hv Z Z ?_
  exact h
 | some q=>
  obtain⟨j,y⟩:=q
  simp only [hf]at h
  rw [A0d]
  refine A4o hv Z Z ?_
  obtain⟨_,b,hb⟩:=A8o hf
  have hj:j<l.length:=(List.getElem?_eq_some_iff.1 hb).1
  have:(List.map (A3e val) l).toArray.eraseIdxIfInBounds j=(List.map (A3e val) (l.eraseIdx j)).toArray:=by
   apply Array.ext'
   rw [Array.eraseIdxIfInBounds,dif_pos (by simpa using hj),Array.toList_eraseIdx]
   simp [B0o]
  rw [this]
  exact h
omit [DecidableEq κ]in
theorem sx_makeMap{mt:TypeId}{K:Value→View→Prop}(h:∀r,v r=none→K (.map (some r)) (v.set r true (mapO val [] 0))):SemX P (Instr.makeMap mt none) K E v:=by
 unfold Instr.makeMap
 simp only [A0d]
 intro r hr
 exact h r hr
omit [DecidableEq κ]in
theorem sx_range{mt el:TypeId}(hm:T.und mt=some (.map t el)){r ck:Nat}{p:Bool}{l:Ents κ}{K:Value→View→Prop}(hv:v r=some (p,mapO val l ck))
  (h:∀it,v it=none→K (.pointer (some ⟨it,0,none⟩)) (v.set it true (.mapIter (some r) ck #[] ck))):SemX P (Instr.range mt (.map (some r))) K E v:=by
 unfold Instr.range
 simp only [A0d,A1r T hm]
 refine A4p hv Z Z ?_
 simp only [mapO,A0d,A0m]
 intro it hit
 exact h it hit
end
section
variable{κ:Type}{P:Program}{val:κ→Value}{E:Value→View→Prop}{v:View}
theorem sx_next{ty:TypeId}{it r ck:Nat}{p:Bool}{l:Ents κ}{seen:Array Nat}{K:Value→View→Prop}(hi:v it=some (true,.mapIter (some r) ck seen ck))(hv:v r=some (p,mapO val l ck))(hb:∀e∈l,e.2.2<ck)
  (h1:∀e∈l,seen.contains e.2.2=false→K (.tuple #[.bool true,val e.1,e.2.1]) (v.set it true (.mapIter (some r) ck (seen.push e.2.2) ck)))
  (h2:(∀e∈l,seen.contains e.2.2=true)→K (.tuple #[.bool false]) v):SemX P (Instr.next (.pointer (some ⟨it,0,none⟩)) false ty) K E v:=by
 unfold Instr.next
 simp only [A0d]
 refine A4p hi Z Z ?_
 simp only [A0d]
 refine A4p hv Z Z ?_
 simp only [mapO]
 have hall:((!seen.isEmpty && !(List.map (A3e val) l).toArray.isEmpty&&(List.map (A3e val) l).toArray.all (fun x=>decide (x.born≥ck)))=true)↔False:=by
  refine⟨fun h=>?_,False.elim⟩
  simp only [Bool.and_eq_true]at h
  obtain⟨⟨_,hne⟩,ha⟩:=h
  cases l with
  | nil=>simp at hne
  | cons e es=>
   have:=hb e (List.mem_cons_self ..)
   simp only [List.all_toArray,List.map_cons,List.all_cons,Bool.and_eq_true,decide_eq_true_eq]at ha
   have:=ha.1
   simp only [A3e]at this
   omega
 rw [if_neg (fun h=>hall.1 h)]
 obtain⟨m,hm⟩:∃m,m=l.filter (fun e=>!seen.contains e.2.2):=⟨_,rfl⟩
 have hleft:(List.map (A3e val) l).toArray.filter (fun e=>!seen.contains e.born)=(m.map (A3e val)).toArray:=by
  apply Array.ext'
  rw [Array.toList_filter,hm]
  simp only [List.filter_map]
  rfl
 have hmb:∀e∈m,e∈l∧seen.contains e.2.2=false:=by
  intro e he
  rw [hm,List.mem_filter]at he
  exact⟨he.1,by simpa using he.2⟩
 have hold:(m.map (A3e val)).toArray.filter (fun x=>decide (x.born<ck))=(m.map (A3e val)).toArray:=by
  apply Array.ext'
  rw [Array.toList_filter,List.filter_eq_self]
  intro x hx
  simp only [List.mem_map]at hx
  obtain⟨e,he,rfl⟩:=hx
  exact decide_eq_true (hb e (hmb e he).1)
 have hnew:(m.map (A3e val)).toArray.filter (fun x=>decide (x.born≥ck))=#[]:=by
  apply Array.ext'
  rw [Array.toList_filter,List.filter_eq_nil_iff.2]
  intro x hx
  simp only [List.mem_map]at hx
  obtain⟨e,he,rfl⟩:=hx
  have:=hb e (hmb e he).1
  simp only [A3e,ge_iff_le,decide_eq_true_eq]
  omega
 rw [hleft,hold,hnew]
 cases m with
 | nil=>
  have h2':=h2 fun e he=>by
   cases hc:seen.contains e.2.2 with
   | true=>rfl
   | false=>exact absurd (hm ▸ List.mem_filter.2 ⟨he,by rw [hc];rfl⟩:e∈([]:Ents κ)) (List.not_mem_nil)
  simp only [List.map_nil,List.isEmpty_toArray,List.isEmpty_nil,if_true,Array.append_empty]
  simp [choose,SemX,Question.forced]
  exact h2'
 | cons e es=>
  have hne:((e::es).map (A3e val)).toArray.isEmpty=false:=by simp
  rw [hne]
  simp only [Bool.false_eq_true,if_false,Array.append_empty]
  have hsz:((#[]:Array (Option MapEntry))++((e::es).map (A3e val)).toArray.map some).size=(e::es).length:=by simp
  rw [hsz]
  have key:∀(why:String) (i:Nat),i<(e::es).length→SemX P (match ((#[]:Array (Option MapEntry))++((e::es).map (A3e val)).toArray.map some)[i]? with
    | some (some e)=>do
     setObj it (.mapIter (some r) ck (seen.push e.born) ck)
     pure (.tuple #[.bool true,e.key,e.val])
    | some none=>pure (.tuple #[.bool false])
    | none=>stuck why) K E v:=by
   intro why i hi'
   have hg:((#[]:Array (Option MapEntry))++((e::es).map (A3e val)).toArray.map some)[i]?=some (some (A3e val (e::es)[i])):=by
    have h3:((#[]:Array (Option MapEntry))++((e::es).map (A3e val)).toArray.map some)=(((e::es).map (A3e val)).map some).toArray:=by simp
    rw [h3,List.getElem?_toArray,List.getElem?_map,List.getElem?_map,List.getElem?_eq_getElem hi']
    rfl
   rw [hg]
   simp only [A0d]
   have:=hmb _ (List.getElem_mem hi')
   exact A4o hi Z Z (h1 _ this.1 this.2)
  unfold choose
  show(if(Question.mapNext (e::es).length).forced=true then _ else _)
  split
  ·exact key _ 0 sM
  ·intro t
   exact key _ _ (Nat.mod_lt _ sM)
theorem sx_entry{it r ck b:Nat}{p q:Bool}{l:Ents κ}{seen:Array Nat}{k:κ}{x:Value}{K:Value→View→Prop}(hi:v it=some (q,.mapIter (some r) ck (seen.push b) ck))(hv:v r=some (p,mapO val l ck))
  (hf:(l.find? (fun e=>e.2.2==b))=some (k,x,b))(h:K (.tuple #[val k,x]) v):SemX P (Instr.entry (.pointer (some ⟨it,0,none⟩))) K E v:=by
 unfold Instr.entry
 simp only [A0d]
 refine A4p hi Z Z ?_
 simp only [Array.back?_push,A0d]
 refine A4p hv Z Z ?_
 simp only [mapO,bne_self_eq_false,Bool.false_eq_true,if_false]
 have:(List.map (A3e val) l).toArray.find? (fun e=>e.born==b)=some (A3e val (k,x,b)):=by
  simp only [List.find?_toArray,List.find?_map]
  rw [show((fun e=>e.born==b) ∘ A3e val)=(fun e:κ×Value×Nat=>e.2.2==b)from Z,hf]
  rfl
 rw [this]
 exact h
end
section
variable{P:Program}{mn:Who}(T:Tab P){rd:Option Nat}{n:Nat}{Q:Exit→St→View→Prop}{ds:List Deferred}{ρ:Regs}{β:A0j}{v:View}{K:St→View→Prop}
 {ops:Array Oper}{i:Nat}{d:Nat}{ty:TypeId}{pos:String}{af:Array Edge}{gu:Option (Nat×Bool)}{κ:Type}[DecidableEq κ]{t:TypeId}{val:κ→Value}
theorem A4e{r:Nat}{p:Bool}{o:Obj}(hb:Bok β v)(hv:v r=some (p,o)):A0e β r=none:=by
 rcases hb.disj r with h|h
 ·rw [hv]at h;cases h
 ·exact h
theorem A1p{r:Nat}{x:Bool×Obj}(hv:v r=some x):(v.union (A0e β)) r=some x:=by unfold View.union;rw [hv]
theorem A4r{r:Nat}{p:Bool}{o:Obj}(hb:Bok β v)(hr:A0e β r=none):Bok β (v.set r p o)∧(v.union (A0e β)).set r p o=(v.set r p o).union (A0e β):=by
 refine⟨⟨hb.nodup,B2c hb.disj hr⟩,A7a⟩
omit [DecidableEq κ]in
theorem A_makeMap{mt:TypeId}(val:κ→Value)(ho:ops[i]?=some ⟨some d,.makeMap mt none,ty,pos,af,gu⟩)(hw:A0x ops gu ρ=some true)(hn:Nat.blt d n=true)
  (h:∀r,v r=none→K ⟨ds,(d,.map (some r))::ρ,β⟩ (v.set r true (mapO val [] 0))):XOp P mn rd n ops i Q K ⟨ds,ρ,β⟩ v:=by
 refine A2x ho (A0p hw) (.inr Z) hn fun ev hev hbk=>?_
 simp only [execOp,A0d,Option.map_none]
 refine sx_makeMap (val:=val) fun r hr=>?_
 have hr':v r=none∧A0e β r=none:=by
  unfold View.union at hr
  cases e:v r with
  | none=>rw [e]at hr;exact⟨rfl,hr⟩
  | some x=>rw [e]at hr;cases hr
 obtain⟨h1,h2⟩:=A4r (p:=true) (o:=mapO val [] 0) hbk hr'.2
 exact⟨β,_,⟨h1,h2 ▸ Le.refl _⟩,h r hr'.1⟩
theorem A_mapNew{mt el:TypeId}{x y z:Operand}{k:κ}{xv:Value}{r ck:Nat}{l:Ents κ}(hk:KeyT P t val)(ho:ops[i]?=some ⟨none,.mapUpdate mt x y z,ty,pos,af,gu⟩)(hw:A0x ops gu ρ=some true)(hx:ρ.val x=some (.map (some r)))(hy:ρ.val y=some (val k))(hz:ρ.val z=some xv)
  (hm:T.und mt=some (.map t el))(hv:v r=some (true,mapO val l ck))(hf:A3l k l 0=none)
  (h:K ⟨ds,ρ,β⟩ (v.set r true (mapO val (l++[(k,xv,ck)]) (ck+1)))):XOp P mn rd n ops i Q K ⟨ds,ρ,β⟩ v:=by
 refine A2x ho (A0p hw) (.inr Z) Z fun ev hev hbk=>?_
 simp only [execOp,A0d,hev _ _ hx,hev _ _ hy,hev _ _ hz]
 refine sx_mapNew T hm hk (A1p hv) hf ?_
 obtain⟨h1,h2⟩:=A4r (p:=true) (o:=mapO val (l++[(k,xv,ck)]) (ck+1)) hbk (A4e hbk hv)
 exact⟨β,_,⟨h1,h2 ▸ Le.refl _⟩,h⟩
theorem A_mapOld{mt el:TypeId}{x y z:Operand}{k:κ}{xv yv:Value}{r ck j b:Nat}{l:Ents κ}(hk:KeyT P t val)(ho:ops[i]?=some ⟨none,.mapUpdate mt x y z,ty,pos,af,gu⟩)(hw:A0x ops gu ρ=some true)(hx:ρ.val x=some (.map (some r)))(hy:ρ.val y=some (val k))(hz:ρ.val z=some xv)
  (hm:T.und mt=some (.map t el))(hv:v r=some (true,mapO val l ck))(hf:A3l k l 0=some (j,yv))(hb:l[j]?=some (k,yv,b))
  (h:K ⟨ds,ρ,β⟩ (v.set r true (mapO val (l.set j (k,xv,b)) ck))):XOp P mn rd n ops i Q K ⟨ds,ρ,β⟩ v:=by
 refine A2x ho (A0p hw) (.inr Z) Z fun ev hev hbk=>?_
 simp only [execOp,A0d,hev _ _ hx,hev _ _ hy,hev _ _ hz]
 refine sx_mapOld T hm hk (A1p hv) hf hb ?_
 obtain⟨h1,h2⟩:=A4r (p:=true) (o:=mapO val (l.set j (k,xv,b)) ck) hbk (A4e hbk hv)
 exact⟨β,_,⟨h1,h2 ▸ Le.refl _⟩,h⟩
theorem A_lookup{mt el:TypeId}{x y:Operand}{k:κ}{zv:Value}{r ck:Nat}{p ok:Bool}{l:Ents κ}(hk:KeyT P t val)(ho:ops[i]?=some ⟨some d,.lookup mt x y ok,ty,pos,af,gu⟩)(hw:A0x ops gu ρ=some true)(hn:Nat.blt d n=true)(hx:ρ.val x=some (.map (some r)))(hy:ρ.val y=some (val k))
  (hm:T.und mt=some (.map t el))(hzz:T.zer el=some zv)(hv:v r=some (p,mapO val l ck))
  (h:K ⟨ds,(d,match A3l k l 0 with|some (_,y)=>(if ok then .tuple #[y,.bool true]else y)|none=>(if ok then .tuple #[zv,.bool false]else zv))::ρ,β⟩ v):XOp P mn rd n ops i Q K ⟨ds,ρ,β⟩ v:=by
 refine A2x ho (A0p hw) (.inr Z) hn fun ev hev hbk=>?_
 simp only [execOp,A0d,hev _ _ hx,hev _ _ hy]
 exact sx_lookup T hm hk hzz (A1p hv) ⟨β,v,⟨hbk,Le.refl _⟩,h⟩
omit [DecidableEq κ]in
theorem A_rangeM{mt el:TypeId}{x:Operand}{r ck:Nat}{p:Bool}{l:Ents κ}(ho:ops[i]?=some ⟨some d,.range mt x,ty,pos,af,gu⟩)(hw:A0x ops gu ρ=some true)(hn:Nat.blt d n=true)(hx:ρ.val x=some (.map (some r)))
  (hm:T.und mt=some (.map t el))(hv:v r=some (p,mapO val l ck))
  (h:∀it,v it=none→K ⟨ds,(d,.pointer (some ⟨it,0,none⟩))::ρ,β⟩ (v.set it true (.mapIter (some r) ck #[] ck))):XOp P mn rd n ops i Q K ⟨ds,ρ,β⟩ v:=by
 refine A2x ho (A0p hw) (.inr Z) hn fun ev hev hbk=>?_
 simp only [execOp,A0d,hev _ _ hx]
 refine sx_range T hm (A1p hv) fun it hit=>?_
 have hr':v it=none∧A0e β it=none:=by
  unfold View.union at hit
  cases e:v it with
  | none=>rw [e]at hit;exact⟨rfl,hit⟩
  | some x=>rw [e]at hit;cases hit
 obtain⟨h1,h2⟩:=A4r (p:=true) (o:=.mapIter (some r) ck #[] ck) hbk hr'.2
 exact⟨β,_,⟨h1,h2 ▸ Le.refl _⟩,h it hr'.1⟩
omit [DecidableEq κ]in
theorem A_nextM{x:Operand}{it r ck:Nat}{p:Bool}{l:Ents κ}{seen:Array Nat}(ho:ops[i]?=some ⟨some d,.next x false,ty,pos,af,gu⟩)(hw:A0x ops gu ρ=some true)(hn:Nat.blt d n=true)(hx:ρ.val x=some (.pointer (some ⟨it,0,none⟩)))
  (hi:v it=some (true,.mapIter (some r) ck seen ck))(hv:v r=some (p,mapO val l ck))(hb:∀e∈l,e.2.2<ck)
  (h1:∀e∈l,seen.contains e.2.2=false→K ⟨ds,(d,.tuple #[.bool true,val e.1,e.2.1])::ρ,β⟩ (v.set it true (.mapIter (some r) ck (seen.push e.2.2) ck)))
  (h2:(∀e∈l,seen.contains e.2.2=true)→K ⟨ds,(d,.tuple #[.bool false])::ρ,β⟩ v):XOp P mn rd n ops i Q K ⟨ds,ρ,β⟩ v:=by
 refine A2x ho (A0p hw) (.inr Z) hn fun ev hev hbk=>?_
 simp only [execOp,A0d,hev _ _ hx]
 refine sx_next (val:=val) (A1p hi) (A1p hv) hb (fun e he hs=>?_) (fun hs=>⟨β,v,⟨hbk,Le.refl _⟩,h2 hs⟩)
 obtain⟨h3,h4⟩:=A4r (p:=true) (o:=.mapIter (some r) ck (seen.push e.2.2) ck) hbk (A4e hbk hi)
 exact⟨β,_,⟨h3,h4 ▸ Le.refl _⟩,h1 e he hs⟩
omit [DecidableEq κ]in
theorem A_entryM{x:Operand}{it r ck b:Nat}{p q:Bool}{l:Ents κ}{seen:Array Nat}{k:κ}{xv:Value}(ho:ops[i]?=some ⟨some d,.entry x,ty,pos,af,gu⟩)(hw:A0x ops gu ρ=some true)(hn:Nat.blt d n=true)(hx:ρ.val x=some (.pointer (some ⟨it,0,none⟩)))
  (hi:v it=some (q,.mapIter (some r) ck (seen.push b) ck))(hv:v r=some (p,mapO val l ck))(hf:(l.find? (fun e=>e.2.2==b))=some (k,xv,b))
  (h:K ⟨ds,(d,.tuple #[val k,xv])::ρ,β⟩ v):XOp P mn rd n ops i Q K ⟨ds,ρ,β⟩ v:=by
 refine A2x ho (A0p hw) (.inr Z) hn fun ev hev hbk=>?_
 simp only [execOp,A0d,hev _ _ hx]
 exact sx_entry (val:=val) (A1p hi) (A1p hv) hf ⟨β,v,⟨hbk,Le.refl _⟩,h⟩
end
end Go.Pal
end
section
namespace Go.Pal
open Go Go.Conc View
open Go.ConcN (sumTo upd sumTo_upd upd_ne upd_same)
theorem B0d{P:Program}{N N':Nat}{m m₁ m₂:Machine}{t t₁ t₂:Trace}(h:runNT P N m t=(.next m₁,t₁))(hk:runNT P N' m₁ t₁=(.next m₂,t₂)):runNT P (N+N') m t=(.next m₂,t₂):=by
 induction N generalizing m t with
 | zero=>simp only [runNT,Prod.mk.injEq,Stepped.next.injEq]at h;obtain⟨rfl,rfl⟩:=h;simpa using hk
 | succ N ih=>
  rw [Nat.add_right_comm,runNT]
  rw [runNT]at h
  rcases hs:stepT P m with ⟨s,ops⟩
  rw [hs]at h
  cases s with
  | next m'=>exact ih h
  | ended o w=>simp at h
theorem B2y{P:Program}{m m₁:Machine}{t:Trace}{ops:Array MemOp}(h:stepT P m=(.next m₁,ops)):runNT P 1 m t=(.next m₁,t++ops):=by
 simp [runNT,h]
theorem opsG{g:Nat}{fn:FuncId}{pos:String}{es:Array Event}:∀op∈MemOp.ofEvents g fn pos es,op.g=g:=by
 intro op hop
 obtain⟨e,_,rfl⟩:=Go.Conc.mem_ofEvents hop
 rfl
theorem PStep.of_at{v v':View}{w w':World}{d:Nat}(k:PStep v (w.at d) v' w'):PStep v w v' w':=⟨k.agree,k.tape,k.output,k.os,k.size,k.keep,k.dom,k.own⟩
theorem A6h(r:Nat)(wr:Bool):MemAct.ofEvent ⟨.obj r,wr,false⟩ = .access ⟨.obj r,wr,false⟩:=by cases wr<;>rfl
theorem evL_of{v:View}{S:Nat→Prop}{lo hi:Nat}{e:Event}(hS:∀b,S b→v b=none)(hl:∀b,S b→b<lo)(hv:∀b x,v b=some x→b<hi)(h:EvOk v lo hi e):EvL (ShunL S) hi e:=by
 obtain⟨l,wr,sy⟩:=e
 cases l<;>cases sy<;>simp only [EvOk]at h<;>try exact h.elim
 ·rename_i a
  have hb:¬S a.block∧a.block<hi:=by
   rcases h with h|h
   ·exact⟨fun hs=>by have:=hl _ hs;omega,h.2⟩
   ·have:∃x,v a.block=some x:=by
     cases wr
     ·simpa [Option.isSome_iff_exists]using h
     ·simp only [if_true]at h;exact⟨_,h.choose_spec⟩
    obtain⟨x,hx⟩:=this
    exact⟨fun hs=>(by rw [hS _ hs]at hx;cases hx),hv _ _ hx⟩
  exact evL_cell a wr (fun hs=>hb.1 hs) hb.2
 ·rename_i r
  have hb:r<hi:=by
   rcases h with h|h
   ·exact h.2
   ·have:∃x,v r=some x:=by
     cases wr
     ·simpa [Option.isSome_iff_exists]using h
     ·simp only [if_true]at h;exact⟨_,h.choose_spec⟩
    exact hv _ _ this.choose_spec
  refine⟨fun x hx hs=>?_,by simp,by simp,?_⟩
  ·rw [A6h]at hx
   simp only [MemAct.touch?,Option.some.injEq]at hx
   subst hx
   exact hs.elim
  ·rw [A6h];exact hb
 ·rename_i m
  cases m<;>cases wr<;>simp only at h<;>try exact h.elim
  all_goals exact⟨fun x hx=>by simp [MemAct.ofEvent,MemAct.touch?]at hx,by simp,by simp,trivial⟩
theorem evOk_norel{v:View}{lo hi:Nat}{e:Event}(h:EvOk v lo hi e)(A:Addr):MemAct.ofEvent e≠.mark (.release A):=by
 obtain⟨l,wr,sy⟩:=e
 intro he
 cases l with
 | mark m=>simp only [MemAct.ofEvent,MemAct.mark.injEq]at he;subst he;cases wr<;>cases sy<;>exact h.elim
 | obj r=>
  cases sy
  ·rw [A6h]at he;cases he
  ·exact h.elim
 | cell a=>
  cases sy
  ·have:MemAct.ofEvent ⟨.cell a,wr,false⟩ = .access ⟨.cell a,wr,false⟩:=rfl
   rw [this]at he;cases he
  ·exact h.elim
 | output=>exact h.elim
 | goroutines=>exact h.elim
theorem norel_ok{v:View}{lo hi g:Nat}{fn:FuncId}{pos:String}{es:Array Event}(h:∀e∈es,EvOk v lo hi e):NoRel (MemOp.ofEvents g fn pos es):=fun op hop A=>by
 obtain⟨e,he,rfl⟩:=Go.Conc.mem_ofEvents hop
 exact evOk_norel (h e he) A
theorem norel_mute{g:Nat}{fn:FuncId}{pos:String}{es:Array Event}(h:∀e∈es,e.mute=true):NoRel (MemOp.ofEvents g fn pos es):=fun op hop A=>by
 obtain⟨e,he,rfl⟩:=Go.Conc.mem_ofEvents hop
 have:=h e he
 obtain⟨l,wr,sy⟩:=e
 intro hx
 cases l with
 | mark m=>simp only [MemAct.ofEvent,MemAct.mark.injEq]at hx;subst hx;simp [Event.mute]at this
 | _=>simp [Event.mute]at this
theorem A4j{t:Trace}{g:Nat}{fn:FuncId}{pos:String}{es:Array Event}{v:View}{lo hi:Nat}(h:∀e∈es,EvOk v lo hi e)(g':Nat):Deaf (t++MemOp.ofEvents g fn pos es) g'=Deaf t g':=by
 by_cases hg:g=g'
 ·subst hg
  rw [Deaf_own]
  refine deafBehind_still (fun e he=>?_) _
  have:=h e he
  obtain⟨l,wr,sy⟩:=e
  refine⟨fun hl=>?_,fun hl=>?_⟩<;>(cases l<;>cases hl;cases sy<;>cases wr<;>simp [EvOk,Free]at this)
 ·exact Deaf_other t hg _ opsG
section
variable{P:Program}{v:View}{g:Goroutine}{gs:Array Goroutine}{w w':World}{t:Trace}{q:Nat→Nat}{S:Nat→Prop}
theorem BesideG.at(h:BesideG P v g gs w t q S)(d:Nat):BesideG P v g gs (w.at d) t q S:=⟨h.zero,h.leave,h.past,h.agree,h.apart,h.low,h.calm,h.norel⟩
theorem awake_all(h:BesideG P v g gs w t q S)(hs:g.status = .running):∀x∈gs,awake x:=by
 intro x hx
 obtain⟨i,hi,rfl⟩:=Array.mem_iff_getElem.1 hx
 rcases Nat.eq_zero_or_pos i with rfl|hpos
 ·have:gs[0]=g:=by simpa [Array.getElem?_eq_getElem hi]using h.zero
  rw [this];exact awake_of (.inl hs)
 ·exact awake_of ((h.leave.old i _ hpos (Array.getElem?_eq_getElem hi)).status.elim .inl fun x=>.inr (.inr x))
theorem BesideG.slip(h:BesideG P v g gs w t q S)(hs:g.status = .running){i:Nat}{x:Goroutine}(hi:gs[i]?=some x)(hpos:0<i)(hx:x.status = .running)(sl:Option (Nat×Nat)) :
    ∃gs' q' t',runT P (crowd gs w sl) i=(.next (crowd gs' w sl),t')∧BesideG P v g gs' w (t++t') q' S∧gs'.size=gs.size∧sumTo gs'.size q'<sumTo gs.size q:=by
  have hq:=h.leave.old i x hpos hi
  have hi0:(i==0)=false:=by simp;omega
  have hlt:i<gs.size:=(Array.getElem?_eq_some_iff.1 hi).1
  cases hqi:q i with
  | zero=>rw [hqi]at hq;rw [hq.1]at hx;cases hx
  | succ k=>
    rw [hqi]at hq
    rcases hq with ⟨hf,_⟩|⟨_,g',es,hm,hstp,hq'⟩
    · rw [hf]at hx;cases hx
    have hrunT:=runT_crowd_go (P:=P) (sl:=sl) (i:=i) hi (by rw [hi0];exact hstp w)
    have hsz:((gs.map (woken P x g' w)).setIfInBounds i g').size=gs.size:=by simp
    have hsum:sumTo gs.size (upd q i k)+(k+1)=sumTo gs.size q+k:=by
      have:=sumTo_upd q k id hlt
      simpa [hqi]using this
    refine⟨_,upd q i k,_,hrunT,⟨?_,⟨fun j y hj hy=>?_,fun j hj=>?_⟩,h.past.mute oM hm,h.agree,h.apart,h.low,h.calm,h.norel.app (norel_mute hm)⟩,hsz,by rw [hsz];omega⟩
    · have hne:i≠0:=oM
      rw [Array.getElem?_setIfInBounds_ne hne,Array.getElem?_map,h.zero]
      simp [woken_run hs]
    · by_cases hji:i=j
      · subst hji
        rw [Array.getElem?_setIfInBounds_self_of_lt (by simpa using hlt)]at hy
        obtain rfl:=Option.some.inj hy
        rw [upd_same,Deaf_own]
        exact hq'
      · rw [Array.getElem?_setIfInBounds_ne hji,Array.getElem?_map]at hy
        obtain⟨z,hz,rfl⟩:=Option.map_eq_some_iff.1 hy
        have hqj:=h.leave.old j z hj hz
        rw [woken_quitsD hqj,upd_ne q k (Ne.symm hji),Deaf_other t hji _ opsG]
        exact hqj
    · rw [Deaf_other t (g':=i) (by simp at hj;omega) _ opsG]
      exact h.leave.above j (by simpa using hj)
theorem BesideG.own0(h:BesideG P v g gs w t q S){g':Goroutine}{es:Array Event}{v':View}(A5e:stepG P true g w = .go g' w' es)(hok:StepOk v w v' w' es)(sl:Option (Nat×Nat)) :
  ∃gs' t',runT P (crowd gs w sl) 0=(.next (crowd gs' w' sl),t')∧BesideG P v' g' gs' w' (t++t') q S∧gs'.size=gs.size:=by
 have hrunT:=runT_crowd_go (P:=P) (sl:=sl) (i:=0) h.zero (show stepG P (0==0) g w=_ from A5e)
 have hlt:0<gs.size:=(Array.getElem?_eq_some_iff.1 h.zero).1
 have hl:∀b x,v b=some x→b<w'.heap.size:=fun b x e=>Nat.lt_of_lt_of_le (h.agree.lt e) hok.size
 refine⟨_,_,hrunT,⟨by simp [hlt],⟨fun j y hj hy=>?_,fun j hj=>?_⟩,?_,hok.agree,fun b hb=>?_,fun b hb=>Nat.lt_of_lt_of_le (h.low b hb) hok.size,by rw [hok.tape];exact h.calm,h.norel.app (norel_ok hok.ev)⟩,by simp⟩
 ·have hne:0≠j:=oM
  rw [Array.getElem?_setIfInBounds_ne hne,Array.getElem?_map]at hy
  obtain⟨z,hz,rfl⟩:=Option.map_eq_some_iff.1 hy
  have hq:=h.leave.old j z hj hz
  rw [woken_quitsD hq,Deaf_other t oM _ opsG]
  exact hq
 ·rw [Deaf_other t (g':=0) (by simp at hj;omega) _ opsG]
  exact h.leave.above j (by simpa using hj)
 ·exact(h.past.mono hok.size).own fun e he=>evL_of h.apart h.low hl (hok.ev e he)
 ·cases hv:v' b with
  | none=>rfl
  | some x=>
   rcases hok.dom b (by rw [hv];simp)with e|e
   ·exact absurd (h.apart b hb) e
   ·exact absurd (h.low b hb) oM
end
theorem run_big{P:Program}{mn:Who}{Stop:View→Goroutine→Prop}(hm:mn.main=true){v:View}{g:Goroutine}(h:Run P mn Stop v g):BigStep P v g Stop:=by
 induction h with
 | @stop u v g hl h=>exact fun gs w sl t q S hB=>⟨0,gs,w,sl,t,q,S,u,g,rfl,hB.le hl,(PStep.refl hB.agree).less hl,fun _ h=>.inl h,h⟩
 | @step v g hs ng nw ne nv h r ih=>
  intro gs w sl t q S hB
  generalize hM:sumTo gs.size q=M
  induction M using Nat.strongRecOn generalizing gs w sl t q with
  | _ M ihM=>
   obtain⟨i,x,d,sl',hi,hx,hst⟩:=crowd_pick (P:=P) (w:=w) (sl:=sl) (awake_all hB hs) ⟨0,g,hB.zero,hs⟩
   rcases Nat.eq_zero_or_pos i with rfl|hpos
   ·obtain rfl:x=g:=by rw [hB.zero]at hi;exact(Option.some.inj hi).symm
    have hBd:=hB.at d
    obtain⟨h1,h2⟩:=h (w.at d) hBd.agree
    rw [hm]at h1
    obtain⟨gs',t',h3,h4,h5⟩:=hBd.own0 h1 h2 sl'
    obtain⟨N,gs2,w2,sl2,t2,q2,S2,v2,g2,k1,k2,k3,k4,k5⟩:=ih (w.at d) hBd.agree gs' _ sl' _ q S h4
    exact⟨1+N,gs2,w2,sl2,t2,q2,S2,v2,g2,B0d (B2y (hst.trans h3)) k1,k2,(h2.pstep.trans k3).of_at,fun b hb=>(k4 b hb).imp id fun e=>e.elim (fun o=>h2.own b o) fun e=>.inr (Nat.le_trans h2.size e),k5⟩
   ·obtain⟨gs',q',t',h3,h4,h5,h6⟩:=(hB.at d).slip hs hi hpos hx sl'
    obtain⟨N,gs2,w2,sl2,t2,q2,S2,v2,g2,k1,k2,k3,k4,k5⟩:=ihM _ oM gs' (w.at d) sl' _ q' h4 rfl
    exact⟨1+N,gs2,w2,sl2,t2,q2,S2,v2,g2,B0d (B2y (hst.trans h3)) k1,k2,PStep.of_at k3,k4,k5⟩
 | phase hp hm' K h r ih=>
  intro gs w sl t q S hB
  obtain⟨N,gs',w',sl',t',q',S',v',g',h1,h2,h3,h4,h5⟩:=h gs w sl t q S hB
  obtain⟨N2,gs2,w2,sl2,t2,q2,S2,v2,g2,k1,k2,k3,k4,k5⟩:=ih v' g' h5 gs' w' sl' t' q' S' h2
  exact⟨N+N2,gs2,w2,sl2,t2,q2,S2,v2,g2,B0d h1 k1,k2,h3.trans k3,fun b hb=>(k4 b hb).elim (h4 b) fun e=>.inr (e.elim (fun o=>h3.own b o) fun e=>.inr (Nat.le_trans h3.size e)),k5⟩
end Go.Pal
end
section
namespace Go.Pal
open Go Go.Conc View
open Go.ConcN (sumTo upd sumTo_upd upd_ne upd_same RelBy fork_knows)
def blk:Loc→Nat
 | .cell a=>a.block
 | .obj r=>r
 | _=>0
def noView:View:=fun _=>none
abbrev mkE(m:Mark):Event:=⟨.mark m,false,true⟩
structure Proto where
 G:Type
 T:Type
 th:G→Nat→Option T
 ok:G→Prop
 size:G→Nat
 rank:G→Nat
 sh:G→View
 atb:Nat→Prop
 lock:Nat→Addr
 deaf:T→Nat
 rel:T→Bool
 acq:T→Bool
 blocks:G→Nat→Prop
 wakes:T→Bool
 fin:Addr
 over:G→Prop
 tr:G→Nat→G→Prop
def EvS(Pr:Proto)(i B:Nat)(e:Event):Prop:=
 match e with
 | ⟨.mark .disable,_,_⟩|⟨.mark .enable,_,_⟩=>True
 | ⟨.mark (.acquire a),_,_⟩|⟨.mark (.releaseMerge a),_,_⟩=>a.block<B
 | ⟨.mark (.read a),_,_⟩|⟨.mark (.write a),_,_⟩=>i=0∧Pr.atb a.block∧a.block<B
 | ⟨.cell a,_,true⟩=>Pr.atb a.block∧a.block<B
 | _=>False
theorem evS_touch{Pr:Proto}{i B:Nat}{e:Event}{x:Touch}(h:EvS Pr i B e)(hx:(MemAct.ofEvent e).touch?=some x):Pr.atb (blk x.loc)∧(∃a,x.loc = .cell a)∧(x.kind = .atomic∨(x.kind = .said∧i=0)):=by
 obtain⟨l,wr,sy⟩:=e
 cases l with
 | cell a=>
  cases sy
  ·exact h.elim
  ·have:MemAct.ofEvent ⟨.cell a,wr,true⟩ = .access ⟨.cell a,wr,true⟩:=rfl
   rw [this]at hx
   simp only [MemAct.touch?,Option.some.injEq]at hx
   subst hx
   exact⟨h.1,⟨a,Z⟩,.inl Z⟩
 | mark m=>
  cases m<;>simp only [MemAct.ofEvent,MemAct.touch?]at hx<;>first|(cases hx;done)|(simp only [Option.some.injEq]at hx;subst hx;exact⟨h.2.1,⟨_,rfl⟩,.inr ⟨rfl,h.1⟩⟩)
 | obj r=>exact h.elim
 | output=>exact h.elim
 | goroutines=>exact h.elim
theorem evS_low{Pr:Proto}{i B:Nat}{e:Event}(h:EvS Pr i B e):(MemAct.ofEvent e).low B:=by
 obtain⟨l,wr,sy⟩:=e
 cases l with
 | cell a=>
  cases sy
  ·exact h.elim
  ·exact h.2
 | mark m=>cases m<;>first|trivial|exact h|exact h.2.2|exact h.elim
 | obj r=>exact h.elim
 | output=>exact h.elim
 | goroutines=>exact h.elim
theorem evS_norel{Pr:Proto}{i B:Nat}{e:Event}(h:EvS Pr i B e)(A:Addr):MemAct.ofEvent e≠.mark (.release A):=by
 obtain⟨l,wr,sy⟩:=e
 intro he
 cases l with
 | mark m=>simp only [MemAct.ofEvent,MemAct.mark.injEq]at he;subst he;exact h.elim
 | obj r=>exact h.elim
 | cell a=>
  cases sy
  ·exact h.elim
  ·have:MemAct.ofEvent ⟨.cell a,wr,true⟩ = .access ⟨.cell a,wr,true⟩:=rfl
   rw [this]at he;cases he
 | output=>exact h.elim
 | goroutines=>exact h.elim
theorem evOk_touch{v:View}{lo hi:Nat}{e:Event}{x:Touch}(h:EvOk v lo hi e)(hx:(MemAct.ofEvent e).touch?=some x) :
  x.kind = .plain∧((lo≤blk x.loc∧blk x.loc<hi)∨((x.write=true→v.Owns (blk x.loc))∧v (blk x.loc)≠none)):=by
 obtain⟨l,wr,sy⟩:=e
 have key:∀b:Nat,(if wr=true then v.Owns b else(v b).isSome=true)→(wr=true→v.Owns b)∧v b≠none:=by
  intro b hb
  cases wr
  ·simp only [Bool.false_eq_true,if_false]at hb
   refine⟨by simp,fun e=>by rw [e]at hb;cases hb⟩
  ·simp only [if_true]at hb
   exact⟨fun _=>hb,fun e=>by obtain⟨o,ho⟩:=hb;rw [e]at ho;cases ho⟩
 cases l with
 | cell a=>
  cases sy
  ·have:MemAct.ofEvent ⟨.cell a,wr,false⟩ = .access ⟨.cell a,wr,false⟩:=rfl
   rw [this]at hx
   simp only [MemAct.touch?,Option.some.injEq]at hx
   subst hx
   exact⟨Z,h.imp id (key _)⟩
  ·exact h.elim
 | obj r=>
  cases sy
  ·rw [A6h]at hx
   simp only [MemAct.touch?,Option.some.injEq]at hx
   subst hx
   exact⟨Z,h.imp id (key _)⟩
  ·exact h.elim
 | mark m=>cases m<;>cases wr<;>cases sy<;>first|exact h.elim|(simp [MemAct.ofEvent,MemAct.touch?]at hx)
 | output=>exact h.elim
 | goroutines=>exact h.elim
theorem evOk_low{v:View}{lo hi:Nat}{e:Event}(hv:∀b,v b≠none→b<hi)(h:EvOk v lo hi e):(MemAct.ofEvent e).low hi:=by
 have h':=evL_of (S:=fun _=>False) (v:=v) (fun _ h=>h.elim) (fun _ h=>h.elim) (fun b x e=>hv b (by rw [e];simp)) h
 exact h'.2.2.2
structure TI(Pr:Proto)(base:Nat)(S:Nat→Prop)(γ:Pr.G)(vs:Nat→View)(B:Nat)(t:Trace):Prop where
 nr:∀said,¬Race said t
 own:∀i k a,touchAt t k=some a→a.loc.isMemory=true→(vs i).Owns (blk a.loc)→Knows t i k
 rd:∀i k a,touchAt t k=some a→a.loc.isMemory=true→vs i (blk a.loc)≠none→a.write=true→Knows t i k
 ato:∀k a,touchAt t k=some a→Pr.atb (blk a.loc)→a.loc.isMemory=true→a.kind = .atomic∨(a.kind = .said∧t.g? k=some 0)∨∀i,Pr.th γ i≠none→Knows t i k
 gd:∀k a,touchAt t k=some a→a.loc.isMemory=true→Pr.sh γ (blk a.loc)≠none→¬Pr.atb (blk a.loc)→(∀i,Pr.th γ i≠none→Knows t i k)∨∃p,t.act? p=some (.mark (.releaseMerge (Pr.lock (blk a.loc))))∧t.heard p∧Before t k p
 norel:NoRel t
 low:∀op∈t,op.act.low B
 deaf:∀i τ,Pr.th γ i=some τ→Deaf t i=Pr.deaf τ
 f1:∀k a,touchAt t k=some a→a.loc.isMemory=true→Knows t 0 k∨(ShunL (fun b=>S b∨Pr.atb b) a.loc∧a.kind = .atomic)∨(∃i,base≤i∧i<Pr.size γ∧t.g? k=some i∧t.counts k)
 f2:∀k g,t.g? k=some g→g≠0→t.counts k→(∃j,t.g? j=some 0∧HappensBefore t k j)∨(base≤g∧g<Pr.size γ)
 relp:∀i,base≤i→i<Pr.size γ→(∃τ,Pr.th γ i=some τ∧Pr.rel τ=false)∨∃p,RelBy Pr.fin t i p
 acq:∀τ,Pr.th γ 0=some τ→Pr.acq τ=true→∃q,t.g? q=some 0∧t.act? q=some (.mark (.acquire Pr.fin))∧t.heard q∧∀i,base≤i→i<Pr.size γ→∃p,p<q∧RelBy Pr.fin t i p
end Go.Pal
end
