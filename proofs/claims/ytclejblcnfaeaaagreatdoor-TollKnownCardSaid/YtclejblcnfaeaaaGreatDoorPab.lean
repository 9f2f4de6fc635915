/- Part 2. -/
import Derived.Laws.Sem
import Derived.Orders
import Derived.Still
import Derived.Test.YtclejblcnfaeaaaGreatDoorPaa
set_option linter.all false
section
namespace Go.Pal
open Go Go.Conc View
section
variable{P:Program}{mn:Who}{α β:Type}{K:α→View→Prop}{E:Value→View→Prop}{v:View}
theorem A0h(a:α):SemX P (Pure.pure a) K E v=K a v:=rfl
theorem sx_pure'(a:α):SemX P (Sem.pure a) K E v=K a v:=rfl
theorem A0a(m:Sem β)(f:β→Sem α):SemX P (m >>= f) K E v=SemX P m (fun a v'=>SemX P (f a) K E v') E v:=propext (semX_bind m f)
theorem sx_map(f:β→α)(m:Sem β):SemX P (Functor.map f m) K E v=SemX P m (fun a v'=>K (f a) v') E v:=propext (semX_bind m _)
theorem A1s{K:Program→View→Prop}:SemX P program K E v=K P v:=rfl
theorem sx_load{K:Value→View→Prop}(a:Addr):SemX P (load a) K E v=(∃x,v.cell a=some x∧K x v):=by simp [load,SemX]
theorem A8d{K:Nat→View→Prop}(o:Obj):SemX P (newObj o) K E v=(∀r,v r=none→K r (v.set r true o)):=rfl
theorem sx_ite{c:Prop}[Decidable c](m n:Sem α):SemX P (if c then m else n) K E v=if c then SemX P m K E v else SemX P n K E v:=by split<;>rfl
theorem A8c{K:TypeDesc→View→Prop}{t:TypeId}{d:TypeDesc}(h:P.underlying t=some d):SemX P (underlying t) K E v=K d v:=by
 unfold underlying
 rw [A0a]
 show SemX P program _ E v=_
 rw [A1s];simp only [h];rfl
theorem A6h{K:TypeInfo→View→Prop}{t:TypeId}{i:TypeInfo}(h:P.info? t=some i):SemX P (typeInfo t) K E v=K i v:=by
 unfold typeInfo
 rw [A0a]
 show SemX P program _ E v=_
 rw [A1s];simp only [h];rfl
theorem sx_sizeOf{K:Nat→View→Prop}{t:TypeId}{i:TypeInfo}(h:P.info? t=some i):SemX P (sizeOf t) K E v=K i.size v:=by
 unfold sizeOf;rw [A0a,A6h h];rfl
theorem sx_zeroValue{K:Value→View→Prop}{t:TypeId}{i:TypeInfo}{z:Value}(h:P.info? t=some i)(hz:i.zero=some z):SemX P (zeroValue t) K E v=K z v:=by
 unfold zeroValue;rw [A0a,A6h h,hz];rfl
def aggOf:TypeDesc→Bool
 | .struct _ | .array _ _=>true
 | _=>false
theorem sx_isAgg{K:Bool→View→Prop}{t:TypeId}{d:TypeDesc}(h:P.underlying t=some d):SemX P (isAgg t) K E v=K (aggOf d) v:=by
 unfold isAgg;rw [A0a,A8c h];cases d<;>rfl
end
structure Tab(P:Program) where
 und:TypeId→Option TypeDesc
 und_ok:∀t d,und t=some d→P.underlying t=some d
 siz:TypeId→Option Nat
 siz_ok:∀t n,siz t=some n→∃i,P.info? t=some i∧i.size=n
 zer:TypeId→Option Value
 zer_ok:∀t z,zer t=some z→∃i,P.info? t=some i∧i.zero=some z
 byt:TypeId→Option Nat
 byt_ok:∀t n,byt t=some n→∃i,P.info? t=some i∧i.bytes=n
section
variable{P:Program}{mn:Who}{E:Value→View→Prop}{v:View}(T:Tab P)
theorem A1k{K:TypeDesc→View→Prop}{t:TypeId}{d:TypeDesc}(h:T.und t=some d):SemX P (underlying t) K E v=K d v:=A8c (T.und_ok _ _ h)
theorem A4f{K:Nat→View→Prop}{t:TypeId}{n:Nat}(h:T.siz t=some n):SemX P (sizeOf t) K E v=K n v:=by
 obtain⟨i,hi,rfl⟩:=T.siz_ok _ _ h;exact sx_sizeOf hi
theorem A8b{K:Value→View→Prop}{t:TypeId}{z:Value}(h:T.zer t=some z):SemX P (zeroValue t) K E v=K z v:=by
 obtain⟨i,hi,hz⟩:=T.zer_ok _ _ h;exact sx_zeroValue hi hz
end
def partOf{P:Program}(T:Tab P)(t:TypeId)(cs:Array Value)(off:Nat):Option Value:=
 match T.und t,T.siz t with
 | some d,some n=>if aggOf d then some (.agg (cs.extract off (off+n)))else cs[off]?
 | _,_=>none
theorem part_sound{P:Program}(T:Tab P){E:Value→View→Prop}{v:View}{K:Value→View→Prop}{t:TypeId}{cs:Array Value}{off:Nat}{x:Value}(h:partOf T t cs off=some x)(hk:K x v):SemX P (part t cs off) K E v:=by
 unfold partOf at h
 split at h
 ·rename_i d n hd hn
  unfold part
  rw [A0a,sx_isAgg (T.und_ok _ _ hd)]
  split at h
  ·rename_i ha
   rw [if_pos ha,A0a,A4f T hn]
   cases h;exact hk
  ·rename_i ha
   rw [if_neg ha,h];exact hk
 ·cases h
def A2s(g:Operand→Option Value):List Operand→Option (List Value)
 | []=>some []
 | x::r=>match g x,A2s g r with
  | some y,some ys=>some (y::ys)
  | _,_=>none
def A7n(g:Operand→Option Value):List (Nat×Operand)→Option (List (Nat×Value))
 | []=>some []
 | (i,x)::r=>match g x,A7n g r with
  | some y,some ys=>some ((i,y)::ys)
  | _,_=>none
def A4y{P:Program}(T:Tab P):List Field→Option (List (Nat×Nat))
 | []=>some []
 | f::r=>match T.siz f.type,A4y T r with
  | some n,some ys=>some ((f.offset,n)::ys)
  | _,_=>none
def A8s(op:BinOp)(k:IntKind)(x y:Int):Option Value:=
 match op with
 | .add=>some (.int k (k.wrap (x+y)))
 | .sub=>some (.int k (k.wrap (x-y)))
 | .mul=>some (.int k (k.wrap (x*y)))
 | .eql=>some (.bool (x==y))
 | .neq=>some (.bool (x != y))
 | .lss=>some (.bool (decide (x<y)))
 | .leq=>some (.bool (decide (x≤y)))
 | .gtr=>some (.bool (decide (x > y)))
 | .geq=>some (.bool (decide (x≥y)))
 | .and=>some (.int k (k.wrap (BitVec.ofInt k.bits x &&& BitVec.ofInt k.bits y).toNat))
 | .or=>some (.int k (k.wrap (BitVec.ofInt k.bits x ||| BitVec.ofInt k.bits y).toNat))
 | .xor=>some (.int k (k.wrap (BitVec.ofInt k.bits x ^^^ BitVec.ofInt k.bits y).toNat))
 | .andNot=>some (.int k (k.wrap (BitVec.ofInt k.bits x &&& ~~~ BitVec.ofInt k.bits y).toNat))
 | _=>none
def A0z(c:Array Value)(off:Nat):List Value→Array Value
 | []=>c
 | x::r=>A0z (c.setIfInBounds off x) (off+1) r
theorem foldl_set(off:Nat):∀(l:List Value) (j0:Nat) (cs:Array Value),(l.zipIdx j0).foldl (fun cs (c,j)=>cs.setIfInBounds (off+j) c) cs=A0z cs (off+j0) l
 | [],_,_=>rfl
 | x::l,j0,cs=>by
  simp only [List.zipIdx_cons,List.foldl_cons,A0z]
  exact foldl_set off l (j0+1) _
theorem foldl_set'(off:Nat)(x:Array Value)(cs:Array Value):x.zipIdx.foldl (fun cs (c,j)=>cs.setIfInBounds (off+j) c) cs=A0z cs off x.toList:=by
 have:=foldl_set off x.toList 0 cs
 rw [←Array.foldl_toList]
 simpa using this
def putV:List Value→Nat→List Value→List Value
 | c,_,[]=>c
 | [],_,_::_=>[]
 | _::r,0,y::ys=>y::putV r 0 ys
 | x::r,off+1,y::ys=>x::putV r off (y::ys)
theorem putV_nil(off:Nat)(ys:List Value):putV [] off ys=[]:=by cases ys<;>simp [putV]
theorem putV_none(c:List Value)(off:Nat):putV c off []=c:=by unfold putV;rfl
theorem B1s(x:Value)(r:List Value)(off:Nat)(ys:List Value):putV (x::r) (off+1) ys=x::putV r off ys:=by
 cases ys with
 | nil=>simp [putV_none]
 | cons y ys=>simp [putV]
theorem putV_step:∀(c:List Value) (off:Nat) (y:Value) (ys:List Value),putV c off (y::ys)=putV (c.set off y) (off+1) ys
 | [],off,y,ys=>by simp [putV_nil]
 | x::r,0,y,ys=>by simp [putV,B1s]
 | x::r,off+1,y,ys=>by rw [B1s,putV_step r off y ys,List.set_cons_succ,B1s]
theorem A7f:∀(l:List Value) (c:Array Value) (off:Nat),(A0z c off l).toList=putV c.toList off l
 | [],c,off=>by simp [A0z,putV_none]
 | x::r,c,off=>by rw [A0z,A7f r,putV_step];simp
def fillV(place:Nat→Option (Nat×Nat))(cells:List Value):List (Nat×Value)→Option (List Value)
 | []=>some cells
 | (i,x)::rest=>match place i with
  | none=>none
  | some (off,size)=>bif Nat.beq x.cells.size size&&Nat.ble (off+x.cells.size) cells.length then fillV place (putV cells off x.cells.toList) rest else none
theorem fillV_eq{place:Nat→Option (Nat×Nat)}:∀{ps:List (Nat×Value)} {c:Array Value} {l:List Value},fillV place c.toList ps=some l→Instr.fill place c ps=some l.toArray
 | [],c,l,h=>by simp only [fillV,Option.some.injEq]at h;subst h;rfl
 | (i,x)::rest,c,l,h=>by
  simp only [fillV]at h
  simp only [Instr.fill]
  split at h
  ·cases h
  ·rename_i off size hp
   rw [hp]
   cases hb:(Nat.beq x.cells.size size&&Nat.ble (off+x.cells.size) c.toList.length)with
   | false=>rw [hb]at h;cases h
   | true=>
    rw [hb]at h
    simp only [cond_true]at h
    simp only [Bool.and_eq_true]at hb
    have h1:=Nat.eq_of_beq_eq_true hb.1
    have h2:=Nat.le_of_ble_eq_true hb.2
    simp only [Array.length_toList]at h2
    simp only [h1,ne_eq,not_true_eq_false,decide_false,Bool.false_or]
    rw [if_neg (by rw [←h1];simp;omega),foldl_set']
    rw [←A7f]at h
    exact fillV_eq h
def A6c{P:Program}(T:Tab P)(op:BinOp)(t:TypeId):Value→Value→Option Value
 | .int k a,.int k' b=>match op with
  | .shl=>if b<0 then none else some (.int k (k.wrap (a*2 ^ (min b.toNat k.bits))))
  | .shr=>if b<0 then none else some (.int k (a.fdiv (2 ^ (min b.toNat k.bits))))
  | .quo=>if k=k' then(if b=0 then none else some (.int k (k.wrap (a.tdiv b))))else none
  | .rem=>if k=k' then(if b=0 then none else some (.int k (a.tmod b)))else none
  | op=>if k=k' then A8s op k a b else none
 | .string a,.string b=>match op with
  | .eql=>some (.bool (a.toList==b.toList))
  | .neq=>some (.bool !(a.toList==b.toList))
  | _=>none
 | .bool a,.bool b=>match op,T.und t with
  | .eql,some .bool=>some (.bool (a==b))
  | .neq,some .bool=>some (.bool !(a==b))
  | _,_=>none
 | .slice a _ _,.slice none _ _=>match op,T.und t with
  | .eql,some (.slice _)=>some (.bool a.isNone)
  | .neq,some (.slice _)=>some (.bool !a.isNone)
  | _,_=>none
 | .pointer a,.pointer none=>match op,T.und t with
  | .eql,some (.pointer _)=>some (.bool a.isNone)
  | .neq,some (.pointer _)=>some (.bool !a.isNone)
  | _,_=>none
 | _,_=>none
def A1h{P:Program}(T:Tab P)(g:Operand→Option Value):Op→Option Value
 | .move x | .assign x=>g x
 | .pick c a b=>match g c with
  | some (.bool true)=>g a
  | some (.bool false)=>g b
  | _=>none
 | .nilCheck x=>match g x with
  | some (.pointer (some a))=>some (.pointer (some a))
  | some (.func (.func f) a c)=>some (.func (.func f) a c)
  | some (.func (.yield f) a c)=>some (.func (.yield f) a c)
  | _=>none
 | .binOp op t x y _=>match g x,g y with
  | some a,some b=>A6c T op t a b
  | _,_=>none
 | .unOp .not _ x=>match g x with
  | some (.bool b)=>some (.bool !b)
  | _=>none
 | .unOp .neg _ x=>match g x with
  | some (.int k n)=>some (.int k (k.wrap (0-n)))
  | _=>none
 | .convert s d x=>match T.und s,T.und d,g x with
  | some _,some (.int k),some (.int _ n)=>some (.int k (k.wrap n))
  | some _,some .string,some (.int _ n)=>some (.string (Utf8.encode n))
  | _,_,_=>none
 | .makeInterface t x=>match T.und t,g x with
  | some (.interface _),_=>none
  | some _,some y=>some (.iface t y)
  | _,_=>none
 | .makeFunc fn first captured=>match A2s g first.toList,A2s g captured.toList with
  | some a,some c=>some (.func fn a.toArray c.toArray)
  | _,_=>none
 | .extract t i=>match g t with
  | some (.tuple vs)=>vs[i]?
  | _=>none
 | .field t x f=>match T.und t,g x with
  | some (.struct fs),some (.agg cs)=>match fs[f]? with
   | some fd=>partOf T fd.type cs fd.offset
   | none=>none
  | _,_=>none
 | .fieldAddr s x f=>match T.und s,g x with
  | some (.struct fs),some (.pointer (some ⟨b,off,none⟩))=>match fs[f]? with
   | some fd=>match T.siz fd.type with
    | some (_+1)=>some (.pointer (some ⟨b,off+fd.offset,none⟩))
    | _=>none
   | none=>none
  | _,_=>none
 | .build t parts=>match T.zer t,T.und t,A7n g parts.toList with
  | some z,some (.struct fs),some ps=>match A4y T fs.toList with
   | some places=>match fillV (places[·]?) z.cells.toList ps with
    | some cs=>some (.agg cs.toArray)
    | none=>none
   | none=>none
  | some z,some (.array _ e),some ps=>match T.siz e with
   | some n=>match fillV (fun i=>some (i*n,n)) z.cells.toList ps with
    | some cs=>some (.agg cs.toArray)
    | none=>none
   | none=>none
  | _,_,_=>none
 | .call {callee:=.builtin .len,args,argTypes }=>match args.toList,argTypes.toList with
  | [x],t::_=>match T.und t,g x with
   | some (.slice _),some (.slice _ n _)=>some (.int .i64 n)
   | some .string,some (.string s)=>some (.int .i64 s.size)
   | _,_=>none
  | _,_=>none
 | .call {callee:=.builtin .cap,args,argTypes }=>match args.toList,argTypes.toList with
  | [x],t::_=>match T.und t,g x with
   | some (.slice _),some (.slice _ _ n)=>some (.int .i64 n)
   | _,_=>none
  | _,_=>none
 | .call {callee:=.builtin .max,args,.. }=>match args.toList with
  | [x,y]=>match g x,g y with
   | some (.int k a),some (.int _ b)=>some (.int k (if b > a then b else a))
   | _,_=>none
  | _=>none
 | .call {callee:=.builtin .min,args,.. }=>match args.toList with
  | [x,y]=>match g x,g y with
   | some (.int k a),some (.int _ b)=>some (.int k (if b<a then b else a))
   | _,_=>none
  | _=>none
 | .typeAssert x _ ty ok=>match T.und ty,g x with
  | some (.interface _),_=>none
  | some _,some (.iface t y)=>if t=ty then some (if ok then .tuple #[y,.bool true]else y)else if ok then(match T.zer ty with|some z=>some (.tuple #[z,.bool false])|none=>none)else none
  | some _,some .nilIface=>if ok then(match T.zer ty with|some z=>some (.tuple #[z,.bool false])|none=>none)else none
  | _,_=>none
 | _=>none
section
variable{P:Program}{mn:Who}(T:Tab P){g:Operand→Option Value}{ρ:Operand→Value}{K:Next→View→Prop}{E:Value→View→Prop}{v:View}
theorem A2c(hg:∀x y,g x=some y→ρ x=y):∀{l:List Operand} {ys:List Value},A2s g l=some ys→l.map ρ=ys
 | [],ys,h=>by simp [A2s]at h;simp [h]
 | x::r,ys,h=>by
  simp only [A2s]at h
  split at h
  ·rename_i y ys' h1 h2
   cases h
   simp [hg _ _ h1,A2c hg h2]
  ·cases h
theorem A5m(hg:∀x y,g x=some y→ρ x=y):∀{l:List (Nat×Operand)} {ys:List (Nat×Value)},A7n g l=some ys→l.map (fun p=>(p.1,ρ p.2))=ys
 | [],ys,h=>by simp [A7n]at h;simp [h]
 | (i,x)::r,ys,h=>by
  simp only [A7n]at h
  split at h
  ·rename_i y ys' h1 h2
   cases h
   simp [hg _ _ h1,A5m hg h2]
  ·cases h
theorem B0h{E:Value→View→Prop}:∀{fs:List Field} {ys:List (Nat×Nat)} {K:List (Nat×Nat)→View→Prop},A4y T fs=some ys→K ys v→
  SemX P (fs.mapM (fun(f:Field)=>(do pure (f.offset,←sizeOf f.type):Sem (Nat×Nat)))) K E v
 | [],ys,K,h,hk=>by simp [A4y]at h;subst h;simpa [A0h]using hk
 | f::r,ys,K,h,hk=>by
  simp only [A4y]at h
  split at h
  ·rename_i n ys' h1 h2
   cases h
   rw [List.mapM_cons]
   simp only [A0a,A4f T h1,A0h]
   exact B0h h2 hk
  ·cases h
theorem A8e{t:TypeId}{a b:Bool}{K:Bool→View→Prop}(hu:T.und t=some .bool)(h:K (a==b) v):SemX P (Op.equal t (.bool a) (.bool b)) K E v:=by
 unfold Op.equal Op.maxDepth
 rw [show(10000:Nat)=9999+1 from Y,Op.equalIn,A0a,A1k T hu]
 exact h
theorem A7r{t e:TypeId}{a:Option Addr}{b c b' c':Nat}{K:Bool→View→Prop}(hu:T.und t=some (.slice e))(h:K a.isNone v):SemX P (Op.equal t (.slice a b c) (.slice none b' c')) K E v:=by
 unfold Op.equal Op.maxDepth
 rw [show(10000:Nat)=9999+1 from Y,Op.equalIn,A0a,A1k T hu]
 cases a<;>exact h
theorem A6n{t e:TypeId}{a:Option Addr}{K:Bool→View→Prop}(hu:T.und t=some (.pointer e))(h:K a.isNone v):SemX P (Op.equal t (.pointer a) (.pointer none)) K E v:=by
 unfold Op.equal Op.maxDepth
 rw [show(10000:Nat)=9999+1 from Y,Op.equalIn,A0a,A1k T hu]
 cases a<;>exact h
theorem binVal_sound{op:BinOp}{t:TypeId}{a b x:Value}{y z:Operand}{K:Value→View→Prop}(h:A6c T op t a b=some x)(hk:K x v):SemX P (do eqGuard op t y z a b;binOp op t a b) K E v:=by
 unfold A6c at h
 split at h
 ·rename_i k a k' b
  have heq:eqGuard op t y z (.int k a) (.int k' b)=pure ():=by unfold eqGuard;cases op<;>rfl
  rw [heq,A0a,A0h]
  split at h
  ·split at h
   ·cases h
   ·rename_i hb;cases h;simp only [binOp,Op.shift,if_neg hb];exact hk
  ·split at h
   ·cases h
   ·rename_i hb;cases h;simp only [binOp,Op.shift,if_neg hb];exact hk
  ·split at h
   ·rename_i hkk
    subst hkk
    split at h
    ·cases h
    ·rename_i hb;cases h;simp only [binOp,ne_eq,not_true_eq_false,if_false,Op.intDiv,if_neg hb];exact hk
   ·cases h
  ·split at h
   ·rename_i hkk
    subst hkk
    split at h
    ·cases h
    ·rename_i hb;cases h;simp only [binOp,ne_eq,not_true_eq_false,if_false,Op.intDiv,if_neg hb];exact hk
   ·cases h
  ·split at h
   ·rename_i hkk
    subst hkk
    cases op<;>simp only [A8s]at h<;>first|(cases h;done)|(cases h;simpa [A0a,A0h,binOp,Op.intArith,Op.intCmp,Op.intBits]using hk)
   ·cases h
 ·rename_i a b
  have heq:eqGuard op t y z (.string a) (.string b)=pure ():=by unfold eqGuard;cases op<;>rfl
  rw [heq,A0a,A0h]
  cases op<;>simp only at h<;>first|(cases h;done)|(cases h;simpa [A0h,binOp,Op.stringOp]using hk)
 ·rename_i a b
  have heq:eqGuard op t y z (.bool a) (.bool b)=pure ():=by unfold eqGuard;cases op<;>rfl
  rw [heq,A0a,A0h]
  split at h<;>first|(cases h;done)|skip
  ·rename_i hu;cases h;simp only [binOp,A0a,A0h];exact A8e T hu hk
  ·rename_i hu;cases h;simp only [binOp,A0a,A0h];exact A8e T hu hk
 ·rename_i a _ _ _ _
  have heq:∀c d e f,eqGuard op t y z (.slice a c d) (.slice none e f)=pure ():=by intros;unfold eqGuard;cases op<;>rfl
  rw [heq,A0a,A0h]
  split at h<;>first|(cases h;done)|skip
  ·rename_i hu;cases h;simp only [binOp,A0a,A0h];exact A7r T hu hk
  ·rename_i hu;cases h;simp only [binOp,A0a,A0h];exact A7r T hu hk
 ·rename_i a
  have heq:eqGuard op t y z (.pointer a) (.pointer none)=pure ():=by unfold eqGuard;cases op<;>rfl
  rw [heq,A0a,A0h]
  split at h<;>first|(cases h;done)|skip
  ·rename_i hu;cases h;simp only [binOp,A0a,A0h];exact A6n T hu hk
  ·rename_i hu;cases h;simp only [binOp,A0a,A0h];exact A6n T hu hk
 ·cases h
theorem A5i(hg:∀x y,g x=some y→ρ x=y){o:Oper}{x:Value}(h:A1h T g o.op=some x)(hk:K (.value x) v):SemX P (execOp ρ o) K E v:=by
  obtain⟨dst,op,ty,pos,af,gu⟩:=o
  cases op with
  | move y=>simp only [A1h]at h;simp only [execOp,hg _ _ h];exact hk
  | assign y=>simp only [A1h]at h;simp only [execOp,hg _ _ h];exact hk
  | pick c a b=>
    simp only [A1h]at h
    split at h
    · rename_i hc;simp only [execOp,hg _ _ hc,hg _ _ h,asBool];exact hk
    · rename_i hc;simp only [execOp,hg _ _ hc,hg _ _ h,asBool];exact hk
    · cases h
  | nilCheck y=>
    simp only [A1h]at h
    split at h<;>first|(cases h;done)|(rename_i hy;cases h;simp only [execOp,hg _ _ hy];exact hk)
  | binOp op t y z t'=>
    simp only [A1h]at h
    split at h
    · rename_i a b ha hb
      have:=binVal_sound (E:=E) T (y:=y) (z:=z) (K:=fun x v=>K (.value x) v) h hk
      simp only [execOp,hg _ _ ha,hg _ _ hb]
      simp only [A0a,A0h]at this⊢
      exact this
    · cases h
  | unOp op t y=>
    cases op<;>simp only [A1h]at h<;>first|(cases h;done)|(split at h<;>first|(cases h;done)|(rename_i hy;cases h;simp only [execOp,hg _ _ hy];exact hk))
  | convert s d y=>
    simp only [A1h]at h
    split at h
    · rename_i ds k k' n h1 h2 h3
      cases h
      simp only [execOp,hg _ _ h3,convert,A0a,A1k T h1,A1k T h2]
      cases ds<;>exact hk
    · rename_i ds k n h1 h2 h3
      cases h
      simp only [execOp,hg _ _ h3,convert,A0a,A1k T h1,A1k T h2]
      cases ds<;>exact hk
    · cases h
  | makeInterface t y=>
    simp only [A1h]at h
    split at h
    · cases h
    · rename_i d y' hd h1 h2
      cases h
      simp only [execOp,hg _ _ h2,Instr.makeInterface,A0a,A1k T h1]
      cases d<;>first|exact hk|(rename_i ms;exact absurd rfl (hd ms))
    · cases h
  | makeFunc fn first captured=>
    simp only [A1h]at h
    split at h
    · rename_i a c h1 h2
      cases h
      have e1:first.map ρ=a.toArray:=Array.toList_inj.1 (by simpa using A2c hg h1)
      have e2:captured.map ρ=c.toArray:=Array.toList_inj.1 (by simpa using A2c hg h2)
      simp only [execOp,Instr.makeFunc,e1,e2]
      exact hk
    · cases h
  | extract t i=>
    simp only [A1h]at h
    split at h
    · rename_i vs ht
      simp only [execOp,hg _ _ ht,Instr.extract,h];exact hk
    · cases h
  | field t y f=>
    simp only [A1h]at h
    split at h
    · rename_i fs cs h1 h2
      split at h
      · rename_i fd hf
        simp only [execOp,hg _ _ h2,Instr.field,A0a,A1k T h1,hf,asAgg,A0h]
        exact part_sound T h hk
      · cases h
    · cases h
  | fieldAddr s y f=>
    simp only [A1h]at h
    split at h
    · rename_i fs b off h1 h2
      split at h
      · rename_i fd hf
        split at h
        · rename_i n hn
          cases h
          have hadd:(⟨b,off,none⟩:Addr).add fd.offset=⟨b,off+fd.offset,none⟩:=by unfold Addr.add;split<;>simp_all
          simp only [execOp,hg _ _ h2,Instr.fieldAt,Instr.sureAddr,fieldPlace,A0a,A1k T h1,hf,A0h,A4f T hn,sx_ite,hadd]
          rw [if_neg oM]
          exact hk
        · cases h
      · cases h
    · cases h
  | build t parts=>
    simp only [A1h]at h
    split at h
    · rename_i z fs ps h1 h2 h3
      split at h
      · rename_i places hp
        split at h
        · rename_i cs hc
          cases h
          have e1:(parts.map fun(i,x)=>(i,ρ x)).toList=ps:=by rw [←A5m hg h3];simp
          simp only [execOp,Instr.build,A0a,A8b T h1,A1k T h2]
          rw [Array.mapM_eq_mapM_toList,sx_map]
          refine B0h T hp ?_
          have hc':=fillV_eq (place:=fun i=>places.toArray[i]?) (by simpa using hc)
          rw [e1,hc']
          exact hk
        · cases h
      · cases h
    · rename_i z n e ps h1 h2 h3
      split at h
      · rename_i m hm
        split at h
        · rename_i cs hc
          cases h
          have e1:(parts.map fun(i,x)=>(i,ρ x)).toList=ps:=by rw [←A5m hg h3];simp
          simp only [execOp,Instr.build,A0a,A8b T h1,A1k T h2,A4f T hm,e1,fillV_eq hc]
          exact hk
        · cases h
      · cases h
    · cases h
  | call c=>
    obtain⟨callee,args,ats⟩:=c
    cases callee with
    | builtin b=>
      cases b<;>simp only [A1h]at h<;>first|(cases h;done)|skip
      case len=>
        split at h
        · rename_i y t ts h1 h2
          have ha:args.map ρ=#[ρ y]:=by rw [show args=#[y]from Array.toList_inj.1 (by simpa using h1)];simp
          have ht:ats[0]?=some t:=by rw [←Array.getElem?_toList,h2];rfl
          simp only [execOp,resolve,ha,A0a]
          change SemX P (invoke (.builtin .len ats ty _) #[ρ y]) K E v
          simp only [invoke,builtin,A0a,Builtin.len_,ht]
          split at h
          · rename_i e a n c h3 h4
            cases h
            rw [hg _ _ h4]
            simp only [show ∀z:Value,(#[z]:Array Value)[0]?=some z from fun _=>rfl,A0a,A1k T h3]
            exact hk
          · rename_i s h3 h4
            cases h
            rw [hg _ _ h4]
            simp only [show ∀z:Value,(#[z]:Array Value)[0]?=some z from fun _=>rfl,A0a,A1k T h3]
            exact hk
          · cases h
        · cases h
      case cap=>
        split at h
        · rename_i y t ts h1 h2
          have ha:args.map ρ=#[ρ y]:=by rw [show args=#[y]from Array.toList_inj.1 (by simpa using h1)];simp
          have ht:ats[0]?=some t:=by rw [←Array.getElem?_toList,h2];rfl
          simp only [execOp,resolve,ha,A0a]
          change SemX P (invoke (.builtin .cap ats ty _) #[ρ y]) K E v
          simp only [invoke,builtin,A0a,Builtin.cap_,ht]
          split at h
          · rename_i e a n c h3 h4
            cases h
            rw [hg _ _ h4]
            simp only [show ∀z:Value,(#[z]:Array Value)[0]?=some z from fun _=>rfl,A0a,A1k T h3]
            exact hk
          · cases h
        · cases h
      case max=>
        split at h
        · rename_i y z h1
          have ha:args.map ρ=#[ρ y,ρ z]:=by rw [show args=#[y,z]from Array.toList_inj.1 (by simpa using h1)];simp
          simp only [execOp,resolve,ha,A0a]
          change SemX P (invoke (.builtin .max ats ty _) #[ρ y,ρ z]) K E v
          split at h
          · rename_i k a k' b h3 h4
            cases h
            rw [hg _ _ h3,hg _ _ h4]
            exact hk
          · cases h
        · cases h
      case min=>
        split at h
        · rename_i y z h1
          have ha:args.map ρ=#[ρ y,ρ z]:=by rw [show args=#[y,z]from Array.toList_inj.1 (by simpa using h1)];simp
          simp only [execOp,resolve,ha,A0a]
          change SemX P (invoke (.builtin .min ats ty _) #[ρ y,ρ z]) K E v
          split at h
          · rename_i k a k' b h3 h4
            cases h
            rw [hg _ _ h3,hg _ _ h4]
            exact hk
          · cases h
        · cases h
    | value f=>simp [A1h]at h
    | invoke r n=>simp [A1h]at h
  | typeAssert y xt ty' ok=>
    simp only [A1h]at h
    split at h
    · cases h
    · rename_i d t y' hd h1 h2
      simp only [execOp,Instr.typeAssert,hg _ _ h2,A0a,A1k T h1]
      have key:SemX P (if t=ty' then(pure (if ok then .tuple #[y',.bool true]else y'):Sem Value)else
          (if ok then(do pure (.tuple #[←zeroValue ty',.bool false]))else runtimePanic (.typeAssertion (some xt) (some t) ty' ""))) (fun a v'=>K (.value a) v') E v:=by
        split at h
        · rename_i ht
          cases h
          rw [if_pos ht];exact hk
        · rename_i ht
          rw [if_neg ht]
          split at h
          · rename_i hok
            split at h
            · rename_i z hz
              cases h
              rw [if_pos hok,A0a,A8b T hz];exact hk
            · cases h
          · cases h
      cases d<;>first|exact key|(rename_i ms;exact absurd rfl (hd ms))
    · rename_i d hd h1 h2
      simp only [execOp,Instr.typeAssert,hg _ _ h2,A0a,A1k T h1]
      have key:SemX P (if ok then(do pure (.tuple #[←zeroValue ty',.bool false]))else runtimePanic (.typeAssertion (some xt) none ty' ""):Sem Value) (fun a v'=>K (.value a) v') E v:=by
        split at h
        · rename_i hok
          split at h
          · rename_i z hz
            cases h
            rw [if_pos hok,A0a,A8b T hz];exact hk
          · cases h
        · cases h
      cases d<;>first|exact key|(rename_i ms;exact absurd rfl (hd ms))
    · cases h
  | _=>simp [A1h]at h
end
section
variable{P:Program}{mn:Who}{rd:Option Nat}{ops:Array Oper}{Q:Exit→Act→View→Prop}
def MonK(P:Program)(mn:Who)(a:Act)(o:Oper)(v:View)(K:Act→View→Prop):Next→View→Prop
 | .value x,u=>v.Le u∧K (a.put o.dst x) u
 | .skip,u=>v.Le u∧K (a.put o.dst undef) u
 | .enter f args,u=>CallsX P mn f args (fun e u'=>v.Le u'∧match e with | .ret x=>K (a.put o.dst x) u' | .pan _=>False) u
 | _,_=>False
def OpM(P:Program)(mn:Who)(ops:Array Oper)(i:Nat)(K:Act→View→Prop)(a:Act)(v:View):Prop:=
 match ops[i]? with
 | none=>K a v
 | some o=>if Region.wanted o (yielded ops a.tmps)then SemX P (execOp a.eval o) (MonK P mn a o v K) (fun _ _=>False) v else K (a.put o.dst undef) v
def AnyM(P:Program)(mn:Who)(ops:Array Oper)(K:Act→View→Prop):Nat→Array Bool→Act→View→Prop
 | 0,listed,a,v=>Region.ready .any ops listed=[]∧K a v
 | fuel+1,listed,a,v=>(Region.ready .any ops listed=[]→K a v)∧∀i∈Region.ready .any ops listed,OpM P mn ops i (AnyM P mn ops K fuel (listed.setIfInBounds i true)) a v
theorem B0v{i:Nat}{a:Act}{v:View}{K K':Act→View→Prop}(h:∀a u,v.Le u→K a u→K' a u)(hh:OpM P mn ops i K a v):OpM P mn ops i K' a v:=by
 unfold OpM at *
 split
 ·rename_i ho;simp only [ho]at hh;exact h _ _ (Le.refl _) hh
 ·rename_i o ho
  simp only [ho]at hh
  split
  ·rename_i hw
   simp only [hw,if_true]at hh
   refine A1y _ (fun nx u hn=>?_) (fun _ _ x=>x) hh
   cases nx<;>first|exact hn.elim|exact⟨hn.1,h _ _ hn.1 hn.2⟩|skip
   exact CallsX.mono hn fun e u' hR=>⟨u',Le.refl _,hR.1,by cases e<;>first|exact h _ _ hR.1 hR.2|exact hR.2⟩
  ·rename_i hw;simp only [hw]at hh;exact h _ _ (Le.refl _) hh
theorem opM_x{i:Nat}{rest:List Nat}{a:Act}{v:View}(hsel:∀o,ops[i]?=some o→A1t o.op=false)(h:OpM P mn ops i (fun a' u=>A4r P mn rd ops rest Q a' u) a v):A4r P mn rd ops (i::rest) Q a v:=by
 unfold OpM at h
 split at h
 ·rename_i ho
  intro Stop b k cs hb hr hq
  refine Run.ctl Y (g':=G (b.on a (.inRegion ops rest::k)) cs) (fun w=>?_) (h Stop b k cs hb hr hq)
  simp [G,stepG,stepG.exec,Frame.on,ho,Frame.finish]
 ·rename_i o ho
  split at h
  ·rename_i hw
   refine x_op ho hw (.inr (hsel o ho)) (A1y _ (fun nx u hn=>?_) (fun _ _ x=>x.elim) h)
   cases nx<;>first|exact hn.elim|exact hn.2|skip
   exact CallsX.mono hn fun e u' hR=>⟨u',Le.refl _,by cases e<;>first|exact hR.2|exact hR.2.elim⟩
  ·rename_i hw;exact A9a ho (by simpa using hw) h
theorem anyM_ops(hd:∀(i:Nat) o,ops[i]?=some o→A1t o.op=false):∀(fuel t:Nat) (listed:Array Bool) (a:Act) (v:View),AnyM P mn ops (fun a u=>Q .normal a u) fuel listed a v→
  A4r P mn rd ops (Region.linearise.go .any ops fuel t listed []) Q a v:=by
 intro fuel
 induction fuel with
 | zero=>intro t listed a v h;simp only [Region.linearise.go];exact A6r h.2
 | succ fuel ih=>
  intro t listed a v h
  obtain⟨h₀,h₁⟩:=h
  simp only [Region.linearise.go]
  change A4r P mn rd ops (match (Region.ready .any ops listed)[t % (Region.ready .any ops listed).length]? with
   | some i=>Region.linearise.go .any ops fuel (t / (Region.ready .any ops listed).length) (listed.setIfInBounds i true) [i]
   | none=>[].reverse) Q a v
  cases hi:(Region.ready .any ops listed)[t % (Region.ready .any ops listed).length]? with
  | none=>
   have hnil:Region.ready .any ops listed=[]:=by
    cases hr:Region.ready .any ops listed with
    | nil=>rfl
    | cons x xs=>
     rw [hr]at hi
     have hlt:t % (x::xs).length<(x::xs).length:=Nat.mod_lt _ sM
     rw [List.getElem?_eq_getElem hlt]at hi
     cases hi
   exact A6r (h₀ hnil)
  | some i=>
   simp only []
   rw [linearise_go_acc,List.reverse_singleton,List.singleton_append]
   exact opM_x (hd i) (B0v (fun a u _ hA=>ih _ _ a u hA) (h₁ i (List.mem_of_getElem? hi)))
theorem x_region_any{id:Nat}{a:Act}{v:View}(hm:P.follows .mixedOrders=true)(hd:ops.all (fun o=>!A1t o.op)=true)
  (h:AnyM P mn ops (fun a u=>Q .normal a u) ops.size (Array.replicate ops.size false) a v):wpX P mn rd (.region id ops true) Q a v:=
 A7y fun t=>by
  simp only [Region.schedule,hm,Bool.true_or,if_true]
  refine anyM_ops (fun i o ho=>?_) ops.size t _ a _ h
  have:=Array.all_eq_true_iff_forall_mem.1 hd o (Array.mem_of_getElem? ho)
  simpa using this
def QAt(P:Program)(mn:Who)(o:Oper)(a:Act)(v:View)(x:Value):Prop:=SemX P (execOp a.eval o) (fun nx u=>v.Le u∧match nx with
  | .value y=>y=x
  | .skip=>x=undef
  | .enter f args=>CallsX P mn f args (fun e u'=>e = .ret x∧v.Le u') u
  | _=>False) (fun _ _=>False) v
def YieldsX(P:Program)(mn:Who)(ops:Array Oper)(o:Oper)(x:Value)(a:Act)(v:View):Prop:=
 (Region.wanted o (yielded ops a.tmps)=true∧∀u,v.Le u→QAt P mn o a u x)∨(Region.wanted o (yielded ops a.tmps)=false∧x=undef)
theorem YieldsX.of_same{o:Oper}{x:Value}{a a':Act}{v u:View}(hl:v.Le u)(hy:YieldsX P mn ops o x a v)(he:execOp a'.eval o=execOp a.eval o)
  (hw:Region.wanted o (yielded ops a'.tmps)=Region.wanted o (yielded ops a.tmps)):YieldsX P mn ops o x a' u:=by
 unfold YieldsX QAt at *
 rw [he,hw]
 exact hy.imp (fun h=>⟨h.1,fun u' hu'=>h.2 u' (hl.trans hu')⟩) id
theorem B0x{u v:View}(h:u.Le v):∃F,v=u.union F∧Disj u F:=by
 refine⟨fun b=>if u b=none then v b else none,?_,?_⟩
 ·funext b
  unfold View.union
  cases hu:u b with
  | none=>simp only [hu,if_true]
  | some x=>simp [h _ _ hu]
 ·intro b
  cases hu:u b with
  | none=>exact .inl rfl
  | some x=>exact .inr (by simp [hu])
theorem A2x{u F:View}{r:Nat}{p:Bool}{o:Obj}:(u.union F).set r p o=(u.set r p o).union F:=by
 funext b
 unfold View.union View.set
 by_cases hb:b=r<;>simp [hb]
theorem B0y{u F:View}{r:Nat}{p:Bool}{o:Obj}(h:Disj u F)(hr:F r=none):Disj (u.set r p o) F:=by
 intro b
 unfold View.set
 by_cases hb:b=r
 ·subst hb;exact .inr hr
 ·simp only [hb,if_false];exact h b
theorem semX_frame{α:Type}(m:Sem α){K:α→View→Prop}{E:Value→View→Prop}{F:View}:∀{u:View},SemX P m K E u→Disj u F→
  SemX P m (fun a u'=>∃u1,u'=u1.union F∧Disj u1 F∧K a u1) (fun a u'=>∃u1,u'=u1.union F∧Disj u1 F∧E a u1) (u.union F):=by
 have hcl:∀{u:View} {b:Nat} {x:Bool×Obj},u b=some x→(u.union F) b=some x:=fun h=>A0g _ _ _ _ h
 have hF:∀{u:View} {b:Nat} {x:Bool×Obj},Disj u F→u b=some x→F b=none:=fun hd h=>(hd _).resolve_left (by rw [h];simp)
 induction m with
 | pure a=>exact fun h hd=>⟨_,rfl,hd,h⟩
 | load m a k ih=>
  rintro u ⟨h1,x,h2,h⟩ hd
  refine⟨h1,x,?_,ih _ h hd⟩
  unfold View.cell at h2⊢
  split at h2
  ·rename_i hb;rw [hcl hb];exact h2
  ·cases h2
 | store m a x k ih=>
  rintro u ⟨h1,h2,c,e,f,h3,h4,h5,h6,h⟩ hd
  refine⟨h1,h2,c,e,f,hcl h3,h4,h5,h6,?_⟩
  rw [A2x]
  exact ih h (B0y hd (hF hd h3))
 | new o k ih=>
  intro u h hd r hr
  have hur:u r=none:=by
   cases hu:u r with
   | none=>rfl
   | some x=>rw [hcl hu]at hr;cases hr
  have hFr:F r=none:=by
   cases hFr:F r with
   | none=>rfl
   | some x=>rw [A1l hd _ _ hFr]at hr;cases hr
  rw [A2x]
  exact ih _ (h r hur) (B0y hd hFr)
 | shape r k ih=>rintro u ⟨p,o,h1,h⟩ hd;exact⟨p,o,hcl h1,ih _ h hd⟩
 | freeze a n k ih=>
  rintro u ⟨h0,c,e,f,h1,h⟩ hd
  refine⟨h0,c,e,f,hcl h1,?_⟩
  rw [A2x]
  exact ih h (B0y hd (hF hd h1))
 | frozen a k ih=>rintro u ⟨p,o,h1,h⟩ hd;exact⟨p,o,hcl h1,ih _ h hd⟩
 | getObj r k ih=>rintro u ⟨p,o,h1,h2,h3,h⟩ hd;exact⟨p,o,hcl h1,h2,h3,ih _ h hd⟩
 | setObj r o k ih=>
  rintro u ⟨o',h1,h2,h3,h⟩ hd
  refine⟨o',hcl h1,h2,h3,?_⟩
  rw [A2x]
  exact ih h (B0y hd (hF hd h1))
 | choose q k ih=>
  intro u h hd
  rw [SemX]at h⊢
  split at h
  ·rw [if_pos ‹_›];exact ih _ h hd
  ·rw [if_neg ‹_›];exact fun t=>ih _ (h t) hd
 | sys c k ih=>exact fun h=>h.elim
 | program k ih=>exact fun h hd=>ih _ h hd
 | mark m k ih=>rintro u ⟨h1,h⟩ hd;exact⟨h1,ih h hd⟩
 | halt x=>intro u h hd;cases x<;>first|exact⟨_,rfl,hd,h⟩|exact h.elim
theorem A2u{u v F:View}(h:u.Le v)(hd:Disj v F):(u.union F).Le (v.union F):=by
 intro b x e
 unfold View.union at e⊢
 split at e
 ·rename_i y hy;cases e;rw [h _ _ hy]
 ·rw [(hd b).resolve_right (by rw [e];simp)];exact e
theorem opM_weaken{K:Act→View→Prop}(hK:∀a u v,View.Le u v→K a u→K a v){i:Nat}{a:Act}{u v:View}(hl:u.Le v)(h:OpM P mn ops i K a u):OpM P mn ops i K a v:=by
 obtain⟨F,rfl,hd⟩:=B0x hl
 unfold OpM at *
 split
 ·rename_i ho;simp only [ho]at h;exact hK _ _ _ hl h
 ·rename_i o ho
  simp only [ho]at h
  split
  ·rename_i hw
   simp only [hw,if_true]at h
   refine A1y _ (fun nx u' hn=>?_) (fun _ _ ⟨_,_,_,z⟩=>z) (semX_frame _ h hd)
   obtain⟨u1,rfl,hd1,hn⟩:=hn
   cases nx<;>first|exact hn.elim|exact⟨A2u hn.1 hd1,hK _ _ _ (A0g _ _) hn.2⟩|skip
   exact CallsX.mono (CallsX.frame hn hd1) fun e u' ⟨u2,h2,hd2,hR⟩=>⟨u',Le.refl _,by
    subst h2
    exact⟨A2u hR.1 hd2,by cases e<;>first|exact hK _ _ _ (A0g _ _) hR.2|exact hR.2⟩⟩
  ·rename_i hw;simp only [hw]at h;exact hK _ _ _ hl h
theorem B2i{K:Act→View→Prop}(hK:∀a u v,View.Le u v→K a u→K a v):∀(fuel:Nat) (listed:Array Bool) (a:Act) (u v:View),View.Le u v→AnyM P mn ops K fuel listed a u→AnyM P mn ops K fuel listed a v
 | 0,_,_,_,_,hl,h=>⟨h.1,hK _ _ _ hl h.2⟩
 | fuel+1,listed,a,u,v,hl,h=>⟨fun e=>hK _ _ _ hl (h.1 e),fun i hi=>opM_weaken (fun a u v hl' hA=>B2i hK fuel _ a u v hl' hA) hl (h.2 i hi)⟩
theorem YieldsX.opM{i:Nat}{o:Oper}{x:Value}{a:Act}{v:View}(hi:ops[i]?=some o)(hy:YieldsX P mn ops o x a v){K:Act→View→Prop}(hK:∀a u v,View.Le u v→K a u→K a v)(h:K (a.put o.dst x) v):OpM P mn ops i K a v:=by
 unfold Go.Pal.OpM
 simp only [hi]
 rcases hy with ⟨hw,hq⟩|⟨hw,rfl⟩
 ·simp only [hw,if_true]
  refine A1y _ (fun nx u hn=>?_) (fun _ _ z=>z) (hq v (Le.refl _))
  obtain⟨hl,hn⟩:=hn
  cases nx<;>first|exact hn.elim|skip
  ·cases hn;exact⟨hl,hK _ _ _ hl h⟩
  ·cases hn;exact⟨hl,hK _ _ _ hl h⟩
  ·exact CallsX.mono hn fun e u' hR=>⟨u',Le.refl _,hR.2,by obtain⟨rfl,hl'⟩:=hR;exact hK _ _ _ hl' h⟩
 ·simp only [hw,Bool.false_eq_true,if_false];exact h
theorem opM_put{j:Nat}{oi oj:Oper}{x:Value}{v:View}(hj:ops[j]?=some oj)(hap:oi.apart ops oj=true)(hsi:∀cs b,oi.op≠.select cs b)(hsj:∀cs b,oj.op≠.select cs b)
  {K:Act→View→Prop}{a:Act}(hy:YieldsX P mn ops oi x a v)(h:OpM P mn ops j K (a.put oi.dst x) v):OpM P mn ops j (fun a' u=>YieldsX P mn ops oi x a' u∧K (a'.put oi.dst x) u) a v:=by
 obtain⟨h1,h2,h3⟩:=Oper.apart_spec hap
 have keep:∀(u:View),v.Le u→∀y,YieldsX P mn ops oi x (a.put oj.dst y) u:=fun u hl y=>hy.of_same hl (execOp_put oi hsi a oj.dst y h3) (wanted_put oi a oj.dst y h3)
 unfold OpM at *
 simp only [hj]at *
 rw [wanted_put oj a oi.dst x h1]at h
 split
 ·rename_i hw
  simp only [hw,if_true]at h
  rw [execOp_put oj hsj a oi.dst x h1]at h
  refine A1y _ (fun nx u hn=>?_) (fun _ _ z=>z) h
  cases nx<;>first|exact hn.elim|skip
  ·exact⟨hn.1,keep _ hn.1 _,by rw [←Act.put_comm a x _ h2];exact hn.2⟩
  ·exact⟨hn.1,keep _ hn.1 _,by rw [←Act.put_comm a x _ h2];exact hn.2⟩
  ·exact CallsX.mono hn fun e u' hR=>⟨u',Le.refl _,hR.1,by
    cases e
    ·exact⟨keep _ hR.1 _,by rw [←Act.put_comm a x _ h2];exact hR.2⟩
    ·exact hR.2⟩
 ·rename_i hw
  simp only [hw]at h
  exact⟨keep _ (Le.refl _) _,by rw [←Act.put_comm a x undef h2];exact h⟩
theorem anyM_first{K:Act→View→Prop}(hK:∀fuel listed a u v,View.Le u v→AnyM P mn ops K fuel listed a u→AnyM P mn ops K fuel listed a v){i:Nat}{oi:Oper}{x:Value}(hi:ops[i]?=some oi)(hsel:∀(j:Nat) (o:Oper) cs b,ops[j]?=some o→o.op≠.select cs b) :
  ∀ (fuel:Nat) (listed:Array Bool) (a:Act) (v:View),
   (∀j oj,ops[j]?=some oj→j≠i→listed.getD j true=false→(∀e∈oj.after,Region.binds .any e=true→e.on≠i)→oi.apart ops oj=true)→
   i∈Region.ready .any ops listed→YieldsX P mn ops oi x a v→
   AnyM P mn ops K fuel (listed.setIfInBounds i true) (a.put oi.dst x) v→AnyM P mn ops K (fuel+1) listed a v:=by
 intro fuel
 induction fuel with
 | zero=>
  intro listed a v _ hr hy H
  refine⟨fun h=>(by rw [h]at hr;cases hr),fun j hj=>?_⟩
  by_cases hji:j=i
  ·subst hji;exact hy.opM hi (hK 0 _) H
  ·have:=ready_mono hj hji
   rw [H.1]at this
   cases this
 | succ fuel ih=>
  intro listed a v hfree hr hy H
  refine⟨fun h=>(by rw [h]at hr;cases hr),fun j hj=>?_⟩
  by_cases hji:j=i
  ·subst hji;exact hy.opM hi (hK _ _) H
  ·have h1:=H.2 j (ready_mono hj hji)
   obtain⟨hjun,oj,hoj,hall⟩:=mem_ready.1 hj
   have hnot:∀e∈oj.after,Region.binds .any e=true→e.on≠i:=fun e he hb heq=>by
    have h1:=hall e he hb
    have h0:=(mem_ready.1 hr).1
    rw [heq]at h1
    rcases Nat.lt_or_ge i listed.size with h'|h'
    ·simp [h']at h0 h1;rw [h0]at h1;cases h1
    ·simp [Array.getElem?_eq_none h']at h1
   have h2:=opM_put hoj (hfree j oj hoj hji hjun hnot) (fun cs b=>hsel i oi cs b hi) (fun cs b=>hsel j oj cs b hoj) hy h1
   have hfree':∀k ok,ops[k]?=some ok→k≠i→(listed.setIfInBounds j true).getD k true=false→
     (∀e∈ok.after,Region.binds .any e=true→e.on≠i)→oi.apart ops ok=true:=fun k ok hk hki hun hno=>by
    refine hfree k ok hk hki ?_ hno
    by_cases hjk:j=k
    ·subst hjk;exact hjun
    ·rw [getD_set_ne true hjk]at hun;exact hun
   refine B0v (fun a' u _ h3=>ih (listed.setIfInBounds j true) a' u hfree' (ready_mono hr (Ne.symm hji)) h3.1 ?_) h2
   rw [Array.setIfInBounds_comm _ _ hji]
   exact h3.2
theorem anyM_take{K:Act→View→Prop}(hK:∀a u v,View.Le u v→K a u→K a v){i:Nat}{oi:Oper}{x:Value}{fuel:Nat}{listed:Array Bool}{a:Act}{v:View}(hs:Region.noSelect ops=true)(hi:ops[i]?=some oi)
  (hr:(Region.ready .any ops listed).contains i=true)(hf:Region.free .any ops listed i=true)(hy:YieldsX P mn ops oi x a v)
  (h:AnyM P mn ops K fuel (listed.setIfInBounds i true) (a.put oi.dst x) v):AnyM P mn ops K (fuel+1) listed a v:=
 anyM_first (fun fuel listed a u v hl hA=>B2i hK fuel listed a u v hl hA) hi (Region.noSelect_spec hs) fuel listed a v (Region.free_spec hi hf) (by simpa using hr) hy h
def LexX(P:Program)(mn:Who)(ops:Array Oper)(K:Act→View→Prop):List Oper→Act→View→Prop
 | [],a,v=>K a v
 | o::r,a,v=>∃x,YieldsX P mn ops o x a v∧LexX P mn ops K r (a.put o.dst x) v
theorem anyM_lex{K:Act→View→Prop}(hK:∀a u v,View.Le u v→K a u→K a v)(hs:Region.noSelect ops=true):∀(l:List Oper) (k:Nat) (listed:Array Bool) (a:Act) (v:View),(∀j,l[j]?=ops[k+j]?)→
  Region.lexFrom .any ops l.length k listed=true→LexX P mn ops K l a v→AnyM P mn ops K l.length listed a v
 | [],_,_,_,_,_,hB,h=>⟨by simpa [Region.lexFrom]using hB,h⟩
 | o::l,k,listed,a,v,hl,hB,h=>by
  have h0:ops[k]?=some o:=by simpa using (hl 0).symm
  simp only [List.length_cons,Region.lexFrom,Bool.and_eq_true]at hB
  obtain⟨⟨hr,hf⟩,hB'⟩:=hB
  obtain⟨x,hy,hA⟩:=h
  exact anyM_take hK hs h0 hr hf hy (anyM_lex hK hs l (k+1) _ _ _ (fun j=>by have:=hl (j+1);simpa [Nat.add_assoc,Nat.add_comm 1 j]using this) hB' hA)
theorem x_region_lex{id:Nat}{a:Act}{v:View}(hm:P.follows .mixedOrders=true)(hB:(Region.lexB .any ops&&ops.all (fun o=>!A1t o.op))=true)
  (h:LexX P mn ops (fun a u=>Q .normal a u) ops.toList a v):wpX P mn rd (.region id ops true) Q a v:=by
 simp only [Bool.and_eq_true,Region.lexB]at hB
 obtain⟨⟨h1,h2⟩,h3⟩:=hB
 have h':LexX P mn ops (fun a u=>∃u',View.Le u' u∧Q .normal a u') ops.toList a v:=by
  have key:∀(l:List Oper) (a:Act),LexX P mn ops (fun a u=>Q .normal a u) l a v→LexX P mn ops (fun a u=>∃u',View.Le u' u∧Q .normal a u') l a v:=by
   intro l
   induction l with
   | nil=>exact fun a h=>⟨v,Le.refl _,h⟩
   | cons o l ih=>rintro a ⟨x,hy,hA⟩;exact⟨x,hy,ih _ hA⟩
  exact key _ _ h
 have hA:=anyM_lex (P:=P) (ops:=ops) (fun a u v hl ⟨u',hu,hq⟩=>⟨u',hu.trans hl,hq⟩) h1 ops.toList 0 (Array.replicate ops.size false) a v sM (by simpa using h2) h'
 exact A4m (x_region_any (Q:=fun e a u=>e = .normal∧∃u',View.Le u' u∧Q .normal a u') hm h3 (by
  have hk:(fun(a:Act) (u:View)=>(Exit.normal=Exit.normal∧∃u',View.Le u' u∧Q .normal a u'))=(fun a u=>∃u',View.Le u' u∧Q .normal a u'):=by funext a u;simp
  rw [hk];simpa using hA)) fun e a u ⟨he,u',hl,hq⟩=>⟨u',hl,he ▸ hq⟩
end
abbrev Regs:=List (Nat×Value)
def Regs.get:Regs→Nat→Option Value
 | [],_=>none
 | (i,x)::r,t=>bif Nat.beq i t then some x else Regs.get r t
def Regs.val(ρ:Regs):Operand→Option Value
 | .tmp t=>ρ.get t
 | .const x=>some x
 | .global g=>some (.pointer (some ⟨g,0,none⟩))
 | .func f=>some (.func (.func f) #[] #[])
abbrev A0e:=List (Nat×Array Value×TypeId)
def A0c:A0e→View
 | [],_=>none
 | (i,c,T)::r,b=>if b=i then some (true,.cells c T (0,0))else A0c r b
structure St where
 ds:List Deferred
 ρ:Regs
 β:A0e
structure Fits(n:Nat)(σ:St)(a:Act):Prop where
 size:a.tmps.size=n
 defers:a.defers=σ.ds
 get:∀t x,σ.ρ.get t=some x→a.tmps[t]?=some x
structure Bok(β:A0e)(v:View):Prop where
 nodup:(β.map (·.1)).Nodup
 disj:Disj v (A0c β)
def Post(n:Nat)(Q:Exit→St→View→Prop):Exit→Act→View→Prop:=fun e a w=>
 ∃σ u,Q e σ u∧Fits n σ a∧Bok σ.β u∧(u.union (A0c σ.β)).Le w
def XC(P:Program)(mn:Who)(rd:Option Nat)(n:Nat)(c:Code)(Q:Exit→St→View→Prop)(σ:St)(v:View):Prop:=
 ∀a,Fits n σ a→Bok σ.β v→wpX P mn rd c (Post n Q) a (v.union (A0c σ.β))
def XO(P:Program)(mn:Who)(rd:Option Nat)(n:Nat)(ops:Array Oper)(l:List Nat)(Q:Exit→St→View→Prop)(σ:St)(v:View):Prop:=
 ∀a,Fits n σ a→Bok σ.β v→A4r P mn rd ops l (Post n Q) a (v.union (A0c σ.β))
def SubR:Regs→Regs→Prop
 | [],_=>True
 | (t,x)::r,ρ=>ρ.get t=some x∧SubR r ρ
noncomputable def ind (p q:Nat×Array Value×TypeId):Nat:=@ite _ (p=q) (Classical.propDecidable _) 1 0
noncomputable def cnt (p:Nat×Array Value×TypeId):A0e→Nat
 | []=>0
 | q::r=>ind p q+cnt p r
theorem B2b(p:Nat×Array Value×TypeId):cnt p []=0:=rfl
theorem A3u(p q:Nat×Array Value×TypeId)(r:A0e):cnt p (q::r)=ind p q+cnt p r:=rfl
theorem A0n(p:Nat×Array Value×TypeId)(l m:A0e):cnt p (l++m)=cnt p l+cnt p m:=by
 induction l with
 | nil=>simp [cnt]
 | cons q r ih=>simp only [List.cons_append,cnt,ih];omega
theorem ind_self(p:Nat×Array Value×TypeId):ind p p=1:=by simp [ind]
theorem cnt_pos{p:Nat×Array Value×TypeId}{l:A0e}:0<cnt p l↔p∈l:=by
 induction l with
 | nil=>simp [cnt]
 | cons q r ih=>
  simp only [cnt,List.mem_cons,←ih,ind]
  by_cases h:p=q<;>simp [h];omega
def Subm(τ β:A0e):Prop:=∀p,cnt p τ≤cnt p β
theorem A9i:∀{τ β:A0e},Subm τ β→∃r,β.Perm (τ++r)
 | [],β,_=>⟨β,List.Perm.refl _⟩
 | p::τ,β,h=>by
  have hp:p∈β:=cnt_pos.1 (by have:=h p;simp only [cnt,ind_self]at this;omega)
  obtain⟨l,m,rfl⟩:=List.append_of_mem hp
  have h':Subm τ (l++m):=fun q=>by have:=h q;simp only [cnt,A0n]at this⊢;omega
  obtain⟨r,hr⟩:=A9i h'
  exact⟨r,List.perm_middle.trans (hr.cons p)⟩
structure Sub(τ σ:St):Prop where
 ds:τ.ds=σ.ds
 regs:SubR τ.ρ σ.ρ
 boxes:Subm τ.β σ.β
theorem SubR.get:∀{τ ρ:Regs},SubR τ ρ→∀t x,τ.get t=some x→ρ.get t=some x
 | [],_,_,t,x,h=>by simp [Regs.get]at h
 | (i,y)::r,ρ,h,t,x,he=>by
  simp only [Regs.get]at he
  cases hb:Nat.beq i t with
  | true=>
   rw [hb]at he
   simp only [cond_true,Option.some.injEq]at he
   subst he
   have:=Nat.eq_of_beq_eq_true hb
   subst this
   exact h.1
  | false=>rw [hb]at he;exact SubR.get h.2 t x he
theorem A9y{β:A0e}{b:Nat}(h:b∉β.map (·.1)):A0c β b=none:=by
 induction β with
 | nil=>rfl
 | cons p r ih=>
  obtain⟨i,c,T⟩:=p
  simp only [List.map_cons,List.mem_cons,not_or]at h
  simp only [A0c,h.1,if_false]
  exact ih h.2
theorem A4h{β:A0e}{b:Nat}{x:Bool×Obj}(h:A0c β b=some x):b∈β.map (·.1):=by
 apply Classical.byContradiction
 intro hn
 rw [A9y hn]at h
 cases h
theorem A2h{β:A0e}(hn:(β.map (·.1)).Nodup){b:Nat}{c:Array Value}{T:TypeId}(h:(b,c,T)∈β):A0c β b=some (true,.cells c T (0,0)):=by
 induction β with
 | nil=>cases h
 | cons p r ih=>
  obtain⟨i,c',T'⟩:=p
  simp only [List.map_cons,List.nodup_cons]at hn
  rcases List.mem_cons.1 h with e|e
  ·cases e;simp [A0c]
  ·have:b≠i:=fun e'=>hn.1 (e' ▸ List.mem_map.2 ⟨_,e,Y⟩)
   simp only [A0c,this,if_false]
   exact ih hn.2 e
theorem A6b{τ β:A0e}(h:Subm τ β)(hn:(β.map (·.1)).Nodup):(τ.map (·.1)).Nodup∧(A0c τ).Le (A0c β):=by
 obtain⟨r,hr⟩:=A9i h
 have h1:((τ++r).map (·.1)).Nodup:=(hr.map _).nodup_iff.1 hn
 have hτ:(τ.map (·.1)).Nodup:=by rw [List.map_append]at h1;exact(List.nodup_append.1 h1).1
 refine⟨hτ,fun b x e=>?_⟩
 have hm:=A4h e
 obtain⟨⟨i,c,T⟩,hp,rfl⟩:=List.mem_map.1 hm
 rw [A2h hτ hp]at e
 rw [A2h hn (hr.mem_iff.2 (List.mem_append_left _ hp))]
 exact e
theorem union_le2{u v F G:View}(h:u.Le v)(k:F.Le G)(hd:Disj v G):(u.union F).Le (v.union G):=by
 intro b x e
 unfold View.union at e⊢
 split at e
 ·rename_i y hy;cases e;rw [h _ _ hy]
 ·have hg:=k _ _ e
  rw [(hd b).resolve_right (by rw [hg];simp)]
  exact hg
theorem Sub.fits{n:Nat}{τ σ:St}{a:Act}(h:Sub τ σ)(hf:Fits n σ a):Fits n τ a:=⟨hf.size,hf.defers.trans h.ds.symm,fun t x e=>hf.get t x (h.regs.get t x e)⟩
theorem Sub.bok{τ σ:St}{u v:View}(h:Sub τ σ)(hl:u.Le v)(hb:Bok σ.β v):Bok τ.β u∧(u.union (A0c τ.β)).Le (v.union (A0c σ.β)):=by
 obtain⟨hn,hs⟩:=A6b h.boxes hb.nodup
 refine⟨⟨hn,fun b=>?_⟩,union_le2 hl hs hb.disj⟩
 rcases hb.disj b with e|e
 ·left
  cases hu:u b with
  | none=>rfl
  | some x=>rw [hl _ _ hu]at e;cases e
 ·right
  cases hu:A0c τ.β b with
  | none=>rfl
  | some x=>rw [hs _ _ hu]at e;cases e
section
variable{P:Program}{mn:Who}{rd:Option Nat}{n:Nat}{Q Q':Exit→St→View→Prop}{σ τ:St}{v u:View}
theorem A5w{a:Act}{e:Exit}(hq:Q e σ v)(hf:Fits n σ a)(hb:Bok σ.β v):Post n Q e a (v.union (A0c σ.β)):=⟨σ,v,hq,hf,hb,Le.refl _⟩
theorem XC_sub{c:Code}(h:XC P mn rd n c Q τ u)(hs:Sub τ σ)(hl:u.Le v):XC P mn rd n c Q σ v:=fun a hf hb=>
 wpX_weaken (h a (hs.fits hf) (hs.bok hl hb).1) (hs.bok hl hb).2
theorem B2m{c:Code}(h:XC P mn rd n c Q σ v)(hq:∀e σ u,Q e σ u→Q' e σ u):XC P mn rd n c Q' σ v:=fun a hf hb=>
 A4m (h a hf hb) fun _ _ w ⟨σ',u',h1,h2⟩=>⟨w,Le.refl _,σ',u',hq _ _ _ h1,h2⟩
theorem B2l(h:Q .normal σ v):XC P mn rd n .skip Q σ v:=fun _ hf hb=>x_skip (A5w h hf hb)
theorem B2n{id:Nat}(h:Q (.exit id) σ v):XC P mn rd n (.exit id) Q σ v:=fun _ hf hb=>x_exit (A5w h hf hb)
theorem XC_ret(h:Q .ret σ v):XC P mn rd n .ret Q σ v:=fun _ hf hb=>x_ret (A5w h hf hb)
theorem XC_seq{x y:Code}(h:XC P mn rd n x (fun e σ' v'=>match e with | .normal=>XC P mn rd n y Q σ' v'|e=>Q e σ' v') σ v):XC P mn rd n (.seq x y) Q σ v:=fun a hf hb=>
 x_seq (A4m (h a hf hb) fun e a' w ⟨σ',u',h1,h2,h3,h4⟩=>by
  cases e with
  | normal=>exact⟨u'.union (A0c σ'.β),h4,h1 a' h2 h3⟩
  | _=>exact⟨w,Le.refl _,σ',u',h1,h2,h3,h4⟩)
theorem XC_seq_mid{x y:Code}(M:St→View→Prop)(h:XC P mn rd n x (fun e σ' v'=>match e with | .normal=>∃τ u,M τ u∧Sub τ σ'∧u.Le v'|e=>Q e σ' v') σ v)(h':∀τ u,M τ u→XC P mn rd n y Q τ u):XC P mn rd n (.seq x y) Q σ v:=
 XC_seq (B2m h fun e σ' v' hq=>by
  cases e with
  | normal=>obtain⟨τ,u,hm,hs,hl⟩:=hq;exact XC_sub (h' τ u hm) hs hl
  | _=>exact hq)
theorem XC_block{id:Nat}{c:Code}(h:XC P mn rd n c (fun e σ' v'=>match e with | .normal=>Q .normal σ' v' | .exit j=>(bif Nat.beq j id then Q .normal σ' v' else Q (.exit j) σ' v')|e=>Q e σ' v') σ v):XC P mn rd n (.block id c) Q σ v:=fun a hf hb=>
 x_block (A4m (h a hf hb) fun e a' w ⟨σ',u',h1,h2,h3,h4⟩=>by
  refine⟨w,Le.refl _,?_⟩
  cases e with
  | exit j=>
   simp only at h1⊢
   by_cases hj:j=id
   ·subst hj
    rw [if_pos rfl]
    have:Nat.beq j j=true:=Nat.beq_refl j
    rw [this]at h1
    exact⟨σ',u',h1,h2,h3,h4⟩
   ·rw [if_neg hj]
    have:Nat.beq j id=false:=by
     cases hb:Nat.beq j id with
     | true=>exact absurd (Nat.eq_of_beq_eq_true hb) hj
     | false=>rfl
    rw [this]at h1
    exact⟨σ',u',h1,h2,h3,h4⟩
  | _=>exact⟨σ',u',h1,h2,h3,h4⟩)
theorem A0k{a:Act}(hf:Fits n σ a):∀x y,σ.ρ.val x=some y→a.eval x=y:=by
 intro x y h
 cases x with
 | tmp t=>simp only [Regs.val]at h;simp only [Act.eval];rw [Array.getD_eq_getD_getElem?,hf.get t y h];rfl
 | const z=>simp only [Regs.val,Option.some.injEq]at h;subst h;rfl
 | global g=>simp only [Regs.val,Option.some.injEq]at h;subst h;rfl
 | func f=>simp only [Regs.val,Option.some.injEq]at h;subst h;rfl
theorem A1i{c:Operand}{x y:Code}{t:Bool}(hc:σ.ρ.val c=some (.bool t))(h1:t=true→XC P mn rd n x Q σ v)(h2:t=false→XC P mn rd n y Q σ v):XC P mn rd n (.cond c x y) Q σ v:=fun a hf hb=>
 x_cond (A0k hf _ _ hc) (by cases t<;>simp only [if_true,Bool.false_eq_true,if_false]<;>first|exact h1 rfl a hf hb|exact h2 rfl a hf hb)
theorem A5o{c:Operand}{x y:Code}(hc:σ.ρ.val c=some (.bool true))(h1:XC P mn rd n x Q σ v):XC P mn rd n (.cond c x y) Q σ v:=A1i hc (fun _=>h1) (fun h=>by cases h)
theorem A4p{c:Operand}{x y:Code}(hc:σ.ρ.val c=some (.bool false))(h1:XC P mn rd n y Q σ v):XC P mn rd n (.cond c x y) Q σ v:=A1i hc (fun h=>by cases h) (fun _=>h1)
theorem XC_loop{body:Code}{α:Type}(st:α→St)(J:α→View→Prop){r:α→α→Prop}(wf:WellFounded r)(x:α)(hs:Sub (st x) σ)(hl:u.Le v)(hj:J x u)
  (round:∀x u,J x u→XC P mn rd n body (fun e σ' u'=>match e with | .normal=>∃y w,r y x∧Sub (st y) σ'∧w.Le u'∧J y w|e=>Q e σ' u') (st x) u):XC P mn rd n (.loop body) Q σ v:=fun a hf hb=>by
 refine wpX_weaken (x_loop (α:=α) (fun x a w=>∃u,J x u∧Fits n (st x) a∧Bok (st x).β u∧w=u.union (A0c (st x).β)) wf x ?_ ⟨u,hj,hs.fits hf,(hs.bok hl hb).1,Y⟩) (hs.bok hl hb).2
 rintro x a w ⟨u,hj,hf,hb,rfl⟩
 refine A4m (round x u hj a hf hb) fun e a' w ⟨σ',u',h1,h2,h3,h4⟩=>?_
 cases e with
 | normal=>
  obtain⟨y,w',hy,hs',hl',hj'⟩:=h1
  exact⟨w,Le.refl _,y,_,(hs'.bok hl' h3).2.trans h4,hy,w',hj',hs'.fits h2,(hs'.bok hl' h3).1,Y⟩
 | _=>exact⟨w,Le.refl _,σ',u',h1,h2,h3,h4⟩
theorem XC_region{id:Nat}{ops:Array Oper}{l:List Nat}(hl:List.range ops.size=l)(h:XO P mn rd n ops l Q σ v):XC P mn rd n (.region id ops false) Q σ v:=fun a hf hb=>x_region (hl ▸ h a hf hb)
theorem XO_nil{ops:Array Oper}(h:Q .normal σ v):XO P mn rd n ops [] Q σ v:=fun _ hf hb=>A6r (A5w h hf hb)
def putR(d:Option Tmp)(x:Value)(ρ:Regs):Regs:=
 match d with
 | some t=>(t,x)::ρ
 | none=>ρ
def A2p(n:Nat):Option Tmp→Bool
 | some t=>Nat.blt t n
 | none=>true
def A4s(ops:Array Oper)(o:Oper)(ρ:Regs):Option Bool:=
 match o.guard with
 | none=>some true
 | some (j,want)=>match (ops[j]?).bind (·.dst)with
  | some d=>match ρ.get d with
   | some (.bool b)=>some (b==want)
   | some _=>some false
   | none=>none
  | none=>none
theorem A0x{a:Act}{d:Option Tmp}{x:Value}(hf:Fits n σ a)(hd:A2p n d=true):Fits n {σ with ρ:=putR d x σ.ρ } (a.put d x):=by
 cases d with
 | none=>exact hf
 | some t=>
  have h1:t+1≤n:=by simpa [A2p,Nat.blt]using hd
  have hlt:t<n:=h1
  refine⟨by simp [Act.put,hf.size],hf.defers,fun s y h=>?_⟩
  simp only [putR,Regs.get]at h
  cases hb:Nat.beq t s with
  | true=>
   rw [hb]at h
   simp only [cond_true,Option.some.injEq]at h
   have:=Nat.eq_of_beq_eq_true hb
   subst this
   subst h
   simp [Act.put,hf.size,hlt]
  | false=>
   rw [hb]at h
   have hne:t≠s:=fun e=>by subst e;rw [Nat.beq_refl]at hb;cases hb
   simp only [Act.put,Array.getElem?_setIfInBounds_ne hne]
   exact hf.get s y h
theorem A0m{ops:Array Oper}{o:Oper}{a:Act}{t:Bool}(hf:Fits n σ a)(h:A4s ops o σ.ρ=some t):Region.wanted o (yielded ops a.tmps)=t:=by
 unfold A4s at h
 unfold Region.wanted
 cases hg:o.guard with
 | none=>rw [hg]at h;simpa using h
 | some jw=>
  obtain⟨j,want⟩:=jw
  rw [hg]at h
  simp only at h⊢
  split at h
  ·rename_i d hd
   split at h
   ·rename_i b hb
    have:yielded ops a.tmps j=some b:=by
     unfold yielded
     rw [hd]
     simp only [Option.bind_some]
     rw [hf.get d _ hb]
    rw [this]
    cases h
    cases b<;>cases want<;>rfl
   ·rename_i x hx hb
    have:yielded ops a.tmps j=none:=by
     unfold yielded
     rw [hd]
     simp only [Option.bind_some]
     rw [hf.get d _ hb]
     cases x<;>first|rfl|exact absurd rfl (hx _)
    rw [this]
    cases h
    rfl
   ·cases h
  ·cases h
theorem XO_skip{ops:Array Oper}{i:Nat}{rest:List Nat}{o:Oper}(ho:ops[i]?=some o)(hw:A4s ops o σ.ρ=some false)(hd:A2p n o.dst=true)
  (h:XO P mn rd n ops rest Q {σ with ρ:=putR o.dst undef σ.ρ } v):XO P mn rd n ops (i::rest) Q σ v:=fun a hf hb=>
 A9a ho (A0m hf hw) (h _ (A0x hf hd) hb)
theorem XO_split{ops:Array Oper}{l:List Nat}(d:Nat){b:Bool}(hd:σ.ρ.get d=some (.bool b))(h1:b=true→XO P mn rd n ops l Q {σ with ρ:=(d,.bool true)::σ.ρ } v)
  (h2:b=false→XO P mn rd n ops l Q {σ with ρ:=(d,.bool false)::σ.ρ } v):XO P mn rd n ops l Q σ v:=fun a hf hb=>by
 have key:∀c:Bool,b=c→Fits n {σ with ρ:=(d,.bool c)::σ.ρ } a:=by
  rintro c rfl
  refine⟨hf.size,hf.defers,fun s y h=>?_⟩
  simp only [Regs.get]at h
  cases hbq:Nat.beq d s with
  | true=>
   rw [hbq]at h
   simp only [cond_true,Option.some.injEq]at h
   have:=Nat.eq_of_beq_eq_true hbq
   subst this
   subst h
   exact hf.get _ _ hd
  | false=>rw [hbq]at h;exact hf.get s y h
 cases b with
 | true=>exact h1 rfl a (key true rfl) hb
 | false=>exact h2 rfl a (key false rfl) hb
theorem XO_sem{ops:Array Oper}{i:Nat}{rest:List Nat}{o:Oper}(ho:ops[i]?=some o)(hw:A4s ops o σ.ρ=some true)(hd:rd=none∨A1t o.op=false)(hn:A2p n o.dst=true)
  (h:∀ev:Operand→Value,(∀x y,σ.ρ.val x=some y→ev x=y)→Bok σ.β v→SemX P (execOp ev o) (fun nx w=>match nx with
    | .value x=>∃β' u,(Bok β' u∧(u.union (A0c β')).Le w)∧XO P mn rd n ops rest Q {σ with ρ:=putR o.dst x σ.ρ,β:=β' } u
    | .skip=>∃β' u,(Bok β' u∧(u.union (A0c β')).Le w)∧XO P mn rd n ops rest Q {σ with ρ:=putR o.dst undef σ.ρ,β:=β' } u
    | .defer d=>rd=none∧∃β' u,(Bok β' u∧(u.union (A0c β')).Le w)∧XO P mn rd n ops rest Q ⟨d::σ.ds,putR o.dst undef σ.ρ,β'⟩ u
    | .enter f args=>CallsX P mn f args (fun e w'=>∃β' u,(Bok β' u∧(u.union (A0c β')).Le w')∧match e with
      | .ret x=>XO P mn rd n ops rest Q {σ with ρ:=putR o.dst x σ.ρ,β:=β' } u
      | .pan ch=>Q (.panic ch) {σ with β:=β' } u) w
    | .round l f tmps assign body=>RoundX P mn l f tmps assign body (fun e w'=>∃β' u,(Bok β' u∧(u.union (A0c β')).Le w')∧match e with
      | .ret x=>XO P mn rd n ops rest Q {σ with ρ:=putR o.dst x σ.ρ,β:=β' } u
      | .pan ch=>Q (.panic ch) {σ with β:=β' } u) w
    | _=>False) (fun x w=>∃u,u.Le w∧Q (.panic [{v:=x,recovered:=false }]) {σ with β:=[] } u) (v.union (A0c σ.β))):XO P mn rd n ops (i::rest) Q σ v:=fun a hf hb=>by
 refine x_op ho (A0m hf hw) hd (A1y _ (fun nx w hK=>?_) (fun x w hE=>?_) (h a.eval (A0k hf) hb))
 ·have fp:∀x β',Fits n {σ with ρ:=putR o.dst x σ.ρ,β:=β' } (a.put o.dst x):=fun x β'=>⟨(A0x hf hn).size,(A0x hf hn).defers,(A0x (x:=x) hf hn).get⟩
  cases nx with
  | value x=>obtain⟨β',u,⟨h1,h2⟩,h3⟩:=hK;exact A3p (h3 _ (fp x β') h1) h2
  | skip=>obtain⟨β',u,⟨h1,h2⟩,h3⟩:=hK;exact A3p (h3 _ (fp undef β') h1) h2
  | defer d=>
   obtain⟨hrd,β',u,⟨h1,h2⟩,h3⟩:=hK
   refine⟨hrd,A3p (h3 _ ?_ h1) h2⟩
   have:=A0x (σ:={σ with ds:=d::σ.ds }) (a:={a with defers:=d::a.defers }) (x:=undef) ⟨hf.size,by simp [hf.defers],hf.get⟩ hn
   exact⟨this.size,this.defers,this.get⟩
  | enter f args=>
   refine CallsX.mono hK fun e w' hR=>⟨w',Le.refl _,?_⟩
   obtain⟨β',u,⟨h1,h2⟩,h3⟩:=hR
   cases e with
   | ret x=>exact A3p (h3 _ (fp x β') h1) h2
   | pan ch=>exact⟨_,u,h3,⟨hf.size,hf.defers,hf.get⟩,h1,h2⟩
  | round l f tmps assign body=>
   intro Stop c cs hc hk
   refine hK Stop c cs hc fun e w' hR=>?_
   obtain⟨β',u,⟨h1,h2⟩,h3⟩:=hR
   refine hk e w' ?_
   cases e with
   | ret x=>exact A3p (h3 _ (fp x β') h1) h2
   | pan ch=>exact⟨_,u,h3,⟨hf.size,hf.defers,hf.get⟩,h1,h2⟩
  | _=>exact hK.elim
 ·obtain⟨u,h1,h2⟩:=hE
  refine⟨_,u,h2,⟨hf.size,hf.defers,hf.get⟩,⟨by simp,fun b=>.inr Y⟩,?_⟩
  intro b y e
  unfold View.union at e
  split at e
  ·rename_i hy;cases e;exact h1 _ _ hy
  ·simp [A0c]at e
end
end Go.Pal
end
