/- 'palfreylaw12.TollBytes' returns true for every argument, whatever the goroutines of its calls do, and the arguments read as they did, as its row says it. No condition. -/
import Derived.ChangeSame
import Derived.Conc.Holds
import Derived.Conc.LeavingOf
import Derived.Deep.Fields
import Derived.Deep.Slices
import Derived.Handed
import Derived.JoinedOf
import Derived.Lib.SmallJoins
import Derived.OpenShut
import Derived.ProofKit
import Derived.WalkKit
import Derived.Test.YtclejblcnfaeaaaGreatQbytesa
set_option linter.all false
section
namespace Go.Pal
open Go Go.Conc View
theorem lies_whole{P:Program}{e:TypeId}{k m n:Nat}(hd:P.depth≠0)(h1:P.cellsOf e=k)(hk:k≠0)(h:n≤m / k):liesAt P P.depth e (m / P.cellsOf e) 0 e n=true:=by
 obtain⟨d,hd⟩:=Nat.exists_eq_succ_of_ne_zero hd
 have hs:sameLayout P P.depth e e=true:=by rw [hd];unfold sameLayout;simp
 have hr:rowAt P (sameLayout P P.depth · e) P.depth e (m / P.cellsOf e) 0 n=true:=by
  rw [h1]
  generalize hg:(fun t=>sameLayout P P.depth t e)=g
  have hge:g e=true:=by rw [←hg];exact hs
  rw [hd]
  unfold rowAt
  simp only [h1,if_neg hk,Nat.zero_div,Nat.zero_mod,Nat.zero_add]
  simp [hge,h]
 generalize hg:P.depth=q at *
 subst hd
 unfold liesAt
 rw [hg,hr];rfl
section
variable{P:Program}{mn:Who}(T:Tab P){rd:Option Nat}{n:Nat}{Q:Exit→St→View→Prop}{ds:List Deferred}{ρ:Regs}{β:A0e}{v:View}{K:St→View→Prop}
 {ops:Array Oper}{i:Nat}{d:Nat}{ty:TypeId}{pos:String}{af:Array Edge}{gu:Option (Nat×Bool)}
theorem A_appendS{t t' e:TypeId}{s:ByteArray}{k by_ m len cap:Nat}{y y2:Operand}{z:Value}{a:Option Addr}{cs xs:List Value}(seg drop rest:A0e)(ho:ops[i]?=some ⟨some d,.call {callee:=.builtin .append,args:=#[y,y2],argTypes:=#[t,t'] },ty,pos,af,gu⟩)(hw:A0p ops gu ρ=some true)(hn:Nat.blt d n=true)
  (hy:ρ.val y=some (.slice a len cap))(hy2:ρ.val y2=some (.string s))
  (ht:T.und t=some (.slice e))(hsn:s.size=m)(ht':T.und t'=some .string)(hs:T.siz e=some k)(hby:T.byt e=some by_)(hz:T.zer e=some z)(hzs:z.cells.size=k)
  (hsplit:∀p,cnt p β=cnt p (seg++(drop++rest)))(hS:OwnS e k seg a len cap cs)(hx:xs=strV s)(hxl:xs.length=m*k)(hone:xs.all A2k=true)
  (hb:(2*(len+m)+768)*by_≤2^48)(hp:0<by_)
  (h:∀seg' a' cap',OwnS e k seg' a' (len+m) cap' (cs++xs)→K ⟨ds,(d,.slice a' (len+m) cap')::ρ,seg'++rest⟩ v):XOp P mn rd n ops i Q K ⟨ds,ρ,β⟩ v:=
 Op_appendS T rest drop ho (A0j hw) hn rfl hy hy2 ht hsn ht' hs hby hz hzs hsplit hS hx hxl hone hb hp h
include T in
theorem sx_equal_same{E:Value→View→Prop}{w:View}{t e:TypeId}{a:Addr}{k:Nat}{K:Bool→View→Prop}(ht:T.und t=some (.pointer e))(hs:T.siz e=some (k+1))(h:K true w):SemX P (Op.equal t (.pointer (some a)) (.pointer (some a))) K E w:=by
 unfold Op.equal Op.maxDepth
 rw [show(10000:Nat)=9999+1 from Y,Op.equalIn,A0a,A1k T ht]
 simp only [A0a,A4f T hs]
 rw [if_pos oM]
 unfold sameAddr
 simp only [beq_self_eq_true,if_true]
 exact h
theorem A_ptrSame{t e:TypeId}{t':TypeId}{y z:Operand}{a:Addr}{k:Nat}(ho:ops[i]?=some ⟨some d,.binOp .neq t y z t',ty,pos,af,gu⟩)(hw:A0p ops gu ρ=some true)(hn:Nat.blt d n=true)
  (hy:ρ.val y=some (.pointer (some a)))(hz:ρ.val z=some (.pointer (some a)))(ht:T.und t=some (.pointer e))(hs:T.siz e=some (k+1))
  (h:K ⟨ds,(d,.bool false)::ρ,β⟩ v):XOp P mn rd n ops i Q K ⟨ds,ρ,β⟩ v:=by
 refine A1w ho (A0j hw) (.inr Y) hn fun ev hev hbk=>?_
 have heq:eqGuard .neq t y z (.pointer (some a)) (.pointer (some a))=pure ():=rfl
 simp only [execOp,hev _ _ hy,hev _ _ hz,A0a,heq,A0h,binOp]
 refine sx_equal_same T ht hs ?_
 exact⟨β,v,⟨hbk,Le.refl _⟩,h⟩
omit T in
theorem sx_seen{E:Value→View→Prop}{w:View}{a:Addr}{p:Bool}{c:Array Value}{e:TypeId}{f:Nat×Nat}{K:Addr→View→Prop}(hw:w a.block=some (p,.cells c e f))(h:K a w):SemX P (Conv.seenAt a) K E w:=by
 unfold Conv.seenAt viewAt
 simp only [A0a]
 exact⟨_,_,hw,h⟩
theorem A_toUnsafe{t1 t2 e tb:TypeId}{y:Operand}{b:Nat}{c:Array Value}{k:Nat}(ho:ops[i]?=some ⟨some d,.convert t1 t2 y,ty,pos,af,gu⟩)(hw:A0p ops gu ρ=some true)(hn:Nat.blt d n=true)
  (hy:ρ.val y=some (.pointer (some ⟨b,0,none⟩)))(h1:T.und t1=some (.pointer e))(h2:T.und t2=some .unsafePointer)(hs:T.siz e=some (k+1))(hin:InB b c tb β)(hc:0<c.size)
  (h:K ⟨ds,(d,.pointer (some ⟨b,0,none⟩))::ρ,β⟩ v):XOp P mn rd n ops i Q K ⟨ds,ρ,β⟩ v:=by
 refine A1w ho (A0j hw) (.inr Y) hn fun ev hev hbk=>?_
 have hv:=A0q (v:=v) hbk hin
 simp only [execOp,A0a,hev _ _ hy,convert,A1k T h1,A1k T h2,Conv.unsafePointer]
 refine sx_seen (a:=⟨b,0,none⟩) hv ?_
 unfold cellsIn
 simp only [A0a]
 refine⟨_,_,hv,?_⟩
 simp only [shapeOf,A0a,A0h,A4f T hs]
 show SemX P (if(decide (k+1=0)||(decide (0≥c.size)&&(none:Option (List Nat)).isNone))=true then _ else _) _ _ _
 rw [if_neg (by rw [decide_eq_false (show ¬k+1=0 by omega),decide_eq_false (show ¬0≥c.size by omega)];exact Bool.false_ne_true)]
 exact⟨β,v,⟨hbk,Le.refl _⟩,h⟩
theorem A_fromUnsafe{t1 t2 e:TypeId}{y:Operand}{b:Nat}{c:Array Value}{k:Nat}(ho:ops[i]?=some ⟨some d,.convert t1 t2 y,ty,pos,af,gu⟩)(hw:A0p ops gu ρ=some true)(hn:Nat.blt d n=true)
  (hy:ρ.val y=some (.pointer (some ⟨b,0,none⟩)))(h1:T.und t1=some .unsafePointer)(h2:T.und t2=some (.pointer e))(hs:T.siz e=some (k+1))(hin:InB b c e β)(hc:c.size=k+1)(hd:P.depth≠0)(h3:P.cellsOf e=k+1)
  (h:K ⟨ds,(d,.pointer (some ⟨b,0,none⟩))::ρ,β⟩ v):XOp P mn rd n ops i Q K ⟨ds,ρ,β⟩ v:=by
 refine A1w ho (A0j hw) (.inr Y) hn fun ev hev hbk=>?_
 have hv:=A0q (v:=v) hbk hin
 simp only [execOp,A0a,hev _ _ hy,convert,A1k T h1,A1k T h2,Conv.unsafePointer]
 refine sx_seen (a:=⟨b,0,none⟩) hv ?_
 unfold variablesAt
 simp only [A0a,A4f T hs,A1s]
 refine⟨_,_,hv,?_⟩
 simp only [shapeOf,A0h]
 show SemX P (if(decide (k+1=0)||liesAt P P.depth e (c.size / P.cellsOf e) 0 e 1)=true then _ else _) _ _ _
 rw [lies_whole hd h3 oM (by rw [hc,Nat.div_self oM];exact Nat.le_refl _),if_pos sM]
 exact⟨β,v,⟨hbk,Le.refl _⟩,h⟩
theorem A_sliceData{t:TypeId}{y:Operand}{a:Addr}{len cap:Nat}(ho:ops[i]?=some ⟨some d,.call {callee:=.builtin .unsafeSliceData,args:=#[y],argTypes:=#[t] },ty,pos,af,gu⟩)(hw:A0p ops gu ρ=some true)(hn:Nat.blt d n=true)
  (hy:ρ.val y=some (.slice (some a) len cap))(hc:cap≠0)
  (h:K ⟨ds,(d,.pointer (some a))::ρ,β⟩ v):XOp P mn rd n ops i Q K ⟨ds,ρ,β⟩ v:=by
 refine A1w ho (A0j hw) (.inr Y) hn fun ev hev hbk=>?_
 simp only [execOp,resolve,show(#[y]:Array Operand).map ev=#[ev y]from by simp,hev _ _ hy,A0a,A0h,invoke,builtin]
 show SemX P (if cap≠0 then _ else _) _ _ _
 rw [if_pos hc]
 exact⟨β,v,⟨hbk,Le.refl _⟩,h⟩
theorem A_sliceData0{t:TypeId}{y:Operand}{len cap:Nat}(ho:ops[i]?=some ⟨some d,.call {callee:=.builtin .unsafeSliceData,args:=#[y],argTypes:=#[t] },ty,pos,af,gu⟩)(hw:A0p ops gu ρ=some true)(hn:Nat.blt d n=true)
  (hy:ρ.val y=some (.slice none len cap))
  (h:K ⟨ds,(d,.pointer none)::ρ,β⟩ v):XOp P mn rd n ops i Q K ⟨ds,ρ,β⟩ v:=by
 refine A1w ho (A0j hw) (.inr Y) hn fun ev hev hbk=>?_
 simp only [execOp,resolve,show(#[y]:Array Operand).map ev=#[ev y]from by simp,hev _ _ hy,A0a,A0h,invoke,builtin]
 exact⟨β,v,⟨hbk,Le.refl _⟩,h⟩
theorem A_string0{t t2:TypeId}{y z:Operand}{p:Option Addr}(ho:ops[i]?=some ⟨some d,.call {callee:=.builtin .unsafeString,args:=#[y,z],argTypes:=#[t,t2] },ty,pos,af,gu⟩)(hw:A0p ops gu ρ=some true)(hn:Nat.blt d n=true)
  (hy:ρ.val y=some (.pointer p))(hz:ρ.val z=some (.int .i64 0))
  (h:K ⟨ds,(d,.string ⟨#[]⟩)::ρ,β⟩ v):XOp P mn rd n ops i Q K ⟨ds,ρ,β⟩ v:=by
 refine A1w ho (A0j hw) (.inr Y) hn fun ev hev hbk=>?_
 simp only [execOp,resolve,show(#[y,z]:Array Operand).map ev=#[ev y,ev z]from by simp,hev _ _ hy,hev _ _ hz,A0a,A0h,invoke,builtin]
 cases p<;>exact⟨β,v,⟨hbk,Le.refl _⟩,h⟩
end
end Go.Pal
end
section
namespace Go.Proofs.YtclejblcnfaeaaaGreat
open Go Go.Pal Go.Pal.To Go.Conc View
open Go.Proofs.Tryz
set_option maxHeartbeats 4000000
set_option maxRecDepth 20000
abbrev bdC(p:Option Addr)(a:Option Addr)(len cap:Nat):Array Value:=List.toArray [.pointer p,.slice a len cap]
section
variable{mn:Who}{v:View}{b:Nat}{a:Option Addr}{len cap:Nat}
theorem e167:Ext prog 167 f167 Extern.AbiNoEscape.same:=⟨func167,Y,Y,by kernel_rfl,kR⟩
theorem dep0:prog.depth≠0:=by unfold Program.depth;omega
theorem cells174:prog.cellsOf 174=1+1:=by kernel_rfl
theorem copy1_x:CallsB prog mn 139 #[.pointer (some ⟨b,0,none⟩)] (RetB fun r β'=>r = .tuple (List.toArray [])∧β'=[(b,bdC (some ⟨b,0,none⟩) a len cap,174)]) [(b,bdC none a len cap,174)] v:=by
 refine A0d tab func139 Y nB (args:=[_]) ?_
 refine su ?_
 refine Q_op fun ho=>A_toUnsafe tab ho Y Y Y Y Y Y ib nB ?_
 clear ho
 refine Q_op fun ho=>A_ext ho Y Y e167 Y (fun K E w h=>h) ?_
 clear ho
 refine Q_op fun ho=>A_fromUnsafe tab ho Y Y Y Y Y Y ib Y dep0 cells174 ?_
 clear ho
 refine su ?_
 exact A1o tab [(b,bdC (some ⟨b,0,none⟩) a len cap,174)] .nil (Back.here (fun _=>Nat.le_refl _)) ⟨Y,Y⟩
theorem copy2_x:CallsB prog mn 139 #[.pointer (some ⟨b,0,none⟩)] (RetB fun r β'=>r = .tuple (List.toArray [])∧β'=[(b,bdC (some ⟨b,0,none⟩) a len cap,174)]) [(b,bdC (some ⟨b,0,none⟩) a len cap,174)] v:=by
 refine A0d tab func139 Y nB (args:=[_]) ?_
 refine su ?_
 refine Q_op fun ho=>A_ptrSame tab ho Y Y Y Y Y Y ?_
 clear ho
 refine su ?_
 exact A1o tab [(b,bdC (some ⟨b,0,none⟩) a len cap,174)] .nil (Back.here (fun _=>Nat.le_refl _)) ⟨Y,Y⟩
theorem copy_x{p:Option Addr}(hp:p=none∨p=some ⟨b,0,none⟩):CallsB prog mn 139 #[.pointer (some ⟨b,0,none⟩)] (RetB fun r β'=>r = .tuple (List.toArray [])∧β'=[(b,bdC (some ⟨b,0,none⟩) a len cap,174)]) [(b,bdC p a len cap,174)] v:=by
 rcases hp with rfl|rfl
 ·exact copy1_x
 ·exact copy2_x
theorem strV_one{s:ByteArray}:(strV s).all A2k=true:=by
 rw [List.all_eq_true]
 intro x hx
 obtain⟨c,_,rfl⟩:=List.mem_map.1 hx
 rfl
theorem wstr_x{s:ByteArray}{p:Option Addr}{seg:A0e}{ys:List Value}(hp:p=none∨p=some ⟨b,0,none⟩)(hS:OwnS 5 1 seg a len cap ys)(hl:len+s.size<2^30) :
  CallsB prog mn 110 #[.pointer (some ⟨b,0,none⟩),.string s] (RetB fun r β'=>∃a' cap' seg',r = .tuple (List.toArray [natV s.size,.nilIface])∧β'=(b,bdC (some ⟨b,0,none⟩) a' (len+s.size) cap',174)::seg'∧OwnS 5 1 seg' a' (len+s.size) cap' (ys++strV s)) ((b,bdC p a len cap,174)::seg) v:=by
 refine A0d tab func110 Y nB (args:=[_,_]) ?_
 refine su ?_
 have hC:=copy_x (mn:=mn) (v:=v.union (A0c seg)) (a:=a) (len:=len) (cap:=cap) hp
 refine Q_op fun ho=>A0o [(b,bdC p a len cap,174)] seg ho bod139 Y Y Y Y Y cntA hC (fun x β' hR=>?_)
 clear ho hC
 obtain⟨rfl,rfl⟩:=hR
 refine su ?_
 refine Q_op fun ho=>A_appendS tab (xs:=strV s) seg [] [(b,bdC (some ⟨b,0,none⟩) a len cap,174)] ho Y Y Y Y Y Y Y Y Y Y Y cntA hS Y (by rw [strV_len,Nat.mul_one]) strV_one oM oM (fun sg a' cap' hS'=>?_)
 clear ho
 refine su ?_
 exact A0f tab ((b,bdC (some ⟨b,0,none⟩) a' (len+s.size) cap',174)::sg) (by exact .tmp rfl (.tmp rfl .nil)) (Back.here (show Subm ((b,bdC (some ⟨b,0,none⟩) a' (len+s.size) cap',174)::sg) (sg++[(b,bdC (some ⟨b,0,none⟩) a' (len+s.size) cap',174)])from cntL)) ⟨a',cap',sg,Y,Y,hS'⟩
end
end Go.Proofs.YtclejblcnfaeaaaGreat
end
section
namespace Go.Pal
open Go Go.Conc View
section
variable{P:Program}{E:Value→View→Prop}{w:View}
theorem B2v{b:Nat}{p:Bool}{c:Array Value}{e:TypeId}{f:Nat×Nat}{K:ByteArray→View→Prop}(hw:w b=some (p,.cells c e f)):∀(l:List UInt8) (off:Nat) (acc:ByteArray),(∀i (hi:i<l.length),c[off+i]?=some (.int .u8 (l[i].toNat:Int)))→K (acc++⟨l.toArray⟩) w→
  SemX P (loadBytes ⟨b,off,none⟩ acc l.length) K E w
 | [],off,acc,_,hK=>by
  unfold loadBytes
  rw [show acc++(⟨([]:List UInt8).toArray⟩:ByteArray)=acc from by
   obtain⟨⟨a⟩⟩:=acc
   apply ByteArray.ext
   simp]at hK
  exact hK
 | x::l,off,acc,hc,hK=>by
  show SemX P (loadBytes ⟨b,off,none⟩ acc (l.length+1)) K E w
  unfold loadBytes
  rw [A0a,sx_load]
  refine⟨.int .u8 (x.toNat:Int),?_,?_⟩
  ·unfold View.cell
   simp only [hw,Option.isSome_none,Bool.false_eq_true,if_false]
   exact hc 0 (Nat.zero_lt_succ _)
  ·show SemX P (loadBytes ⟨b,off+1,none⟩ (acc.push ((x.toNat:Int).toNat.toUInt8)) l.length) K E w
   have hx:(x.toNat:Int).toNat.toUInt8=x:=by rw [Int.toNat_natCast];exact UInt8.ofNat_toNat
   rw [hx]
   refine B2v hw l (off+1) (acc.push x) (fun i hi=>?_) ?_
   ·have:=hc (i+1) (by simp;omega)
    rw [show off+1+i=off+(i+1)from by omega]
    simpa using this
   ·rw [show acc.push x++(⟨l.toArray⟩:ByteArray)=acc++⟨(x::l).toArray⟩from by
     obtain⟨⟨a⟩⟩:=acc
     apply ByteArray.ext
     simp [ByteArray.push]]
    exact hK
theorem lies_own{e:TypeId}{m n:Nat}(hd:P.depth≠0)(h1:P.cellsOf e=1)(h:n≤m):liesAt P P.depth e (m / P.cellsOf e) 0 e n=true:=by
 obtain⟨d,hd⟩:=Nat.exists_eq_succ_of_ne_zero hd
 have hs:sameLayout P P.depth e e=true:=by rw [hd];unfold sameLayout;simp
 have hr:rowAt P (sameLayout P P.depth · e) P.depth e (m / P.cellsOf e) 0 n=true:=by
  have hs':=hs
  rw [h1]
  generalize hg:(fun t=>sameLayout P P.depth t e)=g
  have hge:g e=true:=by rw [←hg];exact hs
  rw [hd]
  unfold rowAt
  simp only [h1]
  simp [hge,h]
 generalize hg:P.depth=k at *
 subst hd
 unfold liesAt
 rw [hg,hr];rfl
theorem us_is{pt t2 ty:TypeId}{a:Addr}{n:Int}:∃X Z,Builtin.unsafeString_ #[pt,t2] ty #[.pointer (some a),.int .i64 n]=if n<0 then X else if n > IntKind.i64.max then Z else if n=0 then pure (.string .empty)else(do
   if ←variablesAt a (←elemOf pt) n.toNat then do
    let s ←loadBytes a .empty n.toNat
    freeze a n.toNat
    pure (.string s)
   else unsupported (.unsafePointer "String: not so many bytes at ptr"):Sem Value):=⟨_,_,rfl⟩
theorem B2w{pt t2 ty:TypeId}{b:Nat}{c:Array Value}{e:TypeId}{f:Nat×Nat}{l:List UInt8}{K:Value→View→Prop}(hpt:P.underlying pt=some (.pointer e))(hw:w b=some (true,.cells c e f))
  (hd:P.depth≠0)(h1:P.cellsOf e=1)(hc:∀i (hi:i<l.length),c[i]?=some (.int .u8 (l[i].toNat:Int)))(hl:l.length≤c.size)(hl2:l.length<2^62)(h0:l≠[])
  (hK:K (.string ⟨l.toArray⟩) (w.set b true (.cells c e (frzTo 0 l.length f)))) :
  SemX P (Builtin.unsafeString_ #[pt,t2] ty #[.pointer (some ⟨b,0,none⟩),.int .i64 l.length]) K E w:=by
 have hlen:0<l.length:=List.length_pos_iff.2 h0
 have hv:SemX P (do
   if ←variablesAt ⟨b,0,none⟩ (←elemOf pt) ((l.length:Int).toNat)then do
    let s ←loadBytes ⟨b,0,none⟩ .empty ((l.length:Int).toNat)
    freeze ⟨b,0,none⟩ ((l.length:Int).toNat)
    pure (.string s)
   else unsupported (.unsafePointer "String: not so many bytes at ptr"):Sem Value) K E w:=by
  rw [Int.toNat_natCast]
  unfold elemOf variablesAt
  simp only [A0a]
  rw [A8c hpt]
  simp only [A0h,A1s]
  show ∃p o,w b=some (p,o)∧_
  refine⟨_,_,hw,?_⟩
  show SemX P (if liesAt P P.depth e (c.size / P.cellsOf e) 0 e l.length=true then _ else _) K E w
  rw [lies_own hd h1 hl,if_pos rfl]
  simp only [A0a]
  refine B2v hw l 0 .empty (fun i hi=>by rw [Nat.zero_add];exact hc i hi) ?_
  refine⟨oM,c,e,f,hw,?_⟩
  show K (.string (ByteArray.empty++⟨l.toArray⟩)) _
  rw [show ByteArray.empty++(⟨l.toArray⟩:ByteArray)=⟨l.toArray⟩from by apply ByteArray.ext;simp]
  exact hK
 obtain⟨X,Z,e⟩:=us_is (pt:=pt) (t2:=t2) (ty:=ty) (a:=⟨b,0,none⟩) (n:=(l.length:Int))
 rw [e,if_neg oM,if_neg (by show ¬((l.length:Int) > 9223372036854775807);omega),if_neg oM]
 exact hv
end
section
variable{P:Program}{mn:Who}(T:Tab P){rd:Option Nat}{n:Nat}{Q:Exit→St→View→Prop}{ds:List Deferred}{ρ:Regs}{β:A0e}{v:View}{K:St→View→Prop}
 {ops:Array Oper}{i:Nat}{d:Nat}{ty:TypeId}{pos:String}{af:Array Edge}{gu:Option (Nat×Bool)}
theorem A_unsafeStr{pt t2 e:TypeId}{y z:Operand}{b:Nat}{c:Array Value}{l:List UInt8}{m:Nat}(rest:A0e)(ho:ops[i]?=some ⟨some d,.call {callee:=.builtin .unsafeString,args:=#[y,z],argTypes:=#[pt,t2] },ty,pos,af,gu⟩)(hw:A0p ops gu ρ=some true)(hn:Nat.blt d n=true)
  (hy:ρ.val y=some (.pointer (some ⟨b,0,none⟩)))(hz:ρ.val z=some (.int .i64 m))(hm:m=l.length)(hpt:T.und pt=some (.pointer e))(hsplit:∀p,cnt p β=cnt p ([(b,c,e)]++rest))(hd:P.depth≠0)(h1:P.cellsOf e=1)
  (hc:∀i (hi:i<l.length),c[i]?=some (.int .u8 (l[i].toNat:Int)))(hl:l.length≤c.size)(hl2:l.length<2^62)(h0:l≠[])
  (h:K ⟨ds,(d,.string ⟨l.toArray⟩)::ρ,rest⟩ v):XOp P mn rd n ops i Q K ⟨ds,ρ,β⟩ v:=by
 subst hm
 refine A1w ho (A0j hw) (.inr Y) hn fun ev hev hbk=>?_
 obtain⟨hb1,he⟩:=A3v (A2e hsplit) hbk
 obtain⟨hb2,hb3⟩:=bok_append.1 hb1
 have hview:=A0v hb1
 rw [he]at hview
 have hv:(v.union (A0c β)) b=some (true,.cells c e (0,0)):=by
  rw [hview];exact A1l hb3.disj _ _ (by simp [A0c])
 have hno:(v.union (A0c rest)) b=none:=(hb3.disj b).resolve_right (by simp [A0c])
 simp only [execOp,resolve,show(#[y,z]:Array Operand).map ev=#[ev y,ev z]from by simp,hev _ _ hy,hev _ _ hz,A0a,A0h,invoke,builtin]
 refine B2w (T.und_ok _ _ hpt) hv hd h1 hc hl hl2 h0 ?_
 refine⟨rest,v,⟨hb2,fun j x hj=>?_⟩,h⟩
 unfold View.set
 by_cases hjb:j=b
 ·rw [hjb,hno]at hj;cases hj
 ·rw [if_neg hjb]
  show(v.union (A0c β)) j=some x
  rw [hview]
  exact A0g _ _ _ _ hj
end
end Go.Pal
end
section
namespace Go.Proofs.YtclejblcnfaeaaaGreat
open Go Go.Pal Go.Pal.To Go.Conc View
open Go.Proofs.Tryz
set_option maxHeartbeats 4000000
set_option maxRecDepth 20000
theorem strV_app{s t:ByteArray}:strV (s++t)=strV s++strV t:=by
 unfold strV
 rw [show(s++t).data.toList=s.data.toList++t.data.toList from by simp,List.map_append]
theorem cells5:prog.cellsOf 5=1:=by kernel_rfl
theorem str_x{mn:Who}{v:View}{b:Nat}{p a:Option Addr}{cap:Nat}{seg:A0e}{s:ByteArray}(hS:OwnS 5 1 seg a s.size cap (strV s))(hl:s.size<2^40)(h0:s.size=0→a=none) :
  CallsB prog mn 111 #[.pointer (some ⟨b,0,none⟩)] (RetB fun r β'=>r = .string s∧β'=[]) ((b,bdC p a s.size cap,174)::seg) v:=by
 refine A0d tab func111 Y nB (args:=[_]) ?_
 by_cases hz:s.size=0
 ·obtain rfl:=h0 hz
  have hse:s=⟨#[]⟩:=by
   obtain⟨⟨l⟩⟩:=s
   have:l.length=0:=hz
   rw [List.eq_nil_of_length_eq_zero this]
  rw [hse]
  refine su ?_
  refine A1d [4,10] [0,1,2,3,5,6,7,8,9,4,10,11] A1e Y kR ?_
  refine su ?_
  refine S_do kR (A_sliceData0 Y Y Y Y ⟨Le.refl _,kp,?_⟩)
  refine su ?_
  refine S_do kR (A_string0 Y Y Y Y Y ⟨Le.refl _,kp,?_⟩)
  refine su ?_
  exact A0f tab [] (by exact .tmp rfl .nil) (Back.here cntL) ⟨Y,Y⟩
 ·obtain⟨b2,c2,rfl,rfl,hcap,hcs,hcc⟩:=own_box hS oM
  obtain⟨⟨l⟩⟩:=s
  have hll:(⟨⟨l⟩⟩:ByteArray).size=l.length:=rfl
  refine su ?_
  refine A1d [4,10] [0,1,2,3,5,6,7,8,9,4,10,11] A1e Y kR ?_
  refine su ?_
  refine S_do kR (A_sliceData Y Y Y Y oM ⟨Le.refl _,kp,?_⟩)
  refine su ?_
  refine S_do kR (A_unsafeStr tab (l:=l) (c:=c2) [(b,bdC p (some ⟨b2,0,none⟩) (⟨⟨l⟩⟩:ByteArray).size cap,174)] Y Y Y Y Y hll Y cntA dep0 cells5 (fun i hi=>?_) oM oM (by rintro rfl;exact hz Y) ⟨Le.refl _,kp,?_⟩)
  ·exact hcc i _ (by simp [strV,hi])
  refine su ?_
  exact A0f tab [] (by exact .tmp rfl .nil) (Back.here cntL) ⟨Y,Y⟩
theorem putV_mb{x:MA}:(putV (Value.agg (List.toArray [.int .i64 0,.int .i64 0,.int .i64 0,.int .i64 0])).cells.toList 0 (Value.agg x.cells.toArray).cells.toList).toArray=x.val.cells:=rfl
structure TxS where
 i:Nat
 acc:ByteArray
 p:Option Addr
 a:Option Addr
 c:Nat
 sg:A0e
theorem text_x{mn:Who}{v:View}{a:Option Addr}{c:Nat}{l:List MA}(hA:ActsAt v a l)(hl:l.length<2^40):Ret1 prog mn 56 [.slice a l.length c] (txV l) v:=by
 refine A0d tab func56 Y nB (args:=[_]) ?_
 refine su ?_
 by_cases h8:l.length > 8
 ·rw [show decide (((l.length:Nat):Int) > 8)=true from decide_eq_true oM]
  refine su ?_
  refine A0f tab [] (by exact .tmp rfl (.tmp rfl .nil)) (Back.here cntL) ⟨?_,Y⟩
  unfold txV textN
  rw [if_pos h8];rfl
 rw [show decide (((l.length:Nat):Int) > 8)=false from decide_eq_false oM]
 have hT:textN l=B3h ⟨#[]⟩ l:=by unfold textN;rw [if_neg h8]
 refine sw fun bx=>?_
 obtain⟨b4,rfl⟩:∃x:Nat,x=bx:=⟨bx,rfl⟩
 refine A1q (α:=TxS) (fun z=>⟨[],[(14,.int .i64 z.i),(13,.int .i64 l.length),(12,.slice a l.length c),(4,.pointer (some ⟨b4,0,none⟩))],(b4,bdC z.p z.a z.acc.size z.c,174)::z.sg⟩)
  (fun z u=>u=v∧z.i≤l.length∧z.acc.size≤15*z.i∧(z.p=none∨z.p=some ⟨b4,0,none⟩)∧(z.acc.size=0→z.a=none)∧OwnS 5 1 z.sg z.a z.acc.size z.c (strV z.acc)∧textN l=B3h z.acc (l.drop z.i)) (fun z=>l.length-z.i) ⟨0,⟨#[]⟩,none,none,0,[]⟩ ⟨Y,rg,cntL⟩ (Le.refl _) ⟨Y,Nat.zero_le _,Nat.le_refl _,.inl Y,fun _=>rfl,.nil,hT⟩ ?_
 rintro⟨i,acc,p,ab,cb,sg⟩ u ⟨rfl,hi,hz,hp,hn0,hO,hq⟩
 dsimp only at hi hz hp hn0 hO hq⊢
 refine su ?_
 refine A1i Y (fun h=>?_) (fun h=>?_)
 ·have hli:i<l.length:=by have:=of_decide_eq_true h;omega
  clear h
  obtain⟨b1,off1,p1,c1,e1,f1,rfl,hv1,hc1⟩:=hA.get hli
  replace hc1:=hc1 _ hli
  have hst:=@textGo_step acc l i hli
  have hbd:=@textGo_bad acc l i hli
  have hsz:=@writeN_sz l[i]
  have hW:Ret1 prog mn 29 [l[i].val] (.tuple (List.toArray [.string (B1c l[i]).2,intV (B1c l[i]).1])) u:=write_x
  generalize l[i]=x at *
  obtain⟨⟨e,w⟩,hw⟩:∃y,y=B1c x:=⟨_,rfl⟩
  rw [←hw]at hst hbd hsz hW
  dsimp only at hst hbd hsz hW
  refine su ?_
  refine A6d tab i Y Y Y Y Y Y Y hli ?_
  refine A2b tab Y Y Y hv1 (A1g tab (x:=x.cells) Y Y Y hc1) ?_
  refine sw fun bx=>?_
  obtain⟨b5,rfl⟩:∃x:Nat,x=bx:=⟨bx,rfl⟩
  rw [putV_mb]
  refine Q_op fun ho=>A0u ho bod29 Y Y Y Y Y hW ?_
  clear ho hW
  refine su ?_
  by_cases he:e=0
  ·subst he
   refine su ?_
   refine Q_op fun ho=>A_sadd ho Y Y Y Y (by show _+1<_;omega) ?_
   clear ho
   refine su ?_
   have hz2:(w++(⟨#[10]⟩:ByteArray)).size≤15:=by rw [ByteArray.size_append];show _+1≤_;omega
   have hz3:(acc++w++(⟨#[10]⟩:ByteArray)).size=acc.size+(w++(⟨#[10]⟩:ByteArray)).size:=by rw [ByteArray.append_assoc,ByteArray.size_append]
   have hWs:=wstr_x (mn:=mn) (v:=u.union (A0c [(b5,x.val.cells,26)])) (b:=b4) (s:=w++(⟨#[10]⟩:ByteArray)) hp hO oM
   refine Q_op fun ho=>A0o ((b4,bdC p ab acc.size cb,174)::sg) [(b5,x.val.cells,26)] ho bod110 Y Y Y Y Y cntA hWs (fun y β' hR=>?_)
   clear ho hWs
   obtain⟨a2,c2,sg2,rfl,rfl,hO2⟩:=hR
   rw [←hz3]at hO2⊢
   refine su ?_
   refine A0b ⟨⟨i+1,acc++w++⟨#[10]⟩,some ⟨b4,0,none⟩,a2,c2,sg2⟩,_,by dsimp only;omega,⟨Y,rg,cntL⟩,Le.refl _,Y,hli,?_,.inr Y,fun h=>?_,?_,?_⟩
   ·dsimp only
    omega
   ·dsimp only at h
    have h3:(w++(⟨#[10]⟩:ByteArray)).size=w.size+1:=by rw [ByteArray.size_append];rfl
    omega
   ·dsimp only
    rw [ByteArray.append_assoc,strV_app,←ByteArray.append_assoc]
    exact hO2
   ·dsimp only
    rw [hq,hst rfl]
  ·rw [show(e != 0)=true from by simpa using he]
   refine su ?_
   refine A0f tab [] (by exact .tmp rfl (.tmp rfl .nil)) (Back.here cntL) ⟨?_,Y⟩
   unfold txV
   rw [hq,hbd he];rfl
 ·have hin:i=l.length:=by have:=of_decide_eq_false h;omega
  clear h
  subst hin
  rw [List.drop_length]at hq
  refine su ?_
  refine Q_op fun ho=>A0o ((b4,bdC p ab acc.size cb,174)::sg) [] ho bod111 Y Y Y Y Y cntA (str_x hO oM hn0) (fun x β' hR=>?_)
  clear ho
  obtain⟨rfl,rfl⟩:=hR
  refine su ?_
  refine A0f tab [] (by exact .tmp rfl (.tmp rfl .nil)) (Back.here cntL) ⟨?_,Y⟩
  unfold txV
  rw [hq];rfl
def RdV(s:ByteArray)(x:Value)(u:View):Prop:=∃a c,x = .tuple (List.toArray [.slice a (readL s.data.toList).1.length c,intV (readL s.data.toList).2])∧ActsAt u a (readL s.data.toList).1
theorem readL_len(l:List UInt8):(readL l).1.length≤8:=by
 rw [readQ_start]
 unfold B3c
 split
 ·exact Nat.zero_le _
 ·split
  ·exact Nat.zero_le _
  ·split
   ·exact Nat.zero_le _
   ·dsimp only;omega
theorem ok_fig{P:Int}{n:Nat}{x:MA}(h:Ok P n x)(hP:P≤4)(hn:n≤3):Fig x:=by
 obtain⟨k,hh,asks,ab,_⟩:=h
 refine⟨k,?_,?_,?_⟩
 ·by_cases e:x.k=1
  ·rw [(asks e).1];unfold outZ;omega
  ·have:=ab e;unfold outZ;omega
 ·by_cases e:x.k=1
  ·rw [(asks e).2];unfold outZ;omega
  ·have:=ab e;unfold outZ;omega
 ·unfold outZ;omega
theorem readV_x{mn:Who}{v:View}{s:ByteArray}(hs:s.size<2^30):A6l prog mn 54 [.string s] (RdV s) v:=
 CallsB.toV (read_x oM) fun x β' hR hb=>by
  obtain⟨a,c,rfl,hS⟩:=hR
  exact⟨a,c,Y,RowAt.own hb (by exact cntL) hS⟩
end Go.Proofs.YtclejblcnfaeaaaGreat
end
section
namespace Go.Proofs.YtclejblcnfaeaaaGreat
open Go Go.Pal Go.Pal.To Go.Conc Go.ConcM Go.RowKit Go.ChangeShapes Go.WideShapes Go.ChangeAt Go.Deep
set_option maxHeartbeats 4000000
set_option maxRecDepth 100000
structure Opened(W:World)(v:View):Prop where
 ag:v.Agree W
 ro:∀b,¬v.Owns b
theorem opened0(W:World):Opened W (fun _=>none):=⟨(fun b p o h=>nomatch (show none=some (p,o)from h)),(fun b h=>by obtain⟨o,h⟩:=h;cases h)⟩
theorem row_view{W:World}{a:Addr}{cs:List Value}(hc:∀(i:Nat) (x:Value),cs[i]?=some x→W.cell? (a.add i)=some x):∃v,Opened W v∧RowAt v (some a) cs:=by
 cases cs with
 | nil=>exact⟨_,opened0 W,.inl rfl⟩
 | cons y l=>
  obtain⟨b,off,spot⟩:=a
  have h00:=hc 0 y Y
  have hspot:spot=none:=by simpa [Addr.add]using World.cell?_spot h00
  subst hspot
  have hc':∀(i:Nat) (x:Value),(y::l)[i]?=some x→W.cell? ⟨b,off+i,none⟩=some x:=fun i x hi=>by
   have:=hc i x hi
   rwa [add_plain]at this
  obtain⟨c,e,f,hO⟩:∃c e f,W.heap[b]?=some (.cells c e f):=by
   have:=hc' 0 y Y
   unfold World.cell? at this
   split at this
   ·rename_i c e f h;exact⟨c,e,f,h⟩
   ·cases this
  have hcc:∀(i:Nat) (x:Value),(y::l)[i]?=some x→c[off+i]?=some x:=fun i x hi=>by
   have:=hc' i x hi
   unfold World.cell? at this
   rw [hO]at this
   simpa using this
  refine⟨fun k=>if k=b then some (false,.cells c e f)else none,⟨fun k p o h=>?_,fun k h=>?_⟩,.inr ⟨b,off,false,c,e,f,Y,if_pos Y,?_,hcc⟩⟩
  ·replace h:(if k=b then some (false,Obj.cells c e f)else none)=some (p,o):=h
   by_cases hk:k=b
   ·subst hk
    rw [if_pos rfl]at h
    cases h
    exact hO
   ·rw [if_neg hk]at h;cases h
  ·obtain⟨o,h⟩:=h
   replace h:(if k=b then some (false,Obj.cells c e f)else none)=some (true,o):=h
   by_cases hk:k=b
   ·rw [if_pos hk]at h;cases h
   ·rw [if_neg hk]at h;cases h
  ·have h1:=hcc l.length ((y::l)[l.length]' sM) (List.getElem?_eq_getElem _)
   have h2:=(Array.getElem?_eq_some_iff.1 h1).1
   simp only [List.length_cons]
   omega
section
variable{H:Type}{enc:TypeId×Value→H}{W:World}
theorem ints_view{fuel:Nat}{c:Value}{x:DataW H×List MemPlace}(h:DataW.trod enc Tryz.prog W 0 (fun _=>true) true fuel 22 [c]=some x):∃(a:Option Addr) (cap:Nat) (ns:List Int) (v:View),c = .slice a ns.length cap∧Opened W v∧RowAt v a (ns.map (.int .i64)):=by
 rcases open_ints Tryz.underlying22 Tryz.underlying3 cells3 h with ⟨hcs,hx⟩|⟨a,len,cap,zs,hcs,_,hl,hm,hz,hx,hcell,hwz⟩
 ·cases hcs
  exact⟨none,0,[],_,Y,opened0 W,.inl Y⟩
 ·cases hcs
  simp only [if_true]at hz
  have hlen:(zs.take len).length=len:=by rw [List.length_take];omega
  obtain⟨v,hv,hr⟩:=row_view (W:=W) (a:=a) (cs:=(zs.take len).map (.int .i64)) fun i x hi=>by
   rw [List.getElem?_map,Option.map_eq_some_iff]at hi
   obtain⟨y,hy,rfl⟩:=hi
   rw [List.getElem?_take]at hy
   split at hy
   ·rw [hcell i oM,List.getD_eq_getElem?_getD,hy];rfl
   ·cases hy
  exact⟨some a,cap,zs.take len,v,by rw [hlen],hv,hr⟩
theorem row3:Tryz.prog.readableRec 3=true:=by kernel_rfl
theorem lt3:3<Tryz.prog.types.size:=of_decide_eq_true kR
variable{base:Nat}{v0:Value}{d0:DataW H}{p:List MemPlace}
def Still(enc:TypeId×Value→H)(W:World)(t:TypeId)(v0:Value)(d0:DataW H)(p:List MemPlace):Prop:=∀w':World,Below W.heap.size W w'→DataW.Trod enc Tryz.prog w' 0 (fun b=>decide (b<W.heap.size)) true t v0 d0 p
theorem openI(hval:Value.okWide Tryz.prog W .any base 3 v0)(h0:DataW.Trod enc Tryz.prog W 0 (fun _=>true) true 3 v0 d0 p)(hlt:∀x∈p,x.block<W.heap.size):∃n:Int,v0 = .int .i64 n∧Still enc W 3 v0 d0 p:=by
 have hargs:Still enc W 3 v0 d0 p:=fun w' hb=>Below.trod laid row3 lt3 h0 hb hlt
 obtain⟨n,rfl⟩:=okWide_int Tryz.underlying3 hval
 exact⟨n,Y,hargs⟩
theorem openL(hval:Value.okWide Tryz.prog W .any base 22 v0)(h0:DataW.Trod enc Tryz.prog W 0 (fun _=>true) true 22 v0 d0 p)(hlt:∀x∈p,x.block<W.heap.size) :
  ∃(a:Option Addr) (cap:Nat) (ns:List Int) (v:View),v0 = .slice a ns.length cap∧Opened W v∧RowAt v a (ns.map (.int .i64))∧Still enc W 22 v0 d0 p:=by
 have hargs:Still enc W 22 v0 d0 p:=fun w' hb=>Below.trod laid row22 lt22 h0 hb hlt
 obtain⟨a,len,cap,rfl⟩:=okWide_slice Tryz.underlying22 hval
 obtain⟨fuel,hf⟩:=h0
 obtain⟨a,cap,ns,v,e,h1,h2⟩:=ints_view (c:=.slice a len cap) hf
 exact⟨a,cap,ns,v,e,h1,h2,hargs⟩
theorem trodAll_five{P:Program}{w:World}{base:Nat}{spare:Nat→Bool}{held:Bool}{t t1 t2 t3 t4:TypeId}{args:Array Value}{ds:List (DataW H)}{ps:List MemPlace}(h:DataW.TrodAll enc P w base spare held [t,t1,t2,t3,t4] args.toList ds ps) :
  ∃v v1 v2 v3 v4 d d1 d2 d3 d4 p p1 p2 p3 p4,args=#[v,v1,v2,v3,v4]∧ds=[d,d1,d2,d3,d4]∧ps=p++(p1++(p2++(p3++p4)))∧DataW.Trod enc P w base spare held t v d p∧DataW.Trod enc P w base spare held t1 v1 d1 p1∧DataW.Trod enc P w base spare held t2 v2 d2 p2∧DataW.Trod enc P w base spare held t3 v3 d3 p3∧DataW.Trod enc P w base spare held t4 v4 d4 p4:=by
 obtain⟨v,vs,d,ds',p,q,hargs,rfl,rfl,hd,hr⟩:=trodAll_cons h
 obtain⟨v1,vs1,d1,ds1,p1,q1,rfl,rfl,rfl,hd1,hr1⟩:=trodAll_cons hr
 obtain⟨v2,vs2,d2,ds2,p2,q2,rfl,rfl,rfl,hd2,hr2⟩:=trodAll_cons hr1
 obtain⟨v3,vs3,d3,ds3,p3,q3,rfl,rfl,rfl,hd3,hr3⟩:=trodAll_cons hr2
 obtain⟨v4,vs4,d4,ds4,p4,q4,rfl,rfl,rfl,hd4,hr4⟩:=trodAll_cons hr3
 obtain⟨rfl,rfl,rfl⟩:=trodAll_nil hr4
 exact⟨v,v1,v2,v3,v4,d,d1,d2,d3,d4,p,p1,p2,p3,p4,by cases args;simp_all,Y,by simp,hd,hd1,hd2,hd3,hd4⟩
end
theorem row9:Tryz.prog.readableRec 9=true:=by kernel_rfl
theorem lt9:9<Tryz.prog.types.size:=of_decide_eq_true kR
theorem row5:Tryz.prog.readableRec 5=true:=by kernel_rfl
theorem lt5:5<Tryz.prog.types.size:=of_decide_eq_true kR
section
variable{H:Type}{enc:TypeId×Value→H}{W:World}{base:Nat}{v0:Value}{d0:DataW H}{p:List MemPlace}
theorem openS(hval:Value.okWide Tryz.prog W .any base 9 v0)(h0:DataW.Trod enc Tryz.prog W 0 (fun _=>true) true 9 v0 d0 p)(hlt:∀x∈p,x.block<W.heap.size):∃s:ByteArray,v0 = .string s∧Still enc W 9 v0 d0 p:=by
 have hargs:Still enc W 9 v0 d0 p:=fun w' hb=>Below.trod laid row9 lt9 h0 hb hlt
 obtain⟨s,rfl⟩:=okWide_string Tryz.underlying9 hval
 exact⟨s,Y,hargs⟩
theorem openY(hval:Value.okWide Tryz.prog W .any base 5 v0)(h0:DataW.Trod enc Tryz.prog W 0 (fun _=>true) true 5 v0 d0 p)(hlt:∀x∈p,x.block<W.heap.size):∃b:UInt8,v0 = .int .u8 b.toNat∧Still enc W 5 v0 d0 p:=by
 have hargs:Still enc W 5 v0 d0 p:=fun w' hb=>Below.trod laid row5 lt5 h0 hb hlt
 obtain⟨n,rfl⟩:=okWide_int Tryz.underlying5 hval
 have hn:0≤n∧n<256:=by
  simp only [Value.okWide,Tryz.underlying5,Cell.okWide,Cell.ok,IntKind.has]at hval
  have h1:IntKind.u8.min=0:=rfl
  have h2:IntKind.u8.max=255:=rfl
  have h3:IntKind.u8.min≤n∧n≤IntKind.u8.max:=by simpa using hval
  omega
 refine⟨UInt8.ofNat n.toNat,?_,hargs⟩
 rw [UInt8.toNat_ofNat',Nat.mod_eq_of_lt oM]
 congr 1;omega
end
end Go.Proofs.YtclejblcnfaeaaaGreat
end
section
namespace Go.Pal.To
open Go
theorem chr_fig{n:Int}(h0:0≤n)(h9:n≤9):∃c:UInt8,chrB n=⟨#[c]⟩∧dg c∧(c.toNat:Int)-48=n:=by
 have:n=0∨n=1∨n=2∨n=3∨n=4∨n=5∨n=6∨n=7∨n=8∨n=9:=oM
 rcases this with rfl|rfl|rfl|rfl|rfl|rfl|rfl|rfl|rfl|rfl
 ·exact⟨48,Y,by unfold dg;decide,Y⟩
 ·exact⟨49,Y,by unfold dg;decide,Y⟩
 ·exact⟨50,Y,by unfold dg;decide,Y⟩
 ·exact⟨51,Y,by unfold dg;decide,Y⟩
 ·exact⟨52,Y,by unfold dg;decide,Y⟩
 ·exact⟨53,Y,by unfold dg;decide,Y⟩
 ·exact⟨54,Y,by unfold dg;decide,Y⟩
 ·exact⟨55,Y,by unfold dg;decide,Y⟩
 ·exact⟨56,Y,by unfold dg;decide,Y⟩
 ·exact⟨57,Y,by unfold dg;decide,Y⟩
theorem dg_chr{c:UInt8}(h:dg c):chrB ((c.toNat:Int)-48)=⟨#[c]⟩∧0≤(c.toNat:Int)-48∧(c.toNat:Int)-48≤9:=by
 have hb:0≤(c.toNat:Int)-48∧(c.toNat:Int)-48≤9:=by unfold dg at h;omega
 obtain⟨d,e1,e2,e3⟩:=chr_fig hb.1 hb.2
 have:d=c:=u8_eq oM
 subst this
 exact⟨e1,hb⟩
theorem pers_k{k:Int}(h:¬A4o k<0):k=0∨k=1∨k=2:=by
 unfold A4o at h
 split at h
 ·rename_i e;omega
 ·split at h
  ·rename_i e;omega
  ·exact absurd dM h
theorem B2x{x:MA}(h:(B1c x).1=0):A4v (B1c x).2.data.toList=(x,0):=by
 rw [writeN_two h]
 unfold B1c at h
 split at h
 ·exact absurd h dM
 rename_i hk
 split at h
 ·exact absurd h dM
 rename_i hb
 obtain⟨k,a,b,n⟩:=x
 simp only [badFig,not_or]at hb hk
 obtain⟨h1,h2,h3,h4⟩:=hb
 unfold outZ at h1 h2 h3
 obtain⟨ca,ea,da,va⟩:=chr_fig (n:=a) oM oM
 obtain⟨cb,eb,db,vb⟩:=chr_fig (n:=b) oM oM
 obtain⟨cn,en,dn,vn⟩:=chr_fig (n:=n) oM oM
 unfold lineB
 simp only
 rw [ea,eb,en]
 rcases pers_k hk with rfl|rfl|rfl
 ·rw [if_pos rfl]
  show A4v [ca,62,cb,58,cn]=_
  rw [parse_sale da (.inl Y) db dn,va,vb,vn,if_pos rfl]
 ·have h5:a=0∧b=0:=by
   have:A4o 1=0:=rfl
   constructor
   ·apply Classical.byContradiction;intro e;exact h4 ⟨this,.inl e⟩
   ·apply Classical.byContradiction;intro e;exact h4 ⟨this,.inr e⟩
  obtain⟨rfl,rfl⟩:=h5
  rw [if_neg dM,if_neg dM]
  show A4v [63,cn]=_
  rw [parse_ask dn,vn]
 ·rw [if_neg dM,if_pos rfl]
  show A4v [ca,33,cb,58,cn]=_
  rw [parse_sale da (.inr Y) db dn,va,vb,vn,if_neg dM]
theorem B2y{l:List UInt8}(h:(A4v l).2=0):B1c (A4v l).1=(0,⟨⟨l⟩⟩):=by
  by_cases h1:askL l
  · obtain⟨c,hc,rfl⟩:=h1
    obtain⟨e,g1,g2⟩:=dg_chr hc
    rw [parse_ask hc]
    unfold B1c
    rw [if_neg (show ¬A4o 1<0 by decide),if_neg (by unfold badFig outZ;simp only;rintro(h|h|h|⟨_,h⟩)<;>omega)]
    unfold lineB
    simp only
    rw [if_neg dM,if_neg dM,e]
    rfl
  · by_cases h2:saleL l
    · obtain⟨a,m,b,c,ha,hm,hb,hc,rfl⟩:=h2
      obtain⟨ea,a1,a2⟩:=dg_chr ha
      obtain⟨eb,b1,b2⟩:=dg_chr hb
      obtain⟨ec,c1,c2⟩:=dg_chr hc
      rw [parse_sale ha hm hb hc]
      rcases hm with rfl|rfl
      · rw [if_pos rfl]
        unfold B1c
        rw [if_neg (show ¬A4o 0<0 by decide),if_neg (by unfold badFig outZ;simp only;rintro(h|h|h|⟨h,_⟩)<;>first|omega|exact absurd h dM)]
        unfold lineB
        simp only
        rw [if_pos trivial,ea,eb,ec]
        rfl
      · rw [if_neg dM]
        unfold B1c
        rw [if_neg (show ¬A4o 2<0 by decide),if_neg (by unfold badFig outZ;simp only;rintro(h|h|h|⟨h,_⟩)<;>first|omega|exact absurd h dM)]
        unfold lineB
        simp only
        rw [if_neg dM,if_pos trivial,ea,eb,ec]
        rfl
    · rw [parse_no h1 h2]at h
      exact absurd h dM
theorem line_no{l:List UInt8}(h:(A4v l).2=0):∀c∈l,c≠10:=by
  have hdg:∀{c:UInt8},dg c→c≠10:=fun {c} hc e=>by subst e;unfold dg at hc;exact absurd hc.1 dM
  by_cases h1:askL l
  · obtain⟨c,hc,rfl⟩:=h1
    intro x hx
    simp only [List.mem_cons,List.not_mem_nil,or_false]at hx
    rcases hx with rfl|rfl
    · decide
    · exact hdg hc
  · by_cases h2:saleL l
    · obtain⟨a,m,b,c,ha,hm,hb,hc,rfl⟩:=h2
      intro x hx
      simp only [List.mem_cons,List.not_mem_nil,or_false]at hx
      rcases hx with rfl|rfl|rfl|rfl|rfl
      · exact hdg ha
      · rcases hm with rfl|rfl<;>decide
      · exact hdg hb
      · decide
      · exact hdg hc
    · rw [parse_no h1 h2]at h
      exact absurd h dM
theorem readQ_word{out:List MA}:∀(w cur r:List UInt8),(∀c∈w,c≠10)→B3c out (A3c cur (w++r))=B3c out (A3c (cur++w) r)
 | [],cur,r,_=>by simp
 | c::w,cur,r,h=>by
  rw [List.cons_append,readQ_char (h c (List.mem_cons_self ..)),readQ_word w (cur++[c]) r fun x hx=>h x (List.mem_cons_of_mem _ hx)]
  simp
def kitL(l:List MA):List UInt8:=l.flatMap fun x=>(lineB x).data.toList++[10]
theorem B2z:∀(l:List MA) (acc:ByteArray),(kitGo acc l).data.toList=acc.data.toList++kitL l
 | [],acc=>by simp [kitGo,kitL]
 | x::l,acc=>by
  show(kitGo (acc++lineB x++⟨#[10]⟩) l).data.toList=_
  rw [B2z l]
  simp [kitL]
theorem readQ_kit:∀(l out:List MA),(∀x∈l,(B1c x).1=0)→B3c out (A3c [] (kitL l))=if(out++l).length > 8 then([],10)else(out++l,0)
 | [],out,_=>by
  show B3c out (A3c [] [])=_
  rw [readQ_end,if_neg sM,List.append_nil]
 | x::l,out,h=>by
  have h0:=h x (List.mem_cons_self ..)
  have hp:A4v (lineB x).data.toList=(x,0):=by rw [←writeN_two h0];exact B2x h0
  have e:kitL (x::l)=(lineB x).data.toList++(10::kitL l):=by simp [kitL]
  rw [e,readQ_word _ _ _ (line_no (by rw [hp])),List.nil_append,readQ_line (by rw [hp]),hp]
  rw [readQ_kit l (out++[x]) fun y hy=>h y (List.mem_cons_of_mem _ hy)]
  simp
theorem read_text{l:List MA}(h:∀x∈l,(B1c x).1=0)(h8:l.length≤8):readL (kitL l)=(l,0):=by
 rw [readQ_start,readQ_kit l [] h,List.nil_append,if_neg oM]
theorem B3a:∀(l cur:List UInt8),cur++l=(A3c cur l).1.flatMap (fun w=>w++[10])++(A3c cur l).2
 | [],cur=>by simp [A3c]
 | c::l,cur=>by
  unfold A3c
  by_cases h:c=10
  ·rw [if_pos h,h]
   have:=B3a l []
   simp only [List.nil_append]at this
   simp only [List.flatMap_cons,List.append_assoc,List.cons_append,List.nil_append]
   rw [←this]
  ·rw [if_neg h]
   have:=B3a l (cur++[c])
   rw [←this];simp
theorem acts_lines:∀{ls:List (List UInt8)} {l:List MA},actsL ls=some l→(∀x∈l,(B1c x).1=0)∧kitL l=ls.flatMap fun w=>w++[10]
 | [],l,h=>by
  cases h
  exact⟨fun x hx=>(nomatch hx),Y⟩
 | w::ls,l,h=>by
  unfold actsL at h
  split at h
  ·rename_i hp
   cases e:actsL ls with
   | none=>rw [e]at h;cases h
   | some l'=>
    rw [e]at h
    cases h
    obtain⟨h1,h2⟩:=acts_lines e
    have hw:=B2y hp
    have hl:lineB (A4v w).1=⟨⟨w⟩⟩:=by rw [←writeN_two (by rw [hw]),hw]
    refine⟨fun x hx=>?_,?_⟩
    ·rcases List.mem_cons.1 hx with rfl|hx
     ·rw [hw]
     ·exact h1 x hx
    ·have e2:kitL ((A4v w).1::l')=((lineB (A4v w).1).data.toList++[10])++kitL l':=by simp [kitL]
     rw [e2,h2,hl]
     simp
  ·cases h
theorem text_read{s:ByteArray}:((readL s.data.toList).2=0∧textN (readL s.data.toList).1=(0,s))∨(((readL s.data.toList).2=2∨(readL s.data.toList).2=10)∧(readL s.data.toList).1=[]):=by
 have hj:=B3a s.data.toList []
 rw [List.nil_append]at hj
 rw [readQ_start]
 unfold B3c
 cases e:actsL (A3c [] s.data.toList).1 with
 | none=>exact .inr ⟨.inl rfl,rfl⟩
 | some l=>
  obtain⟨h1,h2⟩:=acts_lines e
  by_cases h3:(A3c [] s.data.toList).2≠[]
  ·simp only [if_pos h3];exact .inr ⟨.inl trivial,trivial⟩
  ·simp only [if_neg h3,List.nil_append]
   by_cases h8:l.length > 8
   ·simp only [if_pos h8];exact .inr ⟨.inr trivial,trivial⟩
   ·simp only [if_neg h8]
    refine .inl ⟨trivial,?_⟩
    unfold textN
    rw [if_neg h8,textGo_kit l _ h1]
    have h4:(A3c [] s.data.toList).2=[]:=Classical.byContradiction h3
    rw [h4,List.append_nil,←h2]at hj
    have h5:(kitGo ⟨#[]⟩ l).data.toList=s.data.toList:=by rw [B2z,hj];rfl
    have h6:kitGo ⟨#[]⟩ l=s:=by
     generalize kitGo ⟨#[]⟩ l=t at *
     obtain⟨⟨a⟩⟩:=t
     obtain⟨⟨b⟩⟩:=s
     simp only at h5
     rw [h5]
    rw [h6]
theorem ok_write{P:Int}{n:Nat}{x:MA}(h:Ok P n x)(hP:P≤4)(hn:n≤3):(B1c x).1=0:=by
 obtain⟨k,hh,asks,ab,_⟩:=h
 have hk:¬A4o x.k<0:=by rcases k with e|e|e<;>rw [e]<;>decide
 have hb:¬badFig x:=by
  unfold badFig outZ
  by_cases e:x.k=1
  ·obtain⟨e1,e2⟩:=asks e
   rintro(h|h|h|⟨_,h⟩)<;>omega
  ·have h2:=ab e
   have h3:A4o x.k=2:=by unfold A4o;rw [if_neg e,if_pos oM]
   rintro(h|h|h|⟨h,_⟩)<;>omega
 unfold B1c
 rw [if_neg hk,if_neg hb]
theorem text_both{l:List MA}(h:∀x∈l,(B1c x).1=0)(h8:l.length≤8):textN l=(0,kitGo ⟨#[]⟩ l)∧readL (kitGo ⟨#[]⟩ l).data.toList=(l,0):=by
 constructor
 ·unfold textN
  rw [if_neg oM,textGo_kit l _ h]
 ·rw [B2z]
  exact read_text h h8
end Go.Pal.To
end
section
namespace Go.Proofs.YtclejblcnfaeaaaGreat
open Go Go.Pal Go.Pal.To Go.Conc View
open Go.Proofs.Tryz
set_option maxHeartbeats 4000000
set_option maxRecDepth 20000
theorem bytes_run{v:View}{a0:Option Addr}{cap0:Nat}{s:ByteArray}{at' how:Int}{b:UInt8}{ns:List Int}(hns:RowAt v a0 (ns.map (.int .i64))) :
    Run prog ⟨true,true⟩ (AtTop 11 10) v (G (Frame.enter prog 11 (List.toArray [.string s,intV at',intV how,.int .u8 b.toNat,.slice a0 ns.length cap0]) .normal) []):=by
  refine top_run func11 Y nB ?_
  refine su ?_
  by_cases h100:s.size > 100
  · rw [show decide ((s.size:Int) > 100)=true from decide_eq_true oM]
    refine su ?_
    refine Q_op fun ho=>A0u ho bod17 Y Y Y Y Y held_x ?_
    clear ho
    refine su ?_
    exact⟨Y,Y,Y⟩
  rw [show decide ((s.size:Int) > 100)=false from decide_eq_false oM]
  refine su ?_
  refine Q_op fun ho=>A0o [] _ ho bod18 Y Y Y Y Y A7s (newBag_x) (fun x β' hR=>?_)
  clear ho
  obtain⟨bg,rfl,hB⟩:=hR
  refine su ?_
  refine Q_op fun ho=>A0o β' [] ho bod19 Y Y Y Y Y cntA (mornOf_z (hns.le (A0g _ _)) hB dM) (fun x β' hR=>?_)
  clear ho
  obtain⟨P2,d2,a2,c2,n1,βb,seg,rfl,rfl,hB1,hn1,hS,hM,hP2⟩:=hR
  refine A8x (β1:=seg) (β2:=βb) cntA (fun hbk=>?_)
  have r2:=RowAt.own hbk (by exact cntL) hS
  replace hns:=hns.le (A0g v (A0c seg))
  clear hbk
  generalize v.union (A0c seg)=v1 at *
  clear hS v
  have hd2:=hM.len
  have hp2:=hM.p
  refine su ?_
  refine Q_op fun ho=>A0o βb [] ho bod42 Y Y Y Y Y cntA (bookOf_z (g:=Bg.mk bg a0 cap0 ns) (N:=8) (RowAt.le hns (A0g _ _)) hB1 oM (r2.le (A0g _ _)) hM hP2 dM) (fun x β' hR=>?_)
  clear ho
  obtain⟨own,aO,cO,n2,βb2,so,rfl,rfl,hB2,hn2,hSo,ho8,hoO⟩:=hR
  refine A8x (β1:=so) (β2:=βb2) cntA (fun hbk=>?_)
  have rO:ActsAt _ aO own:=RowAt.own hbk (by exact cntL) hSo
  clear hbk hns r2
  generalize v1.union (A0c so)=v2 at *
  clear hSo hB1 hB2 v1
  have how':∀x∈own,(B1c x).1=0:=fun x hx=>ok_write (hoO x hx) hp2.2 hd2.2
  obtain⟨eT,eR⟩:=text_both how' ho8
  have hX:Ret1 prog ⟨true,true⟩ 56 [.slice aO own.length cO] (.tuple (List.toArray [.string (kitGo ⟨#[]⟩ own),intV 0])) v2:=by
    have:=text_x (mn:=⟨true,true⟩) (c:=cO) rO oM
    unfold txV at this
    rw [eT]at this
    exact this
  have hK:=fun u (hu:v2.Le u)=>textK_x (mn:=⟨true,true⟩) (c:=cO) (ActsAt.le rO hu) oM fun x hx=>ok_fig (hoO x hx) hp2.2 hd2.2
  have hws:=kitGo_size own ⟨#[]⟩
  rw [show(⟨#[]⟩:ByteArray).size=0 from rfl]at hws
  generalize kitGo ⟨#[]⟩ own=whole at *
  refine su ?_
  refine Q_op fun ho=>A0u ho bod56 Y Y Y Y Y hX ?_
  clear ho hX
  refine su ?_
  refine Q_op fun ho=>A1p ho bod54 Y Y Y Y Y (readV_x (s:=whole) oM) (fun y z2 hle hR=>?_)
  clear ho
  obtain⟨ax,cx,rfl,hx⟩:=hR
  rw [eR]at hx⊢
  dsimp only at hx
  replace rO:=ActsAt.le rO hle
  replace hK:=hK _ hle
  clear hle
  refine su ?_
  refine Q_op fun ho=>A0u ho bod53 Y Y Y Y Y hK ?_
  clear ho hK
  refine su ?_
  rw [show(!(whole.toList==whole.toList))=false from by simp]
  refine su ?_
  have hsa:Ret1 prog ⟨true,true⟩ 38 [.slice ax own.length cx,.slice aO own.length cO] (.bool true) z2:=A5v (sameActs_x hx rO oM oM)
  refine Q_op fun ho=>A0u ho bod38 Y Y Y Y Y hsa ?_
  clear ho hsa
  refine su ?_
  refine A1q (α:=Nat) (fun i=>⟨[],[(17,.int .i64 i),(12,.slice aO own.length cO),(13,.string whole),(0,.string s),(1,intV at'),(2,intV how),(3,.int .u8 b.toNat)],[]⟩)
    (fun i z=>z=z2∧i≤own.length) (fun i=>own.length-i) 0 ⟨Y,rg,cntL⟩ (Le.refl _) ⟨Y,Nat.zero_le _⟩ ?_
  rintro i z ⟨rfl,hi⟩
  refine su ?_
  refine A1i Y (fun h=>?_) (fun h=>?_)
  · have hlt:i<own.length:=by have:=of_decide_eq_true h;omega
    clear h
    have hw0:=how' _ (List.getElem_mem hlt)
    have hpw:=B2x hw0
    obtain⟨b1,off1,p1,c1,e1,f1,rfl,hv1,hc1⟩:=rO.get hlt
    replace hc1:=hc1 _ hlt
    have hW:Ret1 prog ⟨true,true⟩ 29 [own[i].val] (.tuple (List.toArray [.string (B1c own[i]).2,intV 0])) z:=by
      have:=write_x (mn:=⟨true,true⟩) (v:=z) (x:=own[i])
      unfold wrV at this
      rw [hw0]at this
      exact this
    have hP:Ret1 prog ⟨true,true⟩ 27 [.string (B1c own[i]).2] (.tuple (List.toArray [own[i].val,intV 0])) z:=by
      have:=parse_x (mn:=⟨true,true⟩) (v:=z) (s:=(B1c own[i]).2)
      unfold paV at this
      rw [hpw]at this
      exact this
    clear hw0 hpw
    generalize own[i]=x at *
    refine su ?_
    refine A6d tab i Y Y Y Y Y Y Y hlt ?_
    refine A2b tab Y Y Y hv1 (A1g tab (x:=x.cells) Y Y Y hc1) ?_
    refine Q_op fun ho=>A0u ho bod29 Y Y Y Y Y hW ?_
    clear ho hW
    refine su ?_
    refine Q_op fun ho=>A0u ho bod27 Y Y Y Y Y hP ?_
    clear ho hP
    refine sw fun bx=>?_
    obtain⟨b20,rfl⟩:∃x:Nat,x=bx:=⟨bx,rfl⟩
    rw [putV_mx]
    refine su ?_
    refine A1m tab i Y Y Y Y Y Y Y hlt ?_
    refine A4l tab Y Y Y hv1 (A1g tab (x:=x.cells) Y Y Y hc1) ?_
    refine L_neqlA (a:=x) (b:=x) Y Y Y Y ?_
    rw [show decide (x=x)=true from decide_eq_true rfl]
    refine su ?_
    exact A0b ⟨i+1,z,oM,⟨Y,rg,cntL⟩,Le.refl _,Y,hlt⟩
  · clear h hi hx rO how' hoO eR eT
    refine su ?_
    refine Q_op fun ho=>A0u ho bod26 Y Y Y Y Y (marK_x (at':=at') (how:=how) (b:=b) oM) ?_
    clear ho
    refine Q_op fun ho=>A3w tab ho Y Y Y Y Y Y Y Y Y (fun bt ct hLt=>?_)
    clear ho
    have hT:∀y∈[s,marB whole at' how b],y.size<2^30:=by
      have k2:=@marB_size whole at' how b
      intro y hy
      simp only [List.mem_cons,List.not_mem_nil,or_false]at hy
      rcases hy with rfl|rfl<;>omega
    refine A8x (β1:=[(bt,ct,9)]) (β2:=[]) cntA (fun hbk=>?_)
    have rT:RowAt _ (some ⟨bt,0,none⟩) ([s,marB whole at' how b].map Value.string):=RowAt.own hbk (by exact cntL) hLt
    clear hbk hLt
    generalize z.union (A0c [(bt,ct,9)])=w at *
    generalize hTT:[s,marB whole at' how b]=T at *
    have hTl:T.length=2:=by rw [←hTT];rfl
    clear hTT
    refine su ?_
    refine A1q (α:=Nat) (fun i=>⟨[],[(23,.int .i64 i),(22,.slice (some ⟨bt,0,none⟩) 2 2)],[]⟩)
      (fun i z=>w.Le z∧i≤2) (fun i=>2-i) 0 ⟨Y,rg,cntL⟩ (Le.refl _) ⟨Le.refl _,Nat.zero_le _⟩ ?_
    rintro i z2 ⟨hwz,hi⟩
    refine su ?_
    refine A1i Y (fun h=>?_) (fun h=>?_)
    · have hlt:i<2:=by have:=of_decide_eq_true h;omega
      clear h
      obtain⟨b3',o3,k3,d3,e3,f3,e3',hv3,hc3⟩:=row_cell (rT.le hwz) (j:=i) (x:=.string (T[i]' oM)) (by rw [List.getElem?_map,List.getElem?_eq_getElem oM];rfl)
      have hz:=hT _ (List.getElem_mem (show i<T.length by omega))
      generalize T[i]'(show i<T.length by omega)=t at *
      cases e3'
      refine ru ?_
      refine A4i ?_
      refine ru ?_
      refine A6d tab i Y Y Y Y Y Y Y hlt ?_
      refine A2b tab Y Y Y hv3 (A0l tab Y Y Y (by rw [Nat.mul_one];exact hc3)) ?_
      refine Q_op fun ho=>A0u ho bod27 Y Y Y Y Y (parse_x (s:=t)) ?_
      clear ho
      refine qu fun bx=>?_
      obtain⟨b24,rfl⟩:∃x:Nat,x=bx:=⟨bx,rfl⟩
      rw [putV_mx]
      refine ru ?_
      refine A6q (fun σ w'=>w'=z2∧σ=⟨[],[(23,.int .i64 i),(22,.slice (some ⟨bt,0,none⟩) 2 2)],[]⟩) ?_ ?_
      rotate_left
      · rcases parse_err t.data.toList with hp0|hp2
        · have hW:Ret1 prog ⟨true,true⟩ 29 [(A4v t.data.toList).1.val] (.tuple (List.toArray [.string t,intV 0])) z2:=by
            have:=write_x (mn:=⟨true,true⟩) (v:=z2) (x:=(A4v t.data.toList).1)
            unfold wrV at this
            rw [B2y hp0]at this
            exact this
          rw [hp0]
          generalize (A4v t.data.toList).1=x at *
          refine su ?_
          refine Q_op fun ho=>A0u ho bod29 Y Y Y Y Y hW ?_
          clear ho hW
          refine su ?_
          refine A6d tab i Y Y Y Y Y Y Y hlt ?_
          refine A2b tab Y Y Y hv3 (A0l tab Y Y Y (by rw [Nat.mul_one];exact hc3)) ?_
          refine su ?_
          rw [show(!(t.toList==t.toList))=false from by simp]
          refine su ?_
          exact A0b ⟨_,_,⟨Y,Y⟩,⟨Y,rg,cntL⟩,Le.refl _⟩
        · rw [hp2]
          refine su ?_
          refine Q_op fun ho=>A_neqlA (a:=⟨0,0,0,0⟩) (b:=⟨0,0,0,0⟩) ho Y Y Y Y ?_
          clear ho
          rw [show(!decide ((⟨0,0,0,0⟩:MA)=⟨0,0,0,0⟩))=false from by simp]
          refine su ?_
          exact A0b ⟨_,_,⟨Y,Y⟩,⟨Y,rg,cntL⟩,Le.refl _⟩
      rintro σ z3 ⟨rfl,rfl⟩
      refine su ?_
      refine A6d tab i Y Y Y Y Y Y Y hlt ?_
      refine A2b tab Y Y Y hv3 (A0l tab Y Y Y (by rw [Nat.mul_one];exact hc3)) ?_
      refine Q_op fun ho=>A1p ho bod54 Y Y Y Y Y (readV_x hz) (fun y z4 hle hR=>?_)
      clear ho
      obtain⟨ax,cx,rfl,hx⟩:=hR
      replace hwz:=hwz.trans hle
      replace hv3:=hle _ _ hv3
      clear hle
      have hn8:=readL_len t.data.toList
      rcases text_read (s:=t)with ⟨hq0,hq1⟩|⟨hq2,hq3⟩
      · have hX:Ret1 prog ⟨true,true⟩ 56 [.slice ax (readL t.data.toList).1.length cx] (.tuple (List.toArray [.string t,intV 0])) z4:=by
          have:=text_x (mn:=⟨true,true⟩) (c:=cx) hx oM
          unfold txV at this
          rw [hq1]at this
          exact this
        rw [hq0]
        clear hq1
        refine su ?_
        refine Q_op fun ho=>A0u ho bod56 Y Y Y Y Y hX ?_
        clear ho hX
        refine su ?_
        refine A6d tab i Y Y Y Y Y Y Y hlt ?_
        refine A2b tab Y Y Y hv3 (A0l tab Y Y Y (by rw [Nat.mul_one];exact hc3)) ?_
        refine su ?_
        rw [show(!(t.toList==t.toList))=false from by simp]
        refine su ?_
        exact A0b ⟨i+1,_,oM,⟨Y,rg,cntL⟩,Le.refl _,hwz,hlt⟩
      · rw [hq3]
        clear hx
        rcases hq2 with hq2|hq2<;>rw [hq2]
        · refine su ?_
          exact A0b ⟨i+1,_,oM,⟨Y,rg,cntL⟩,Le.refl _,hwz,hlt⟩
        · refine su ?_
          exact A0b ⟨i+1,_,oM,⟨Y,rg,cntL⟩,Le.refl _,hwz,hlt⟩
    · clear h hi
      refine su ?_
      refine Q_op fun ho=>A0u ho bod17 Y Y Y Y Y held_x ?_
      clear ho
      refine su ?_
      exact⟨Y,Y,Y⟩
end Go.Proofs.YtclejblcnfaeaaaGreat
end
section
namespace Go.Proofs.YtclejblcnfaeaaaGreat
open Go Go.ChangeShapes
theorem B3b{a b:Bool}(ha:a=true)(hb:b=true):(a&&b)=true:=by rw [ha,hb];rfl
theorem j11_0:(Rows.tollBytesRow.wf (OpenSpec.ofChange Rows.tollBytesSpec))=true:=by kernel_rfl
theorem j11_1:(laidOutB Tryz.prog)=true:=by kernel_rfl
theorem j11_2:(mapsRowed Tryz.prog)=true:=by kernel_rfl
theorem j11_3:(Tryz.f11.params.all (Tryz.prog.readableRec ·))=true:=by kernel_rfl
theorem j11_4:(namedTie Tryz.prog Rows.tollBytesRow.named Rows.tollBytesSpec.vars)=true:=by kernel_rfl
theorem j11_5:((Rows.tollBytesRow.stops == []))=true:=by kernel_rfl
theorem j11_6:((Tryz.prog.stops == []))=true:=by kernel_rfl
theorem j11_7:((Rows.tollBytesRow.knobs == []))=true:=by kernel_rfl
theorem j11_8:((Tryz.prog.stopKnobs == []))=true:=by kernel_rfl
theorem j11_9:((Rows.tollBytesRow.inPlace==Tryz.prog.inPlace 11))=true:=by kernel_rfl
theorem j11_10:((Rows.tollBytesRow.unfollowed==Tryz.prog.unfollowed 11))=true:=by kernel_rfl
theorem j11_11:((Rows.tollBytesRow.recurses==Tryz.prog.recurses 11))=true:=by kernel_rfl
theorem j11_12:((Rows.tollBytesRow.named==Tryz.prog.varsNamed 11))=true:=by kernel_rfl
theorem j11_13:((Rows.tollBytesRow.maps==(Tryz.f11.params.toList++Rows.tollBytesSpec.plain.varTypes Tryz.prog).any (Tryz.prog.mapsRec ·)))=true:=by kernel_rfl
theorem j11_14:((Rows.tollBytesRow.ifaces==(Tryz.f11.params.toList++Rows.tollBytesSpec.plain.varTypes Tryz.prog).any (Tryz.prog.ifacesRec ·)))=true:=by kernel_rfl
theorem j11_15:((Rows.tollBytesRow.mapsOut==Tryz.prog.mapsAmong Tryz.f11.resultTypes.toList))=true:=by kernel_rfl
theorem j11_16:((Rows.tollBytesRow.loops==(Tryz.f11.params.toList++Rows.tollBytesSpec.plain.varTypes Tryz.prog).any (Tryz.prog.loopsFrom ·)))=true:=by kernel_rfl
theorem j11_17:((Rows.tollBytesRow.wideKeys==(Tryz.f11.params.toList++Rows.tollBytesSpec.plain.varTypes Tryz.prog++Tryz.f11.resultTypes.toList).any (Tryz.prog.wideKeysFrom ·)))=true:=by kernel_rfl
theorem j11_18:(Rows.tollBytesSpec.vars.all (Tryz.prog.varReadable ·))=true:=by kernel_rfl
theorem j11_19:(Tryz.f11.resultTypes.all (fun t=>Tryz.prog.readableRec t&&decide (t<Tryz.prog.types.size)))=true:=by kernel_rfl
theorem j11_20:((Rows.tollBytesRow.ifacesOut==Tryz.f11.resultTypes.toList.any (Tryz.prog.ifacesRec ·)))=true:=by kernel_rfl
theorem j11_21:((Rows.tollBytesRow.loopsOut==Tryz.f11.resultTypes.toList.any (Tryz.prog.loopsFrom ·)))=true:=by kernel_rfl
theorem j11_22:((Rows.tollBytesRow.plainKeys==Tryz.prog.plainKeys))=true:=by kernel_rfl
theorem j11_23:(Rows.tollBytesRow.shortTexts.isNone)=true:=by kernel_rfl
theorem j11_24:(Tryz.prog.stopsHeard)=true:=by kernel_rfl
theorem j11_25:(Tryz.prog.mayEnter)=true:=by kernel_rfl
theorem j11_26:((Rows.tollBytesRow.lifted==Tryz.prog.liftsFinal))=true:=by kernel_rfl
theorem j11_27:((Tryz.prog.make==some Rows.tollBytesRow.make))=true:=by kernel_rfl
theorem j11_28:((Rows.tollBytesRow.kinds==(if Rows.tollBytesRow.domain.isEmpty then []else Tryz.f11.params.toList.map fun t=>match Tryz.prog.underlying t with|some (.int k)=>some k|_=>none)))=true:=by kernel_rfl
theorem j11_29:((Rows.tollBytesRow.pinned==Rows.tollBytesRow.pinnedBy))=true:=by kernel_rfl
theorem j11_30:((Rows.tollBytesRow.veiled==(Tryz.f11.params.toList++Rows.tollBytesSpec.plain.varTypes Tryz.prog++Tryz.f11.resultTypes.toList).any (Tryz.prog.veiledRec ·)))=true:=by kernel_rfl
theorem j11_31:(Rows.tollBytesRow.veiledFits Tryz.prog Tryz.f11.params.toList (Tryz.f11.params.toList++Rows.tollBytesSpec.plain.varTypes Tryz.prog++Tryz.f11.resultTypes.toList))=true:=by kernel_rfl
set_option maxRecDepth 100000 in
theorem j11:joinedFacts Tryz.prog 11 Tryz.f11 Rows.tollBytesSpec Rows.tollBytesRow=true:=B3b (B3b (B3b (B3b (B3b (B3b (B3b (B3b (B3b (B3b (B3b (B3b (B3b (B3b (B3b (B3b (B3b (B3b (B3b (B3b (B3b (B3b (B3b (B3b (B3b (B3b (B3b (B3b (B3b (B3b (B3b (j11_0) j11_1) j11_2) j11_3) j11_4) j11_5) j11_6) j11_7) j11_8) j11_9) j11_10) j11_11) j11_12) j11_13) j11_14) j11_15) j11_16) j11_17) j11_18) j11_19) j11_20) j11_21) j11_22) j11_23) j11_24) j11_25) j11_26) j11_27) j11_28) j11_29) j11_30) j11_31
end Go.Proofs.YtclejblcnfaeaaaGreat
end
section
namespace Go.Proofs.YtclejblcnfaeaaaGreat
open Go Go.Pal Go.Pal.To Go.Conc Go.ConcM Go.RowKit Go.ChangeShapes Go.WideShapes Go.ChangeAt
open View
theorem own_knob:ownKnob Tryz.prog.godebug=none:=by kernel_rfl
set_option maxRecDepth 100000 in
set_option maxHeartbeats 4000000 in
theorem bytes_lifted(os:Os)(started:os.Started)(H:Type)(enc:TypeId×Value→H) :
  ReturnsInLeavingWide {} Tryz.checked os 11 .any (Rows.tollBytesSpec.pre6 enc Tryz.prog Tryz.f11 Rows.tollBytesRow.domain false) (Rows.tollBytesSpec.post enc Tryz.prog Tryz.f11 false true false false):=by
 refine returnsInLeavingWide_of_change_sized (C:=Tryz.checked) own_knob started Tryz.func11
  (ChangeSpec.witness6 (enc:=enc) (C:=Tryz.checked) false ⟨#[],#[.string ⟨#[]⟩,.int .i64 0,.int .i64 0,.int .u8 0,.slice none 0 0],[]⟩ 8 kR kR kR kR) ?_
 intro W base args ds gs before hval0 hW _ _ _
 have hval:∀(j:Nat) t v,Tryz.f11.params[j]?=some t→args[j]?=some v→Value.okWide Tryz.prog W .any base t v:=hval0
 have hW':=hW
 obtain⟨p,q,hA0,hV,rfl,_,_⟩:=hW
 have hA:DataW.TrodAll enc Tryz.prog W 0 (fun _=>true) true Tryz.f11.params.toList args.toList ds p:=hA0
 rw [Tryz.params11]at hA hval
 obtain⟨v0,v1,v2,v3,v4,d0,d1,d2,d3,d4,p0,p1,p2,p3,p4,rfl,rfl,rfl,h0,h1,h2,h3,h4⟩:=trodAll_five hA
 obtain⟨rfl,rfl⟩:=trodVars_none hV
 clear hA0 hval0
 simp only [List.append_nil,List.append_assoc]at hW'
 have hlt:∀x∈p0++(p1++(p2++(p3++(p4)))),x.block<W.heap.size:=fun x hx=>by simpa using hW'.lt x hx
 obtain⟨sw,rfl,hst0⟩:=openS (hval 0 9 v0 rfl rfl) h0 (fun x hx=>hlt x (by simp only [List.mem_append];simp [hx]))
 obtain⟨at1,rfl,hst1⟩:=openI (hval 1 3 v1 rfl rfl) h1 (fun x hx=>hlt x (by simp only [List.mem_append];simp [hx]))
 obtain⟨at2,rfl,hst2⟩:=openI (hval 2 3 v2 rfl rfl) h2 (fun x hx=>hlt x (by simp only [List.mem_append];simp [hx]))
 obtain⟨yw,rfl,hst3⟩:=openY (hval 3 5 v3 rfl rfl) h3 (fun x hx=>hlt x (by simp only [List.mem_append];simp [hx]))
 obtain⟨a0_,cap0,ns,u4,rfl,hu4,hns,hst4⟩:=openL (hval 4 22 v4 rfl rfl) h4 (fun x hx=>hlt x (by simp only [List.mem_append];simp [hx]))
 obtain⟨M,last,o,w',t',r1,r2,r3,r4⟩:=law_run (P:=Tryz.prog) (W:=W) (v:=u4) (args:=[.string sw,.int .i64 at1,.int .i64 at2,.int .u8 yw.toNat,.slice a0_ ns.length cap0]) Tryz.func11 rfl kR hu4.ag hu4.ro (bytes_run (RowAt.le hns (Le.refl _)))
 refine⟨M,last,o,w',t',r1,r2,r3,r4.mono fun x hp=>?_⟩
 obtain⟨rfl,hbel0,hos⟩:=hp
 have hbel:Below W.heap.size W w':=by
  have e:w'.os=W.os:=hos
  rw [←e]at hbel0
  exact hbel0
 exact⟨_,_,_,[],p0++(p1++(p2++(p3++(p4)))),[],hW',trodAll_mk1 (shut_bool Tryz.underlying4 true),trodAll_cons_mk (hst0 _ hbel) (trodAll_cons_mk (hst1 _ hbel) (trodAll_cons_mk (hst2 _ hbel) (trodAll_cons_mk (hst3 _ hbel) (trodAll_mk1 (hst4 _ hbel))))),Y,hbel.frame _,fun h=>by cases h⟩
theorem bytes_said:Rows.TollBytesSaid:=
 OpenClaim.holds_of_wide_leaving 11 Tryz.f11 rfl rfl rfl rfl rfl rfl rfl ⟨rfl,rfl,rfl,rfl,rfl⟩ rfl rfl rfl rfl rfl kR Tryz.func11 j11
  (of_decide_eq_true kR) (by unfold Func.isWrapper;first|(rw [if_pos (by decide +kernel)];kernel_rfl)|(rw [if_neg (by decide +kernel)];exact⟨Y,Y⟩))
  (fun os started H enc _=>bytes_lifted os started H enc)
end Go.Proofs.YtclejblcnfaeaaaGreat
end
#print axioms Go.Proofs.YtclejblcnfaeaaaGreat.bytes_said
