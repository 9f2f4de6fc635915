/- 'palfreylaw12.TollReads' returns true for every argument, whatever the goroutines of its calls do, and the arguments read as they did, as its row says it. No condition. -/
import Derived.ChangeSame
import Derived.Conc.Holds
import Derived.Conc.LeavingOf
import Derived.Deep.Fields
import Derived.Deep.Slices
import Derived.Handed
import Derived.JoinedOf
import Derived.Lib.SmallJoins
import Derived.OpenShut
import Derived.ProofKit
import Derived.WalkKit
import Derived.Test.YtclejblcnfaeaaaGreatQreadsb
set_option linter.all false
section
namespace Go.Proofs.YtclejblcnfaeaaaGreat
open Go Go.Pal Go.Pal.To Go.Conc View
open Go.Proofs.Tryz
set_option maxHeartbeats 4000000
set_option maxRecDepth 20000
abbrev bdC(p:Option Addr)(a:Option Addr)(len cap:Nat):Array Value:=List.toArray [.pointer p,.slice a len cap]
section
variable{mn:Who}{v:View}{b:Nat}{a:Option Addr}{len cap:Nat}
theorem e167:Ext prog 167 f167 Extern.AbiNoEscape.same:=⟨func167,Y,Y,by kernel_rfl,kR⟩
theorem dep0:prog.depth≠0:=by unfold Program.depth;omega
theorem cells174:prog.cellsOf 174=1+1:=by kernel_rfl
theorem copy1_x:CallsB prog mn 139 #[.pointer (some ⟨b,0,none⟩)] (RetB fun r β'=>r = .tuple (List.toArray [])∧β'=[(b,bdC (some ⟨b,0,none⟩) a len cap,174)]) [(b,bdC none a len cap,174)] v:=by
 refine A0d tab func139 Y nB (args:=[_]) ?_
 refine su ?_
 refine Q_op fun ho=>A_toUnsafe tab ho Y Y Y Y Y Y ib nB ?_
 clear ho
 refine Q_op fun ho=>A_ext ho Y Y e167 Y (fun K E w h=>h) ?_
 clear ho
 refine Q_op fun ho=>A_fromUnsafe tab ho Y Y Y Y Y Y ib Y dep0 cells174 ?_
 clear ho
 refine su ?_
 exact A1o tab [(b,bdC (some ⟨b,0,none⟩) a len cap,174)] .nil (Back.here (fun _=>Nat.le_refl _)) ⟨Y,Y⟩
theorem copy2_x:CallsB prog mn 139 #[.pointer (some ⟨b,0,none⟩)] (RetB fun r β'=>r = .tuple (List.toArray [])∧β'=[(b,bdC (some ⟨b,0,none⟩) a len cap,174)]) [(b,bdC (some ⟨b,0,none⟩) a len cap,174)] v:=by
 refine A0d tab func139 Y nB (args:=[_]) ?_
 refine su ?_
 refine Q_op fun ho=>A_ptrSame tab ho Y Y Y Y Y Y ?_
 clear ho
 refine su ?_
 exact A1o tab [(b,bdC (some ⟨b,0,none⟩) a len cap,174)] .nil (Back.here (fun _=>Nat.le_refl _)) ⟨Y,Y⟩
theorem copy_x{p:Option Addr}(hp:p=none∨p=some ⟨b,0,none⟩):CallsB prog mn 139 #[.pointer (some ⟨b,0,none⟩)] (RetB fun r β'=>r = .tuple (List.toArray [])∧β'=[(b,bdC (some ⟨b,0,none⟩) a len cap,174)]) [(b,bdC p a len cap,174)] v:=by
 rcases hp with rfl|rfl
 ·exact copy1_x
 ·exact copy2_x
theorem strV_one{s:ByteArray}:(strV s).all A2k=true:=by
 rw [List.all_eq_true]
 intro x hx
 obtain⟨c,_,rfl⟩:=List.mem_map.1 hx
 rfl
theorem wstr_x{s:ByteArray}{p:Option Addr}{seg:A0e}{ys:List Value}(hp:p=none∨p=some ⟨b,0,none⟩)(hS:OwnS 5 1 seg a len cap ys)(hl:len+s.size<2^30) :
  CallsB prog mn 110 #[.pointer (some ⟨b,0,none⟩),.string s] (RetB fun r β'=>∃a' cap' seg',r = .tuple (List.toArray [natV s.size,.nilIface])∧β'=(b,bdC (some ⟨b,0,none⟩) a' (len+s.size) cap',174)::seg'∧OwnS 5 1 seg' a' (len+s.size) cap' (ys++strV s)) ((b,bdC p a len cap,174)::seg) v:=by
 refine A0d tab func110 Y nB (args:=[_,_]) ?_
 refine su ?_
 have hC:=copy_x (mn:=mn) (v:=v.union (A0c seg)) (a:=a) (len:=len) (cap:=cap) hp
 refine Q_op fun ho=>A0o [(b,bdC p a len cap,174)] seg ho bod139 Y Y Y Y Y cntA hC (fun x β' hR=>?_)
 clear ho hC
 obtain⟨rfl,rfl⟩:=hR
 refine su ?_
 refine Q_op fun ho=>A_appendS tab (xs:=strV s) seg [] [(b,bdC (some ⟨b,0,none⟩) a len cap,174)] ho Y Y Y Y Y Y Y Y Y Y Y cntA hS Y (by rw [strV_len,Nat.mul_one]) strV_one oM oM (fun sg a' cap' hS'=>?_)
 clear ho
 refine su ?_
 exact A0f tab ((b,bdC (some ⟨b,0,none⟩) a' (len+s.size) cap',174)::sg) (by exact .tmp rfl (.tmp rfl .nil)) (Back.here (show Subm ((b,bdC (some ⟨b,0,none⟩) a' (len+s.size) cap',174)::sg) (sg++[(b,bdC (some ⟨b,0,none⟩) a' (len+s.size) cap',174)])from cntL)) ⟨a',cap',sg,Y,Y,hS'⟩
end
end Go.Proofs.YtclejblcnfaeaaaGreat
end
section
namespace Go.Pal
open Go Go.Conc View
section
variable{P:Program}{E:Value→View→Prop}{w:View}
theorem B2v{b:Nat}{p:Bool}{c:Array Value}{e:TypeId}{f:Nat×Nat}{K:ByteArray→View→Prop}(hw:w b=some (p,.cells c e f)):∀(l:List UInt8) (off:Nat) (acc:ByteArray),(∀i (hi:i<l.length),c[off+i]?=some (.int .u8 (l[i].toNat:Int)))→K (acc++⟨l.toArray⟩) w→
  SemX P (loadBytes ⟨b,off,none⟩ acc l.length) K E w
 | [],off,acc,_,hK=>by
  unfold loadBytes
  rw [show acc++(⟨([]:List UInt8).toArray⟩:ByteArray)=acc from by
   obtain⟨⟨a⟩⟩:=acc
   apply ByteArray.ext
   simp]at hK
  exact hK
 | x::l,off,acc,hc,hK=>by
  show SemX P (loadBytes ⟨b,off,none⟩ acc (l.length+1)) K E w
  unfold loadBytes
  rw [A0a,sx_load]
  refine⟨.int .u8 (x.toNat:Int),?_,?_⟩
  ·unfold View.cell
   simp only [hw,Option.isSome_none,Bool.false_eq_true,if_false]
   exact hc 0 (Nat.zero_lt_succ _)
  ·show SemX P (loadBytes ⟨b,off+1,none⟩ (acc.push ((x.toNat:Int).toNat.toUInt8)) l.length) K E w
   have hx:(x.toNat:Int).toNat.toUInt8=x:=by rw [Int.toNat_natCast];exact UInt8.ofNat_toNat
   rw [hx]
   refine B2v hw l (off+1) (acc.push x) (fun i hi=>?_) ?_
   ·have:=hc (i+1) (by simp;omega)
    rw [show off+1+i=off+(i+1)from by omega]
    simpa using this
   ·rw [show acc.push x++(⟨l.toArray⟩:ByteArray)=acc++⟨(x::l).toArray⟩from by
     obtain⟨⟨a⟩⟩:=acc
     apply ByteArray.ext
     simp [ByteArray.push]]
    exact hK
theorem lies_own{e:TypeId}{m n:Nat}(hd:P.depth≠0)(h1:P.cellsOf e=1)(h:n≤m):liesAt P P.depth e (m / P.cellsOf e) 0 e n=true:=by
 obtain⟨d,hd⟩:=Nat.exists_eq_succ_of_ne_zero hd
 have hs:sameLayout P P.depth e e=true:=by rw [hd];unfold sameLayout;simp
 have hr:rowAt P (sameLayout P P.depth · e) P.depth e (m / P.cellsOf e) 0 n=true:=by
  have hs':=hs
  rw [h1]
  generalize hg:(fun t=>sameLayout P P.depth t e)=g
  have hge:g e=true:=by rw [←hg];exact hs
  rw [hd]
  unfold rowAt
  simp only [h1]
  simp [hge,h]
 generalize hg:P.depth=k at *
 subst hd
 unfold liesAt
 rw [hg,hr];rfl
theorem us_is{pt t2 ty:TypeId}{a:Addr}{n:Int}:∃X Z,Builtin.unsafeString_ #[pt,t2] ty #[.pointer (some a),.int .i64 n]=if n<0 then X else if n > IntKind.i64.max then Z else if n=0 then pure (.string .empty)else(do
   if ←variablesAt a (←elemOf pt) n.toNat then do
    let s ←loadBytes a .empty n.toNat
    freeze a n.toNat
    pure (.string s)
   else unsupported (.unsafePointer "String: not so many bytes at ptr"):Sem Value):=⟨_,_,rfl⟩
theorem B2w{pt t2 ty:TypeId}{b:Nat}{c:Array Value}{e:TypeId}{f:Nat×Nat}{l:List UInt8}{K:Value→View→Prop}(hpt:P.underlying pt=some (.pointer e))(hw:w b=some (true,.cells c e f))
  (hd:P.depth≠0)(h1:P.cellsOf e=1)(hc:∀i (hi:i<l.length),c[i]?=some (.int .u8 (l[i].toNat:Int)))(hl:l.length≤c.size)(hl2:l.length<2^62)(h0:l≠[])
  (hK:K (.string ⟨l.toArray⟩) (w.set b true (.cells c e (frzTo 0 l.length f)))) :
  SemX P (Builtin.unsafeString_ #[pt,t2] ty #[.pointer (some ⟨b,0,none⟩),.int .i64 l.length]) K E w:=by
 have hlen:0<l.length:=List.length_pos_iff.2 h0
 have hv:SemX P (do
   if ←variablesAt ⟨b,0,none⟩ (←elemOf pt) ((l.length:Int).toNat)then do
    let s ←loadBytes ⟨b,0,none⟩ .empty ((l.length:Int).toNat)
    freeze ⟨b,0,none⟩ ((l.length:Int).toNat)
    pure (.string s)
   else unsupported (.unsafePointer "String: not so many bytes at ptr"):Sem Value) K E w:=by
  rw [Int.toNat_natCast]
  unfold elemOf variablesAt
  simp only [A0a]
  rw [A8c hpt]
  simp only [A0h,A1s]
  show ∃p o,w b=some (p,o)∧_
  refine⟨_,_,hw,?_⟩
  show SemX P (if liesAt P P.depth e (c.size / P.cellsOf e) 0 e l.length=true then _ else _) K E w
  rw [lies_own hd h1 hl,if_pos rfl]
  simp only [A0a]
  refine B2v hw l 0 .empty (fun i hi=>by rw [Nat.zero_add];exact hc i hi) ?_
  refine⟨oM,c,e,f,hw,?_⟩
  show K (.string (ByteArray.empty++⟨l.toArray⟩)) _
  rw [show ByteArray.empty++(⟨l.toArray⟩:ByteArray)=⟨l.toArray⟩from by apply ByteArray.ext;simp]
  exact hK
 obtain⟨X,Z,e⟩:=us_is (pt:=pt) (t2:=t2) (ty:=ty) (a:=⟨b,0,none⟩) (n:=(l.length:Int))
 rw [e,if_neg oM,if_neg (by show ¬((l.length:Int) > 9223372036854775807);omega),if_neg oM]
 exact hv
end
section
variable{P:Program}{mn:Who}(T:Tab P){rd:Option Nat}{n:Nat}{Q:Exit→St→View→Prop}{ds:List Deferred}{ρ:Regs}{β:A0e}{v:View}{K:St→View→Prop}
 {ops:Array Oper}{i:Nat}{d:Nat}{ty:TypeId}{pos:String}{af:Array Edge}{gu:Option (Nat×Bool)}
theorem A_unsafeStr{pt t2 e:TypeId}{y z:Operand}{b:Nat}{c:Array Value}{l:List UInt8}{m:Nat}(rest:A0e)(ho:ops[i]?=some ⟨some d,.call {callee:=.builtin .unsafeString,args:=#[y,z],argTypes:=#[pt,t2] },ty,pos,af,gu⟩)(hw:A0p ops gu ρ=some true)(hn:Nat.blt d n=true)
  (hy:ρ.val y=some (.pointer (some ⟨b,0,none⟩)))(hz:ρ.val z=some (.int .i64 m))(hm:m=l.length)(hpt:T.und pt=some (.pointer e))(hsplit:∀p,cnt p β=cnt p ([(b,c,e)]++rest))(hd:P.depth≠0)(h1:P.cellsOf e=1)
  (hc:∀i (hi:i<l.length),c[i]?=some (.int .u8 (l[i].toNat:Int)))(hl:l.length≤c.size)(hl2:l.length<2^62)(h0:l≠[])
  (h:K ⟨ds,(d,.string ⟨l.toArray⟩)::ρ,rest⟩ v):XOp P mn rd n ops i Q K ⟨ds,ρ,β⟩ v:=by
 subst hm
 refine A1w ho (A0j hw) (.inr Y) hn fun ev hev hbk=>?_
 obtain⟨hb1,he⟩:=A3v (A2e hsplit) hbk
 obtain⟨hb2,hb3⟩:=bok_append.1 hb1
 have hview:=A0v hb1
 rw [he]at hview
 have hv:(v.union (A0c β)) b=some (true,.cells c e (0,0)):=by
  rw [hview];exact A1l hb3.disj _ _ (by simp [A0c])
 have hno:(v.union (A0c rest)) b=none:=(hb3.disj b).resolve_right (by simp [A0c])
 simp only [execOp,resolve,show(#[y,z]:Array Operand).map ev=#[ev y,ev z]from by simp,hev _ _ hy,hev _ _ hz,A0a,A0h,invoke,builtin]
 refine B2w (T.und_ok _ _ hpt) hv hd h1 hc hl hl2 h0 ?_
 refine⟨rest,v,⟨hb2,fun j x hj=>?_⟩,h⟩
 unfold View.set
 by_cases hjb:j=b
 ·rw [hjb,hno]at hj;cases hj
 ·rw [if_neg hjb]
  show(v.union (A0c β)) j=some x
  rw [hview]
  exact A0g _ _ _ _ hj
end
end Go.Pal
end
section
namespace Go.Proofs.YtclejblcnfaeaaaGreat
open Go Go.Pal Go.Pal.To Go.Conc View
open Go.Proofs.Tryz
set_option maxHeartbeats 4000000
set_option maxRecDepth 20000
theorem strV_app{s t:ByteArray}:strV (s++t)=strV s++strV t:=by
 unfold strV
 rw [show(s++t).data.toList=s.data.toList++t.data.toList from by simp,List.map_append]
theorem cells5:prog.cellsOf 5=1:=by kernel_rfl
theorem str_x{mn:Who}{v:View}{b:Nat}{p a:Option Addr}{cap:Nat}{seg:A0e}{s:ByteArray}(hS:OwnS 5 1 seg a s.size cap (strV s))(hl:s.size<2^40)(h0:s.size=0→a=none) :
  CallsB prog mn 111 #[.pointer (some ⟨b,0,none⟩)] (RetB fun r β'=>r = .string s∧β'=[]) ((b,bdC p a s.size cap,174)::seg) v:=by
 refine A0d tab func111 Y nB (args:=[_]) ?_
 by_cases hz:s.size=0
 ·obtain rfl:=h0 hz
  have hse:s=⟨#[]⟩:=by
   obtain⟨⟨l⟩⟩:=s
   have:l.length=0:=hz
   rw [List.eq_nil_of_length_eq_zero this]
  rw [hse]
  refine su ?_
  refine A1d [4,10] [0,1,2,3,5,6,7,8,9,4,10,11] A1e Y kR ?_
  refine su ?_
  refine S_do kR (A_sliceData0 Y Y Y Y ⟨Le.refl _,kp,?_⟩)
  refine su ?_
  refine S_do kR (A_string0 Y Y Y Y Y ⟨Le.refl _,kp,?_⟩)
  refine su ?_
  exact A0f tab [] (by exact .tmp rfl .nil) (Back.here cntL) ⟨Y,Y⟩
 ·obtain⟨b2,c2,rfl,rfl,hcap,hcs,hcc⟩:=own_box hS oM
  obtain⟨⟨l⟩⟩:=s
  have hll:(⟨⟨l⟩⟩:ByteArray).size=l.length:=rfl
  refine su ?_
  refine A1d [4,10] [0,1,2,3,5,6,7,8,9,4,10,11] A1e Y kR ?_
  refine su ?_
  refine S_do kR (A_sliceData Y Y Y Y oM ⟨Le.refl _,kp,?_⟩)
  refine su ?_
  refine S_do kR (A_unsafeStr tab (l:=l) (c:=c2) [(b,bdC p (some ⟨b2,0,none⟩) (⟨⟨l⟩⟩:ByteArray).size cap,174)] Y Y Y Y Y hll Y cntA dep0 cells5 (fun i hi=>?_) oM oM (by rintro rfl;exact hz Y) ⟨Le.refl _,kp,?_⟩)
  ·exact hcc i _ (by simp [strV,hi])
  refine su ?_
  exact A0f tab [] (by exact .tmp rfl .nil) (Back.here cntL) ⟨Y,Y⟩
theorem putV_mb{x:MA}:(putV (Value.agg (List.toArray [.int .i64 0,.int .i64 0,.int .i64 0,.int .i64 0])).cells.toList 0 (Value.agg x.cells.toArray).cells.toList).toArray=x.val.cells:=rfl
structure TxS where
 i:Nat
 acc:ByteArray
 p:Option Addr
 a:Option Addr
 c:Nat
 sg:A0e
theorem text_x{mn:Who}{v:View}{a:Option Addr}{c:Nat}{l:List MA}(hA:ActsAt v a l)(hl:l.length<2^40):Ret1 prog mn 56 [.slice a l.length c] (txV l) v:=by
 refine A0d tab func56 Y nB (args:=[_]) ?_
 refine su ?_
 by_cases h8:l.length > 8
 ·rw [show decide (((l.length:Nat):Int) > 8)=true from decide_eq_true oM]
  refine su ?_
  refine A0f tab [] (by exact .tmp rfl (.tmp rfl .nil)) (Back.here cntL) ⟨?_,Y⟩
  unfold txV textN
  rw [if_pos h8];rfl
 rw [show decide (((l.length:Nat):Int) > 8)=false from decide_eq_false oM]
 have hT:textN l=B3h ⟨#[]⟩ l:=by unfold textN;rw [if_neg h8]
 refine sw fun bx=>?_
 obtain⟨b4,rfl⟩:∃x:Nat,x=bx:=⟨bx,rfl⟩
 refine A1q (α:=TxS) (fun z=>⟨[],[(14,.int .i64 z.i),(13,.int .i64 l.length),(12,.slice a l.length c),(4,.pointer (some ⟨b4,0,none⟩))],(b4,bdC z.p z.a z.acc.size z.c,174)::z.sg⟩)
  (fun z u=>u=v∧z.i≤l.length∧z.acc.size≤15*z.i∧(z.p=none∨z.p=some ⟨b4,0,none⟩)∧(z.acc.size=0→z.a=none)∧OwnS 5 1 z.sg z.a z.acc.size z.c (strV z.acc)∧textN l=B3h z.acc (l.drop z.i)) (fun z=>l.length-z.i) ⟨0,⟨#[]⟩,none,none,0,[]⟩ ⟨Y,rg,cntL⟩ (Le.refl _) ⟨Y,Nat.zero_le _,Nat.le_refl _,.inl Y,fun _=>rfl,.nil,hT⟩ ?_
 rintro⟨i,acc,p,ab,cb,sg⟩ u ⟨rfl,hi,hz,hp,hn0,hO,hq⟩
 dsimp only at hi hz hp hn0 hO hq⊢
 refine su ?_
 refine A1i Y (fun h=>?_) (fun h=>?_)
 ·have hli:i<l.length:=by have:=of_decide_eq_true h;omega
  clear h
  obtain⟨b1,off1,p1,c1,e1,f1,rfl,hv1,hc1⟩:=hA.get hli
  replace hc1:=hc1 _ hli
  have hst:=@textGo_step acc l i hli
  have hbd:=@textGo_bad acc l i hli
  have hsz:=@writeN_sz l[i]
  have hW:Ret1 prog mn 29 [l[i].val] (.tuple (List.toArray [.string (B1c l[i]).2,intV (B1c l[i]).1])) u:=write_x
  generalize l[i]=x at *
  obtain⟨⟨e,w⟩,hw⟩:∃y,y=B1c x:=⟨_,rfl⟩
  rw [←hw]at hst hbd hsz hW
  dsimp only at hst hbd hsz hW
  refine su ?_
  refine A6d tab i Y Y Y Y Y Y Y hli ?_
  refine A2b tab Y Y Y hv1 (A1g tab (x:=x.cells) Y Y Y hc1) ?_
  refine sw fun bx=>?_
  obtain⟨b5,rfl⟩:∃x:Nat,x=bx:=⟨bx,rfl⟩
  rw [putV_mb]
  refine Q_op fun ho=>A0u ho bod29 Y Y Y Y Y hW ?_
  clear ho hW
  refine su ?_
  by_cases he:e=0
  ·subst he
   refine su ?_
   refine Q_op fun ho=>A_sadd ho Y Y Y Y (by show _+1<_;omega) ?_
   clear ho
   refine su ?_
   have hz2:(w++(⟨#[10]⟩:ByteArray)).size≤15:=by rw [ByteArray.size_append];show _+1≤_;omega
   have hz3:(acc++w++(⟨#[10]⟩:ByteArray)).size=acc.size+(w++(⟨#[10]⟩:ByteArray)).size:=by rw [ByteArray.append_assoc,ByteArray.size_append]
   have hWs:=wstr_x (mn:=mn) (v:=u.union (A0c [(b5,x.val.cells,26)])) (b:=b4) (s:=w++(⟨#[10]⟩:ByteArray)) hp hO oM
   refine Q_op fun ho=>A0o ((b4,bdC p ab acc.size cb,174)::sg) [(b5,x.val.cells,26)] ho bod110 Y Y Y Y Y cntA hWs (fun y β' hR=>?_)
   clear ho hWs
   obtain⟨a2,c2,sg2,rfl,rfl,hO2⟩:=hR
   rw [←hz3]at hO2⊢
   refine su ?_
   refine A0b ⟨⟨i+1,acc++w++⟨#[10]⟩,some ⟨b4,0,none⟩,a2,c2,sg2⟩,_,by dsimp only;omega,⟨Y,rg,cntL⟩,Le.refl _,Y,hli,?_,.inr Y,fun h=>?_,?_,?_⟩
   ·dsimp only
    omega
   ·dsimp only at h
    have h3:(w++(⟨#[10]⟩:ByteArray)).size=w.size+1:=by rw [ByteArray.size_append];rfl
    omega
   ·dsimp only
    rw [ByteArray.append_assoc,strV_app,←ByteArray.append_assoc]
    exact hO2
   ·dsimp only
    rw [hq,hst rfl]
  ·rw [show(e != 0)=true from by simpa using he]
   refine su ?_
   refine A0f tab [] (by exact .tmp rfl (.tmp rfl .nil)) (Back.here cntL) ⟨?_,Y⟩
   unfold txV
   rw [hq,hbd he];rfl
 ·have hin:i=l.length:=by have:=of_decide_eq_false h;omega
  clear h
  subst hin
  rw [List.drop_length]at hq
  refine su ?_
  refine Q_op fun ho=>A0o ((b4,bdC p ab acc.size cb,174)::sg) [] ho bod111 Y Y Y Y Y cntA (str_x hO oM hn0) (fun x β' hR=>?_)
  clear ho
  obtain⟨rfl,rfl⟩:=hR
  refine su ?_
  refine A0f tab [] (by exact .tmp rfl (.tmp rfl .nil)) (Back.here cntL) ⟨?_,Y⟩
  unfold txV
  rw [hq];rfl
def RdV(s:ByteArray)(x:Value)(u:View):Prop:=∃a c,x = .tuple (List.toArray [.slice a (readL s.data.toList).1.length c,intV (readL s.data.toList).2])∧ActsAt u a (readL s.data.toList).1
theorem readL_len(l:List UInt8):(readL l).1.length≤8:=by
 rw [readQ_start]
 unfold B3c
 split
 ·exact Nat.zero_le _
 ·split
  ·exact Nat.zero_le _
  ·split
   ·exact Nat.zero_le _
   ·dsimp only;omega
theorem ok_fig{P:Int}{n:Nat}{x:MA}(h:Ok P n x)(hP:P≤4)(hn:n≤3):Fig x:=by
 obtain⟨k,hh,asks,ab,_⟩:=h
 refine⟨k,?_,?_,?_⟩
 ·by_cases e:x.k=1
  ·rw [(asks e).1];unfold outZ;omega
  ·have:=ab e;unfold outZ;omega
 ·by_cases e:x.k=1
  ·rw [(asks e).2];unfold outZ;omega
  ·have:=ab e;unfold outZ;omega
 ·unfold outZ;omega
theorem readV_x{mn:Who}{v:View}{s:ByteArray}(hs:s.size<2^30):A6l prog mn 54 [.string s] (RdV s) v:=
 CallsB.toV (read_x oM) fun x β' hR hb=>by
  obtain⟨a,c,rfl,hS⟩:=hR
  exact⟨a,c,Y,RowAt.own hb (by exact cntL) hS⟩
theorem readRV_x{mn:Who}{v:View}{s:ByteArray}(hs:s.size<2^30):A6l prog mn 55 [.string s] (RdV s) v:=
 CallsB.toV (readR_x hs) fun x β' hR hb=>by
  obtain⟨a,c,rfl,hS⟩:=hR
  exact⟨a,c,Y,RowAt.own hb (by exact cntL) hS⟩
theorem ownV_x{mn:Who}{v:View}{a:Option Addr}{c:Nat}{xs:List MA}(h:ActsAt v a xs)(hl:xs.length≤20):A6l prog mn 33 [.slice a xs.length c] (fun x u=>∃a' c',x = .slice a' xs.length c'∧ActsAt u a' xs) v:=
 CallsB.toV (ownActs_x h oM) fun x β' hR hb=>by
  obtain⟨a',c',rfl,hS⟩:=hR
  exact⟨a',c',Y,RowAt.own hb (by exact cntL) hS⟩
theorem reads_run{v:View}{aB a0:Option Addr}{cB cap0:Nat}{s:ByteArray}{l:List MA}{at' how:Int}{b:UInt8}{ns:List Int}(hl:ActsAt v aB l)(hns:RowAt v a0 (ns.map (.int .i64))) :
  Run prog ⟨true,true⟩ (AtTop 10 12) v (G (Frame.enter prog 10 (List.toArray [.string s,.slice aB l.length cB,intV at',intV how,.int .u8 b.toNat,.slice a0 ns.length cap0]) .normal) []):=by
 refine top_run func10 Y nB ?_
 refine su ?_
 by_cases h200:s.size > 200
 ·rw [show decide ((s.size:Int) > 200)=true from decide_eq_true oM]
  refine su ?_
  refine Q_op fun ho=>A0u ho bod17 Y Y Y Y Y held_x ?_
  clear ho
  refine su ?_
  exact⟨Y,Y,Y⟩
 rw [show decide ((s.size:Int) > 200)=false from decide_eq_false oM]
 refine su ?_
 by_cases h20:l.length > 20
 ·rw [show decide ((l.length:Int) > 20)=true from decide_eq_true oM]
  refine su ?_
  refine Q_op fun ho=>A0u ho bod17 Y Y Y Y Y held_x ?_
  clear ho
  refine su ?_
  exact⟨Y,Y,Y⟩
 rw [show decide ((l.length:Int) > 20)=false from decide_eq_false oM]
 refine su ?_
 refine Q_op fun ho=>A0o [] _ ho bod18 Y Y Y Y Y A7s (newBag_x) (fun x β' hR=>?_)
 clear ho
 obtain⟨bg,rfl,hB⟩:=hR
 refine su ?_
 refine Q_op fun ho=>A0o β' [] ho bod19 Y Y Y Y Y cntA (mornOf_z (hns.le (A0g _ _)) hB dM) (fun x β' hR=>?_)
 clear ho
 obtain⟨P2,d2,a2,c2,n1,βb,seg,rfl,rfl,hB1,hn1,hS,hM,hP2⟩:=hR
 refine A8x (β1:=seg) (β2:=βb) cntA (fun hbk=>?_)
 have r2:=RowAt.own hbk (by exact cntL) hS
 replace hns:=hns.le (A0g v (A0c seg))
 replace hl:=ActsAt.le hl (A0g v (A0c seg))
 clear hbk
 generalize v.union (A0c seg)=v1 at *
 clear hS v
 have hd2:=hM.len
 have hp2:=hM.p
 refine su ?_
 refine Q_op fun ho=>A0o βb [] ho bod42 Y Y Y Y Y cntA (bookOf_z (g:=Bg.mk bg a0 cap0 ns) (N:=9) (RowAt.le hns (A0g _ _)) hB1 oM (r2.le (A0g _ _)) hM hP2 dM) (fun x β' hR=>?_)
 clear ho
 obtain⟨own,aO,cO,n2,βb2,so,rfl,rfl,hB2,hn2,hSo,ho9,hoO⟩:=hR
 refine A8x (β1:=so) (β2:=βb2) cntA (fun hbk=>?_)
 have rO:ActsAt _ aO own:=RowAt.own hbk (by exact cntL) hSo
 replace hl:=ActsAt.le hl (A0g v1 (A0c so))
 clear hbk hns r2
 generalize v1.union (A0c so)=v2 at *
 clear hSo hB1 hB2 v1
 refine su ?_
 refine Q_op fun ho=>A0u ho bod53 Y Y Y Y Y (textK_x rO oM fun x hx=>ok_fig (hoO x hx) hp2.2 hd2.2) ?_
 clear ho
 have hws:=kitGo_size own ⟨#[]⟩
 rw [show(⟨#[]⟩:ByteArray).size=0 from rfl]at hws
 generalize kitGo ⟨#[]⟩ own=whole at *
 refine su ?_
 refine Q_op fun ho=>A0u ho bod26 Y Y Y Y Y (marK_x (at':=at') (how:=how) (b:=b) oM) ?_
 clear ho
 refine Q_op fun ho=>A3w tab ho Y Y Y Y Y Y Y Y Y (fun bt ct hLt=>?_)
 clear ho
 have hT:∀z∈[s,whole,marB whole at' how b],z.size<2^30:=by
  have k2:=@marB_size whole at' how b
  intro z hz
  simp only [List.mem_cons,List.not_mem_nil,or_false]at hz
  rcases hz with rfl|rfl|rfl<;>omega
 refine A8x (β1:=[(bt,ct,9)]) (β2:=βb2) cntA (fun hbk=>?_)
 have rT:RowAt _ (some ⟨bt,0,none⟩) ([s,whole,marB whole at' how b].map Value.string):=RowAt.own hbk (by exact cntL) hLt
 replace rO:=ActsAt.le rO (A0g v2 (A0c [(bt,ct,9)]))
 replace hl:=ActsAt.le hl (A0g v2 (A0c [(bt,ct,9)]))
 clear hbk hLt
 generalize v2.union (A0c [(bt,ct,9)])=w at *
 generalize hTT:[s,whole,marB whole at' how b]=T at *
 have hTl:T.length=3:=by rw [←hTT];rfl
 clear hTT
 refine su ?_
 refine A1q (α:=Nat) (fun i=>⟨[],[(17,.int .i64 i),(16,.slice (some ⟨bt,0,none⟩) 3 3),(1,.slice aB l.length cB),(14,.slice aO own.length cO)],[]⟩)
  (fun i z=>w.Le z∧i≤3) (fun i=>3-i) 0 ⟨Y,rg,cntL⟩ (Le.refl _) ⟨Le.refl _,Nat.zero_le _⟩ ?_
 rintro i z ⟨hwz,hi⟩
 refine su ?_
 refine A1i Y (fun h=>?_) (fun h=>?_)
 ·have hlt:i<3:=by have:=of_decide_eq_true h;omega
  clear h
  obtain⟨b3',o3,k3,d3,e3,f3,e3',hv3,hc3⟩:=row_cell (rT.le hwz) (j:=i) (x:=.string (T[i]' oM)) (by rw [List.getElem?_map,List.getElem?_eq_getElem oM];rfl)
  have hz:=hT _ (List.getElem_mem (show i<T.length by omega))
  generalize T[i]'(show i<T.length by omega)=t at *
  cases e3'
  refine su ?_
  refine A6d tab i Y Y Y Y Y Y Y hlt ?_
  refine A2b tab Y Y Y hv3 (A0l tab Y Y Y (by rw [Nat.mul_one];exact hc3)) ?_
  refine Q_op fun ho=>A1p ho bod54 Y Y Y Y Y (readV_x hz) (fun y z2 hle hR=>?_)
  clear ho
  obtain⟨ax,cx,rfl,hx⟩:=hR
  replace hwz:=hwz.trans hle
  replace hv3:=hle _ _ hv3
  clear hle
  refine su ?_
  refine A6d tab i Y Y Y Y Y Y Y hlt ?_
  refine A2b tab Y Y Y hv3 (A0l tab Y Y Y (by rw [Nat.mul_one];exact hc3)) ?_
  refine Q_op fun ho=>A1p ho bod55 Y Y Y Y Y (readRV_x hz) (fun y z3 hle hR=>?_)
  clear ho
  obtain⟨ay,cy,rfl,hy⟩:=hR
  replace hwz:=hwz.trans hle
  replace hx:=ActsAt.le hx hle
  clear hle hv3
  have hn8:=readL_len t.data.toList
  refine su ?_
  rw [show((readL t.data.toList).2 != (readL t.data.toList).2)=false from by simp]
  refine su ?_
  have hsa:Ret1 prog ⟨true,true⟩ 38 [.slice ax (readL t.data.toList).1.length cx,.slice ay (readL t.data.toList).1.length cy] (.bool true) z3:=A5v (sameActs_x hx hy oM oM)
  refine Q_op fun ho=>A0u ho bod38 Y Y Y Y Y hsa ?_
  clear ho hsa
  refine su ?_
  exact A0b ⟨i+1,_,oM,⟨Y,rg,cntL⟩,Le.refl _,hwz,hlt⟩
 ·clear h hi
  replace rO:=ActsAt.le rO hwz
  replace hl:=ActsAt.le hl hwz
  clear rT hwz
  refine su ?_
  refine Q_op fun ho=>A3w tab ho Y Y Y Y Y Y Y Y Y (fun ba ca hLa=>?_)
  clear ho
  refine A8x (β1:=[(ba,ca,42)]) (β2:=[]) cntA (fun hbk=>?_)
  have rU:RowAt _ (some ⟨ba,0,none⟩) ([(aB,cB,l),(aO,cO,own)].map fun y:Option Addr×Nat×List MA=>Value.slice y.1 y.2.2.length y.2.1):=RowAt.own hbk (by exact cntL) hLa
  have hU:∀y∈[(aB,cB,l),(aO,cO,own)],ActsAt (z.union (A0c [(ba,ca,42)])) y.1 y.2.2∧y.2.2.length≤20:=by
   intro y hy
   simp only [List.mem_cons,List.not_mem_nil,or_false]at hy
   rcases hy with rfl|rfl
   ·exact⟨ActsAt.le hl (A0g _ _),by dsimp only;omega⟩
   ·exact⟨ActsAt.le rO (A0g _ _),by dsimp only;omega⟩
  clear hbk hLa
  generalize z.union (A0c [(ba,ca,42)])=z1 at *
  generalize hUU:[(aB,cB,l),(aO,cO,own)]=U at *
  have hUl:U.length=2:=by rw [←hUU];rfl
  clear hUU
  refine su ?_
  refine A1q (α:=Nat) (fun i=>⟨[],[(23,.int .i64 i),(22,.slice (some ⟨ba,0,none⟩) 2 2)],[]⟩)
   (fun i z=>z1.Le z∧i≤2) (fun i=>2-i) 0 ⟨Y,rg,cntL⟩ (Le.refl _) ⟨Le.refl _,Nat.zero_le _⟩ ?_
  rintro i z2 ⟨hwz,hi⟩
  refine su ?_
  refine A1i Y (fun h=>?_) (fun h=>?_)
  ·have hlt:i<2:=by have:=of_decide_eq_true h;omega
   clear h
   obtain⟨b3',o3,k3,d3,e3,f3,e3',hv3,hc3⟩:=(rU.le hwz).get (i:=i) oM
   replace hc3:=hc3 i oM
   obtain⟨hz,hz20⟩:=hU _ (List.getElem_mem (show i<U.length by omega))
   replace hz:=ActsAt.le hz hwz
   generalize U[i]'(show i<U.length by omega)=y at *
   obtain⟨ay,cy,ly⟩:=y
   dsimp only at hc3 hz hz20
   cases e3'
   refine su ?_
   refine A6d tab i Y Y Y Y Y Y Y hlt ?_
   refine A2b tab Y Y Y hv3 (A0l tab Y Y Y (by rw [Nat.mul_one];exact hc3)) ?_
   refine Q_op fun ho=>A1p ho bod33 Y Y Y Y Y (ownV_x hz hz20) (fun y z3 hle hR=>?_)
   clear ho
   obtain⟨ax,cx,rfl,hx⟩:=hR
   replace hwz:=hwz.trans hle
   replace hv3:=hle _ _ hv3
   replace hz:=ActsAt.le hz hle
   clear hle
   refine su ?_
   refine Q_op fun ho=>A0u ho bod56 Y Y Y Y Y (text_x hx oM) ?_
   clear ho
   refine su ?_
   refine A6d tab i Y Y Y Y Y Y Y hlt ?_
   refine A2b tab Y Y Y hv3 (A0l tab Y Y Y (by rw [Nat.mul_one];exact hc3)) ?_
   refine Q_op fun ho=>A0u ho bod57 Y Y Y Y Y (textR_x hz oM) ?_
   clear ho
   refine su ?_
   rw [show(!((textN ly).2.toList==(textN ly).2.toList))=false from by simp]
   refine su ?_
   rw [show((textN ly).1 != (textN ly).1)=false from by simp]
   refine su ?_
   refine A6d tab i Y Y Y Y Y Y Y hlt ?_
   refine A2b tab Y Y Y hv3 (A0l tab Y Y Y (by rw [Nat.mul_one];exact hc3)) ?_
   have hsa:Ret1 prog ⟨true,true⟩ 38 [.slice ax ly.length cx,.slice ay ly.length cy] (.bool true) z3:=A5v (sameActs_x hx hz oM oM)
   refine Q_op fun ho=>A0u ho bod38 Y Y Y Y Y hsa ?_
   clear ho hsa
   refine su ?_
   exact A0b ⟨i+1,_,oM,⟨Y,rg,cntL⟩,Le.refl _,hwz,hlt⟩
  ·clear h hi
   refine su ?_
   refine Q_op fun ho=>A0u ho bod17 Y Y Y Y Y held_x ?_
   clear ho
   refine su ?_
   exact⟨Y,Y,Y⟩
end Go.Proofs.YtclejblcnfaeaaaGreat
end
section
namespace Go.Proofs.YtclejblcnfaeaaaGreat
open Go Go.Pal Go.Pal.To Go.Conc Go.ConcM Go.RowKit Go.ChangeShapes Go.WideShapes Go.ChangeAt Go.Deep
set_option maxHeartbeats 4000000
set_option maxRecDepth 100000
structure Opened(W:World)(v:View):Prop where
 ag:v.Agree W
 ro:∀b,¬v.Owns b
theorem opened0(W:World):Opened W (fun _=>none):=⟨(fun b p o h=>nomatch (show none=some (p,o)from h)),(fun b h=>by obtain⟨o,h⟩:=h;cases h)⟩
theorem Opened.both{W:World}{u v:View}(hu:Opened W u)(hv:Opened W v):Opened W (u.union v)∧u.Le (u.union v)∧v.Le (u.union v):=by
 have key:∀b,(u.union v) b=u b∨(u.union v) b=v b:=fun b=>by
  unfold View.union
  cases u b with
  | none=>exact .inr rfl
  | some x=>exact .inl rfl
 refine⟨⟨fun b p o h=>?_,fun b h=>?_⟩,(fun b x h=>by unfold View.union;rw [h]),fun b x h=>?_⟩
 ·rcases key b with e|e
  ·exact hu.ag b p o (e ▸ h)
  ·exact hv.ag b p o (e ▸ h)
 ·obtain⟨o,h⟩:=h
  rcases key b with e|e
  ·exact hu.ro b ⟨o,e ▸ h⟩
  ·exact hv.ro b ⟨o,e ▸ h⟩
 ·unfold View.union
  cases hb:u b with
  | none=>exact h
  | some y=>
   obtain⟨p,o⟩:=y
   obtain⟨p',o'⟩:=x
   have e1:=hu.ag b p o hb
   have e2:=hv.ag b p' o' h
   rw [e1]at e2
   cases e2
   have f1:p=false:=by
    cases p with
    | false=>rfl
    | true=>exact absurd ⟨_,hb⟩ (hu.ro b)
   have f2:p'=false:=by
    cases p' with
    | false=>rfl
    | true=>exact absurd ⟨_,h⟩ (hv.ro b)
   rw [f1,f2]
theorem row_view{W:World}{a:Addr}{cs:List Value}(hc:∀(i:Nat) (x:Value),cs[i]?=some x→W.cell? (a.add i)=some x):∃v,Opened W v∧RowAt v (some a) cs:=by
 cases cs with
 | nil=>exact⟨_,opened0 W,.inl rfl⟩
 | cons y l=>
  obtain⟨b,off,spot⟩:=a
  have h00:=hc 0 y Y
  have hspot:spot=none:=by simpa [Addr.add]using World.cell?_spot h00
  subst hspot
  have hc':∀(i:Nat) (x:Value),(y::l)[i]?=some x→W.cell? ⟨b,off+i,none⟩=some x:=fun i x hi=>by
   have:=hc i x hi
   rwa [add_plain]at this
  obtain⟨c,e,f,hO⟩:∃c e f,W.heap[b]?=some (.cells c e f):=by
   have:=hc' 0 y Y
   unfold World.cell? at this
   split at this
   ·rename_i c e f h;exact⟨c,e,f,h⟩
   ·cases this
  have hcc:∀(i:Nat) (x:Value),(y::l)[i]?=some x→c[off+i]?=some x:=fun i x hi=>by
   have:=hc' i x hi
   unfold World.cell? at this
   rw [hO]at this
   simpa using this
  refine⟨fun k=>if k=b then some (false,.cells c e f)else none,⟨fun k p o h=>?_,fun k h=>?_⟩,.inr ⟨b,off,false,c,e,f,Y,if_pos Y,?_,hcc⟩⟩
  ·replace h:(if k=b then some (false,Obj.cells c e f)else none)=some (p,o):=h
   by_cases hk:k=b
   ·subst hk
    rw [if_pos rfl]at h
    cases h
    exact hO
   ·rw [if_neg hk]at h;cases h
  ·obtain⟨o,h⟩:=h
   replace h:(if k=b then some (false,Obj.cells c e f)else none)=some (true,o):=h
   by_cases hk:k=b
   ·rw [if_pos hk]at h;cases h
   ·rw [if_neg hk]at h;cases h
  ·have h1:=hcc l.length ((y::l)[l.length]' sM) (List.getElem?_eq_getElem _)
   have h2:=(Array.getElem?_eq_some_iff.1 h1).1
   simp only [List.length_cons]
   omega
theorem list_of{α:Type}{n:Nat}{p:Nat→α→Prop}(h:∀i,i<n→∃x,p i x):∃l:List α,l.length=n∧∀i (hi:i<l.length),p i l[i]:=by
 induction n with
 | zero=>exact⟨[],rfl,fun i hi=>absurd hi (Nat.not_lt_zero _)⟩
 | succ n ih=>
  obtain⟨l,hl,hp⟩:=ih fun i hi=>h i oM
  obtain⟨x,hx⟩:=h n oM
  refine⟨l++[x],by simp [hl],fun i hi=>?_⟩
  by_cases e:i<l.length
  ·rw [List.getElem_append_left e];exact hp i e
  ·have hi':i=l.length:=by simp at hi;omega
   subst hi'
   simp
   rw [hl];exact hx
theorem acts_at:∀{ws:List MA} {k:Nat} {y:Value},(ws.map MA.cells).flatten[k]?=some y→∃(i:Nat) (hi:i<ws.length) (j:Nat),j<4∧k=i*4+j∧(MA.cells ws[i])[j]?=some y
 | [],k,y,h=>by simp at h
 | x::ws,k,y,h=>by
  rw [List.map_cons,List.flatten_cons]at h
  by_cases hk:k<4
  ·rw [List.getElem?_append_left (by exact hk)]at h
   exact⟨0,by simp,k,hk,oM,h⟩
  ·rw [List.getElem?_append_right (by show 4≤k;omega)]at h
   obtain⟨i,hi,j,hj,e,hx⟩:=acts_at h
   have e':k-4=i*4+j:=e
   exact⟨i+1,by simp;omega,j,hj,oM,by simpa using hx⟩
section
variable{H:Type}{enc:TypeId×Value→H}{P:Program}{w:World}{base:Nat}{spare:Nat→Bool}{held:Bool}
theorem B3i{t e:TypeId}{fs:Array Field}{fuel:Nat}{cs:List Value}{x:DataW H×List MemPlace}(ht:P.underlying t=some (.slice e))(he:P.underlying e=some (.struct fs))
  (hone:oneCellFields P fs=true)(hC:P.cellsOf e=fs.size)(h:DataW.trod enc P w base spare held fuel t cs=some x) :
  (cs=[.slice none 0 0]∧x=(.nil,[]))∨
  ∃ (a:Addr) (len cap m:Nat),cs=[.slice (some a) len cap]∧len≤cap∧m=(if spare a.block then cap else len)∧
   ∀i,i<m→∃n:Nat,∀(j:Nat) (f:Field),fs[j]?=some f→∃(v:Value) (y:DataW H×List MemPlace),w.cell? (a.add (i*fs.size+j))=some v∧DataW.trod enc P w base spare held n f.type [v]=some y:=by
 rcases open_slice ht h with h0|⟨a,len,cap,m,n,D,Pl,hcs,hb,hl,hm,hmm,hx,hi⟩
 ·exact .inl h0
 ·refine .inr ⟨a,len,cap,m,hcs,hl,hmm,fun i him=>?_⟩
  obtain⟨cs',hc,ht'⟩:=hi i him
  rw [hC]at hc
  obtain⟨ys,n',hn',hy,hlen,hyl,hf⟩:=DataW.trod_struct he ht'
  obtain⟨_,hcl,hat⟩:=World.cells?_some hc
  refine⟨n',fun j f hj=>?_⟩
  obtain⟨ho,hk⟩:=hone_of hone j f hj
  have hjl:j<fs.size:=(Array.getElem?_eq_some_iff.1 hj).1
  have hcell:=hat j hjl
  have hv:cs'[j]?=some (cs'[j]' oM):=List.getElem?_eq_getElem oM
  have h1:=hf j f hj
  rw [ho,hk]at h1
  have hone':(cs'.drop j).take 1=[cs'[j]' oM]:=by
   rw [List.drop_eq_getElem_cons oM]
   rfl
  rw [hone']at h1
  have hys:ys[j]?=some (ys[j]' oM):=List.getElem?_eq_getElem oM
  refine⟨_,_,?_,h1.trans hys⟩
  rw [←Go.Deep.add_add,hcell,hv]
end
section
variable{H:Type}{enc:TypeId×Value→H}{W:World}
theorem ints_view{fuel:Nat}{c:Value}{x:DataW H×List MemPlace}(h:DataW.trod enc Tryz.prog W 0 (fun _=>true) true fuel 22 [c]=some x):∃(a:Option Addr) (cap:Nat) (ns:List Int) (v:View),c = .slice a ns.length cap∧Opened W v∧RowAt v a (ns.map (.int .i64)):=by
 rcases open_ints Tryz.underlying22 Tryz.underlying3 cells3 h with ⟨hcs,hx⟩|⟨a,len,cap,zs,hcs,_,hl,hm,hz,hx,hcell,hwz⟩
 ·cases hcs
  exact⟨none,0,[],_,Y,opened0 W,.inl Y⟩
 ·cases hcs
  simp only [if_true]at hz
  have hlen:(zs.take len).length=len:=by rw [List.length_take];omega
  obtain⟨v,hv,hr⟩:=row_view (W:=W) (a:=a) (cs:=(zs.take len).map (.int .i64)) fun i x hi=>by
   rw [List.getElem?_map,Option.map_eq_some_iff]at hi
   obtain⟨y,hy,rfl⟩:=hi
   rw [List.getElem?_take]at hy
   split at hy
   ·rw [hcell i oM,List.getD_eq_getElem?_getD,hy];rfl
   ·cases hy
  exact⟨some a,cap,zs.take len,v,by rw [hlen],hv,hr⟩
theorem cells26:Tryz.prog.cellsOf 26=4:=by kernel_rfl
theorem words_view{fuel:Nat}{c:Value}{x:DataW H×List MemPlace}(h:DataW.trod enc Tryz.prog W 0 (fun _=>true) true fuel 42 [c]=some x):∃(a:Option Addr) (cap:Nat) (ws:List MA) (v:View),c = .slice a ws.length cap∧ws.length≤cap∧Opened W v∧ActsAt v a ws:=by
 rcases B3i Tryz.underlying42 Tryz.underlying26 kR cells26 h with ⟨hcs,hx⟩|⟨a,len,cap,m,hcs,hl,hm,hf⟩
 ·cases hcs
  exact⟨none,0,[],_,Y,Nat.le_refl _,opened0 W,.inl Y⟩
 ·cases hcs
  simp only [if_true]at hm
  subst hm
  obtain⟨ws,hws,hp⟩:=list_of (α:=MA) (n:=len) (p:=fun i x=>∀(j:Nat) (y:Value),(MA.cells x)[j]?=some y→W.cell? (a.add (i*4+j))=some y) fun i hi=>by
   obtain⟨n,hj⟩:=hf i oM
   obtain⟨v0,y0,k0,t0⟩:=hj 0 _ rfl
   obtain⟨v1,y1,k1,t1⟩:=hj 1 _ rfl
   obtain⟨v2,y2,k2,t2⟩:=hj 2 _ rfl
   obtain⟨v3,y3,k3,t3⟩:=hj 3 _ rfl
   obtain⟨n0,e0,-,-⟩:=DataW.trod_int Tryz.underlying3 t0
   obtain⟨n1,e1,-,-⟩:=DataW.trod_int Tryz.underlying3 t1
   obtain⟨n2,e2,-,-⟩:=DataW.trod_int Tryz.underlying3 t2
   obtain⟨n3,e3,-,-⟩:=DataW.trod_int Tryz.underlying3 t3
   cases e0
   cases e1
   cases e2
   cases e3
   refine⟨⟨n0,n1,n2,n3⟩,fun j y hy=>?_⟩
   match j,hy with
   | 0,hy=>cases hy;exact k0
   | 1,hy=>cases hy;exact k1
   | 2,hy=>cases hy;exact k2
   | 3,hy=>cases hy;exact k3
   | j+4,hy=>exact absurd hy (by simp [MA.cells])
  obtain⟨v,hv,hr⟩:=row_view (W:=W) (a:=a) (cs:=(ws.map MA.cells).flatten) fun k y hk=>by
   obtain⟨i,hi,j,hj,rfl,hx⟩:=acts_at hk
   exact hp i hi j y hx
  exact⟨some a,m,ws,v,by rw [hws],oM,hv,hr⟩
theorem row42:Tryz.prog.readableRec 42=true:=by kernel_rfl
theorem lt42:42<Tryz.prog.types.size:=of_decide_eq_true kR
theorem row3:Tryz.prog.readableRec 3=true:=by kernel_rfl
theorem lt3:3<Tryz.prog.types.size:=of_decide_eq_true kR
variable{base:Nat}{v0:Value}{d0:DataW H}{p:List MemPlace}
def Still(enc:TypeId×Value→H)(W:World)(t:TypeId)(v0:Value)(d0:DataW H)(p:List MemPlace):Prop:=∀w':World,Below W.heap.size W w'→DataW.Trod enc Tryz.prog w' 0 (fun b=>decide (b<W.heap.size)) true t v0 d0 p
theorem openB(hval:Value.okWide Tryz.prog W .any base 42 v0)(h0:DataW.Trod enc Tryz.prog W 0 (fun _=>true) true 42 v0 d0 p)(hlt:∀x∈p,x.block<W.heap.size) :
  ∃(a:Option Addr) (cap:Nat) (l:List MA) (v:View),v0 = .slice a l.length cap∧l.length≤cap∧Opened W v∧ActsAt v a l∧Still enc W 42 v0 d0 p:=by
 have hargs:Still enc W 42 v0 d0 p:=fun w' hb=>Below.trod laid row42 lt42 h0 hb hlt
 obtain⟨a,len,cap,rfl⟩:=okWide_slice Tryz.underlying42 hval
 obtain⟨fuel,hf⟩:=h0
 obtain⟨a,cap,l,v,e,h1,h2,h3⟩:=words_view (c:=.slice a len cap) hf
 exact⟨a,cap,l,v,e,h1,h2,h3,hargs⟩
theorem openI(hval:Value.okWide Tryz.prog W .any base 3 v0)(h0:DataW.Trod enc Tryz.prog W 0 (fun _=>true) true 3 v0 d0 p)(hlt:∀x∈p,x.block<W.heap.size):∃n:Int,v0 = .int .i64 n∧Still enc W 3 v0 d0 p:=by
 have hargs:Still enc W 3 v0 d0 p:=fun w' hb=>Below.trod laid row3 lt3 h0 hb hlt
 obtain⟨n,rfl⟩:=okWide_int Tryz.underlying3 hval
 exact⟨n,Y,hargs⟩
theorem openL(hval:Value.okWide Tryz.prog W .any base 22 v0)(h0:DataW.Trod enc Tryz.prog W 0 (fun _=>true) true 22 v0 d0 p)(hlt:∀x∈p,x.block<W.heap.size) :
  ∃(a:Option Addr) (cap:Nat) (ns:List Int) (v:View),v0 = .slice a ns.length cap∧Opened W v∧RowAt v a (ns.map (.int .i64))∧Still enc W 22 v0 d0 p:=by
 have hargs:Still enc W 22 v0 d0 p:=fun w' hb=>Below.trod laid row22 lt22 h0 hb hlt
 obtain⟨a,len,cap,rfl⟩:=okWide_slice Tryz.underlying22 hval
 obtain⟨fuel,hf⟩:=h0
 obtain⟨a,cap,ns,v,e,h1,h2⟩:=ints_view (c:=.slice a len cap) hf
 exact⟨a,cap,ns,v,e,h1,h2,hargs⟩
theorem trodAll_six{P:Program}{w:World}{base:Nat}{spare:Nat→Bool}{held:Bool}{t t1 t2 t3 t4 t5:TypeId}{args:Array Value}{ds:List (DataW H)}{ps:List MemPlace}(h:DataW.TrodAll enc P w base spare held [t,t1,t2,t3,t4,t5] args.toList ds ps) :
  ∃v v1 v2 v3 v4 v5 d d1 d2 d3 d4 d5 p p1 p2 p3 p4 p5,args=#[v,v1,v2,v3,v4,v5]∧ds=[d,d1,d2,d3,d4,d5]∧ps=p++(p1++(p2++(p3++(p4++p5))))∧DataW.Trod enc P w base spare held t v d p∧DataW.Trod enc P w base spare held t1 v1 d1 p1∧DataW.Trod enc P w base spare held t2 v2 d2 p2∧DataW.Trod enc P w base spare held t3 v3 d3 p3∧DataW.Trod enc P w base spare held t4 v4 d4 p4∧DataW.Trod enc P w base spare held t5 v5 d5 p5:=by
 obtain⟨v,vs,d,ds',p,q,hargs,rfl,rfl,hd,hr⟩:=trodAll_cons h
 obtain⟨v1,vs1,d1,ds1,p1,q1,rfl,rfl,rfl,hd1,hr1⟩:=trodAll_cons hr
 obtain⟨v2,vs2,d2,ds2,p2,q2,rfl,rfl,rfl,hd2,hr2⟩:=trodAll_cons hr1
 obtain⟨v3,vs3,d3,ds3,p3,q3,rfl,rfl,rfl,hd3,hr3⟩:=trodAll_cons hr2
 obtain⟨v4,vs4,d4,ds4,p4,q4,rfl,rfl,rfl,hd4,hr4⟩:=trodAll_cons hr3
 obtain⟨v5,vs5,d5,ds5,p5,q5,rfl,rfl,rfl,hd5,hr5⟩:=trodAll_cons hr4
 obtain⟨rfl,rfl,rfl⟩:=trodAll_nil hr5
 exact⟨v,v1,v2,v3,v4,v5,d,d1,d2,d3,d4,d5,p,p1,p2,p3,p4,p5,by cases args;simp_all,Y,by simp,hd,hd1,hd2,hd3,hd4,hd5⟩
end
theorem row9:Tryz.prog.readableRec 9=true:=by kernel_rfl
theorem lt9:9<Tryz.prog.types.size:=of_decide_eq_true kR
theorem row5:Tryz.prog.readableRec 5=true:=by kernel_rfl
theorem lt5:5<Tryz.prog.types.size:=of_decide_eq_true kR
section
variable{H:Type}{enc:TypeId×Value→H}{W:World}{base:Nat}{v0:Value}{d0:DataW H}{p:List MemPlace}
theorem openS(hval:Value.okWide Tryz.prog W .any base 9 v0)(h0:DataW.Trod enc Tryz.prog W 0 (fun _=>true) true 9 v0 d0 p)(hlt:∀x∈p,x.block<W.heap.size):∃s:ByteArray,v0 = .string s∧Still enc W 9 v0 d0 p:=by
 have hargs:Still enc W 9 v0 d0 p:=fun w' hb=>Below.trod laid row9 lt9 h0 hb hlt
 obtain⟨s,rfl⟩:=okWide_string Tryz.underlying9 hval
 exact⟨s,Y,hargs⟩
theorem openY(hval:Value.okWide Tryz.prog W .any base 5 v0)(h0:DataW.Trod enc Tryz.prog W 0 (fun _=>true) true 5 v0 d0 p)(hlt:∀x∈p,x.block<W.heap.size):∃b:UInt8,v0 = .int .u8 b.toNat∧Still enc W 5 v0 d0 p:=by
 have hargs:Still enc W 5 v0 d0 p:=fun w' hb=>Below.trod laid row5 lt5 h0 hb hlt
 obtain⟨n,rfl⟩:=okWide_int Tryz.underlying5 hval
 have hn:0≤n∧n<256:=by
  simp only [Value.okWide,Tryz.underlying5,Cell.okWide,Cell.ok,IntKind.has]at hval
  have h1:IntKind.u8.min=0:=rfl
  have h2:IntKind.u8.max=255:=rfl
  have h3:IntKind.u8.min≤n∧n≤IntKind.u8.max:=by simpa using hval
  omega
 refine⟨UInt8.ofNat n.toNat,?_,hargs⟩
 rw [UInt8.toNat_ofNat',Nat.mod_eq_of_lt oM]
 congr 1;omega
end
end Go.Proofs.YtclejblcnfaeaaaGreat
end
section
namespace Go.Proofs.YtclejblcnfaeaaaGreat
open Go Go.ChangeShapes
theorem B3b{a b:Bool}(ha:a=true)(hb:b=true):(a&&b)=true:=by rw [ha,hb];rfl
theorem j10_0:(Rows.tollReadsRow.wf (OpenSpec.ofChange Rows.tollReadsSpec))=true:=by kernel_rfl
theorem j10_1:(laidOutB Tryz.prog)=true:=by kernel_rfl
theorem j10_2:(mapsRowed Tryz.prog)=true:=by kernel_rfl
theorem j10_3:(Tryz.f10.params.all (Tryz.prog.readableRec ·))=true:=by kernel_rfl
theorem j10_4:(namedTie Tryz.prog Rows.tollReadsRow.named Rows.tollReadsSpec.vars)=true:=by kernel_rfl
theorem j10_5:((Rows.tollReadsRow.stops == []))=true:=by kernel_rfl
theorem j10_6:((Tryz.prog.stops == []))=true:=by kernel_rfl
theorem j10_7:((Rows.tollReadsRow.knobs == []))=true:=by kernel_rfl
theorem j10_8:((Tryz.prog.stopKnobs == []))=true:=by kernel_rfl
theorem j10_9:((Rows.tollReadsRow.inPlace==Tryz.prog.inPlace 10))=true:=by kernel_rfl
theorem j10_10:((Rows.tollReadsRow.unfollowed==Tryz.prog.unfollowed 10))=true:=by kernel_rfl
theorem j10_11:((Rows.tollReadsRow.recurses==Tryz.prog.recurses 10))=true:=by kernel_rfl
theorem j10_12:((Rows.tollReadsRow.named==Tryz.prog.varsNamed 10))=true:=by kernel_rfl
theorem j10_13:((Rows.tollReadsRow.maps==(Tryz.f10.params.toList++Rows.tollReadsSpec.plain.varTypes Tryz.prog).any (Tryz.prog.mapsRec ·)))=true:=by kernel_rfl
theorem j10_14:((Rows.tollReadsRow.ifaces==(Tryz.f10.params.toList++Rows.tollReadsSpec.plain.varTypes Tryz.prog).any (Tryz.prog.ifacesRec ·)))=true:=by kernel_rfl
theorem j10_15:((Rows.tollReadsRow.mapsOut==Tryz.prog.mapsAmong Tryz.f10.resultTypes.toList))=true:=by kernel_rfl
theorem j10_16:((Rows.tollReadsRow.loops==(Tryz.f10.params.toList++Rows.tollReadsSpec.plain.varTypes Tryz.prog).any (Tryz.prog.loopsFrom ·)))=true:=by kernel_rfl
theorem j10_17:((Rows.tollReadsRow.wideKeys==(Tryz.f10.params.toList++Rows.tollReadsSpec.plain.varTypes Tryz.prog++Tryz.f10.resultTypes.toList).any (Tryz.prog.wideKeysFrom ·)))=true:=by kernel_rfl
theorem j10_18:(Rows.tollReadsSpec.vars.all (Tryz.prog.varReadable ·))=true:=by kernel_rfl
theorem j10_19:(Tryz.f10.resultTypes.all (fun t=>Tryz.prog.readableRec t&&decide (t<Tryz.prog.types.size)))=true:=by kernel_rfl
theorem j10_20:((Rows.tollReadsRow.ifacesOut==Tryz.f10.resultTypes.toList.any (Tryz.prog.ifacesRec ·)))=true:=by kernel_rfl
theorem j10_21:((Rows.tollReadsRow.loopsOut==Tryz.f10.resultTypes.toList.any (Tryz.prog.loopsFrom ·)))=true:=by kernel_rfl
theorem j10_22:((Rows.tollReadsRow.plainKeys==Tryz.prog.plainKeys))=true:=by kernel_rfl
theorem j10_23:(Rows.tollReadsRow.shortTexts.isNone)=true:=by kernel_rfl
theorem j10_24:(Tryz.prog.stopsHeard)=true:=by kernel_rfl
theorem j10_25:(Tryz.prog.mayEnter)=true:=by kernel_rfl
theorem j10_26:((Rows.tollReadsRow.lifted==Tryz.prog.liftsFinal))=true:=by kernel_rfl
theorem j10_27:((Tryz.prog.make==some Rows.tollReadsRow.make))=true:=by kernel_rfl
theorem j10_28:((Rows.tollReadsRow.kinds==(if Rows.tollReadsRow.domain.isEmpty then []else Tryz.f10.params.toList.map fun t=>match Tryz.prog.underlying t with|some (.int k)=>some k|_=>none)))=true:=by kernel_rfl
theorem j10_29:((Rows.tollReadsRow.pinned==Rows.tollReadsRow.pinnedBy))=true:=by kernel_rfl
theorem j10_30:((Rows.tollReadsRow.veiled==(Tryz.f10.params.toList++Rows.tollReadsSpec.plain.varTypes Tryz.prog++Tryz.f10.resultTypes.toList).any (Tryz.prog.veiledRec ·)))=true:=by kernel_rfl
theorem j10_31:(Rows.tollReadsRow.veiledFits Tryz.prog Tryz.f10.params.toList (Tryz.f10.params.toList++Rows.tollReadsSpec.plain.varTypes Tryz.prog++Tryz.f10.resultTypes.toList))=true:=by kernel_rfl
set_option maxRecDepth 100000 in
theorem j10:joinedFacts Tryz.prog 10 Tryz.f10 Rows.tollReadsSpec Rows.tollReadsRow=true:=B3b (B3b (B3b (B3b (B3b (B3b (B3b (B3b (B3b (B3b (B3b (B3b (B3b (B3b (B3b (B3b (B3b (B3b (B3b (B3b (B3b (B3b (B3b (B3b (B3b (B3b (B3b (B3b (B3b (B3b (B3b (j10_0) j10_1) j10_2) j10_3) j10_4) j10_5) j10_6) j10_7) j10_8) j10_9) j10_10) j10_11) j10_12) j10_13) j10_14) j10_15) j10_16) j10_17) j10_18) j10_19) j10_20) j10_21) j10_22) j10_23) j10_24) j10_25) j10_26) j10_27) j10_28) j10_29) j10_30) j10_31
end Go.Proofs.YtclejblcnfaeaaaGreat
end
section
namespace Go.Proofs.YtclejblcnfaeaaaGreat
open Go Go.Pal Go.Pal.To Go.Conc Go.ConcM Go.RowKit Go.ChangeShapes Go.WideShapes Go.ChangeAt
open View
theorem own_knob:ownKnob Tryz.prog.godebug=none:=by kernel_rfl
set_option maxRecDepth 100000 in
set_option maxHeartbeats 4000000 in
theorem reads_lifted(os:Os)(started:os.Started)(H:Type)(enc:TypeId×Value→H) :
  ReturnsInLeavingWide {} Tryz.checked os 10 .any (Rows.tollReadsSpec.pre6 enc Tryz.prog Tryz.f10 Rows.tollReadsRow.domain false) (Rows.tollReadsSpec.post enc Tryz.prog Tryz.f10 false true false false):=by
 refine returnsInLeavingWide_of_change_sized (C:=Tryz.checked) own_knob started Tryz.func10
  (ChangeSpec.witness6 (enc:=enc) (C:=Tryz.checked) false ⟨#[],#[.string ⟨#[]⟩,.slice none 0 0,.int .i64 0,.int .i64 0,.int .u8 0,.slice none 0 0],[]⟩ 8 kR kR kR kR) ?_
 intro W base args ds gs before hval0 hW _ _ _
 have hval:∀(j:Nat) t v,Tryz.f10.params[j]?=some t→args[j]?=some v→Value.okWide Tryz.prog W .any base t v:=hval0
 have hW':=hW
 obtain⟨p,q,hA0,hV,rfl,_,_⟩:=hW
 have hA:DataW.TrodAll enc Tryz.prog W 0 (fun _=>true) true Tryz.f10.params.toList args.toList ds p:=hA0
 rw [Tryz.params10]at hA hval
 obtain⟨v0,v1,v2,v3,v4,v5,d0,d1,d2,d3,d4,d5,p0,p1,p2,p3,p4,p5,rfl,rfl,rfl,h0,h1,h2,h3,h4,h5⟩:=trodAll_six hA
 obtain⟨rfl,rfl⟩:=trodVars_none hV
 clear hA0 hval0
 simp only [List.append_nil,List.append_assoc]at hW'
 have hlt:∀x∈p0++(p1++(p2++(p3++(p4++(p5))))),x.block<W.heap.size:=fun x hx=>by simpa using hW'.lt x hx
 obtain⟨sw,rfl,hst0⟩:=openS (hval 0 9 v0 rfl rfl) h0 (fun x hx=>hlt x (by simp only [List.mem_append];simp [hx]))
 obtain⟨a1,c1,l1,u1,rfl,hc1,hu1,hm1,hst1⟩:=openB (hval 1 42 v1 rfl rfl) h1 (fun x hx=>hlt x (by simp only [List.mem_append];simp [hx]))
 obtain⟨at2,rfl,hst2⟩:=openI (hval 2 3 v2 rfl rfl) h2 (fun x hx=>hlt x (by simp only [List.mem_append];simp [hx]))
 obtain⟨at3,rfl,hst3⟩:=openI (hval 3 3 v3 rfl rfl) h3 (fun x hx=>hlt x (by simp only [List.mem_append];simp [hx]))
 obtain⟨yw,rfl,hst4⟩:=openY (hval 4 5 v4 rfl rfl) h4 (fun x hx=>hlt x (by simp only [List.mem_append];simp [hx]))
 obtain⟨a0_,cap0,ns,u5,rfl,hu5,hns,hst5⟩:=openL (hval 5 22 v5 rfl rfl) h5 (fun x hx=>hlt x (by simp only [List.mem_append];simp [hx]))
 obtain⟨hO0,la0,lb0⟩:=hu1.both hu5
 obtain⟨M,last,o,w',t',r1,r2,r3,r4⟩:=law_run (P:=Tryz.prog) (W:=W) (v:=(u1.union u5)) (args:=[.string sw,.slice a1 l1.length c1,.int .i64 at2,.int .i64 at3,.int .u8 yw.toNat,.slice a0_ ns.length cap0]) Tryz.func10 rfl kR hO0.ag hO0.ro (reads_run (hm1.le (la0)) (RowAt.le hns (lb0)))
 refine⟨M,last,o,w',t',r1,r2,r3,r4.mono fun x hp=>?_⟩
 obtain⟨rfl,hbel0,hos⟩:=hp
 have hbel:Below W.heap.size W w':=by
  have e:w'.os=W.os:=hos
  rw [←e]at hbel0
  exact hbel0
 exact⟨_,_,_,[],p0++(p1++(p2++(p3++(p4++(p5))))),[],hW',trodAll_mk1 (shut_bool Tryz.underlying4 true),trodAll_cons_mk (hst0 _ hbel) (trodAll_cons_mk (hst1 _ hbel) (trodAll_cons_mk (hst2 _ hbel) (trodAll_cons_mk (hst3 _ hbel) (trodAll_cons_mk (hst4 _ hbel) (trodAll_mk1 (hst5 _ hbel)))))),Y,hbel.frame _,fun h=>by cases h⟩
theorem reads_said:Rows.TollReadsSaid:=
 OpenClaim.holds_of_wide_leaving 10 Tryz.f10 rfl rfl rfl rfl rfl rfl rfl ⟨rfl,rfl,rfl,rfl,rfl⟩ rfl rfl rfl rfl rfl kR Tryz.func10 j10
  (of_decide_eq_true kR) (by unfold Func.isWrapper;first|(rw [if_pos (by decide +kernel)];kernel_rfl)|(rw [if_neg (by decide +kernel)];exact⟨Y,Y⟩))
  (fun os started H enc _=>reads_lifted os started H enc)
end Go.Proofs.YtclejblcnfaeaaaGreat
end
#print axioms Go.Proofs.YtclejblcnfaeaaaGreat.reads_said
