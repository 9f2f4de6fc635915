/- Part 45. -/
import Derived.Test.YtclejblcnfaeaaaGreatDoorQholdsb
set_option linter.all false
section
namespace Go.Proofs.YtclejblcnfaeaaaGreatDoor
open Go Go.Pal Go.Pal.To Go.Conc View
open Go.Extern
open Go.Proofs.Tryz
set_option maxHeartbeats 4000000
set_option maxRecDepth 20000
abbrev hT(t:Nat):Value:=.pointer (some ⟨2,t,none⟩)
abbrev rtV(t:Nat):Value:=.iface 253 (.agg (List.toArray [hT t]))
abbrev rvV(t b:Nat)(fl:Int):Value:=.agg (List.toArray [hT t,.pointer (some ⟨b,0,none⟩),.int .u64 fl])
abbrev rfV(x y z:Int):Value:=.agg (List.toArray [intV x,intV y,intV z])
theorem e107:Ext prog 107 f107 (fun args=>ReflectliteValue.unpack (args.getD 0 (.tuple #[]))):=⟨func107,Y,Y,by kernel_rfl,kR⟩
theorem e108:Ext prog 108 f108 (ReflectliteValue.methodAny (ReflectliteValue.valueError "reflectlite.Value.Type" 0) (fun t _ _ _=>ReflectliteType.toType t)):=⟨func108,rfl,rfl,by kernel_rfl,kR⟩
theorem e109:Ext prog 109 f109 (ReflectliteValue.method (ReflectliteValue.valueError "reflectlite.Value.IsNil" 0) ReflectliteValue.isNil):=⟨func109,rfl,rfl,by kernel_rfl,kR⟩
theorem e265:Ext prog 265 f265 (ReflectliteType.abiMethod fun t=>do pure (.int .u8 (←Rtype.kind t))):=⟨func265,Y,Y,by kernel_rfl,kR⟩
theorem e281:Ext prog 281 f281 (ReflectliteType.method ReflectliteType.elem):=⟨func281,Y,Y,by kernel_rfl,kR⟩
theorem e282:Ext prog 282 f282 (ReflectliteType.relation "Implements" ReflectliteType.implements_):=⟨func282,rfl,rfl,by kernel_rfl,kR⟩
theorem e279:Ext prog 279 f279 (ReflectliteType.relation "AssignableTo" ReflectliteType.assignableTo):=⟨func279,rfl,rfl,by kernel_rfl,kR⟩
theorem e145:Ext prog 145 f145 ReflectliteType.typeOf:=⟨func145,Y,Y,by kernel_rfl,kR⟩
theorem e146:Ext prog 146 f146 (ReflectliteValue.method (ReflectliteValue.valueError "reflectlite.Value.Elem" 0) ReflectliteValue.elem):=⟨func146,rfl,rfl,by kernel_rfl,kR⟩
theorem e147:Ext prog 147 f147 ReflectliteValue.set:=⟨func147,Y,Y,by kernel_rfl,kR⟩
section
variable(KK:FuncId×Value→View→Prop)(K:Value→View→Prop)(E:Value→View→Prop)(w:View)
theorem mKind{h:Value}:SemX prog (Go.method (prog.types.size+Made.depth) 253 (.agg (List.toArray [h])) "Kind") KK E w=KK (265,h) w:=by kernel_rfl
theorem mElem{h:Value}:SemX prog (Go.method (prog.types.size+Made.depth) 253 (.agg (List.toArray [h])) "Elem") KK E w=KK (281,.agg (List.toArray [h])) w:=by kernel_rfl
theorem mImpl{h:Value}:SemX prog (Go.method (prog.types.size+Made.depth) 253 (.agg (List.toArray [h])) "Implements") KK E w=KK (282,.agg (List.toArray [h])) w:=by kernel_rfl
theorem mAss{h:Value}:SemX prog (Go.method (prog.types.size+Made.depth) 253 (.agg (List.toArray [h])) "AssignableTo") KK E w=KK (279,.agg (List.toArray [h])) w:=by kernel_rfl
theorem k117:SemX prog ((ReflectliteType.abiMethod fun t=>do pure (.int .u8 (←Rtype.kind t))) (hT 117::[]).toArray) K E w=K (.int .u8 22) w:=by kernel_rfl
theorem k115:SemX prog ((ReflectliteType.abiMethod fun t=>do pure (.int .u8 (←Rtype.kind t))) (hT 115::[]).toArray) K E w=K (.int .u8 25) w:=by kernel_rfl
theorem el117:SemX prog ((ReflectliteType.method ReflectliteType.elem) (.agg (List.toArray [hT 117])::[]).toArray) K E w=K (rtV 115) w:=by kernel_rfl
theorem im115:SemX prog ((ReflectliteType.relation "Implements" ReflectliteType.implements_) (.agg (List.toArray [hT 115])::[rtV 101]).toArray) K E w=K (.bool true) w:=by kernel_rfl
theorem as115:SemX prog ((ReflectliteType.relation "AssignableTo" ReflectliteType.assignableTo) (.agg (List.toArray [hT 115])::[rtV 115]).toArray) K E w=K (.bool true) w:=by kernel_rfl
theorem ty115{x:Value}:SemX prog (ReflectliteType.typeOf [.iface 115 x].toArray) K E w=K (rtV 115) w:=by kernel_rfl
theorem vt117{b:Nat}:SemX prog ((ReflectliteValue.methodAny (ReflectliteValue.valueError "reflectlite.Value.Type" 0) (fun t _ _ _=>ReflectliteType.toType t)) [rvV 117 b 150].toArray) K E w=K (rtV 117) w:=by kernel_rfl
theorem un117{r:Nat}:SemX prog (ReflectliteValue.unpack (.iface 117 (.pointer (some ⟨r,0,none⟩)))) K E w = ∀b,w b=none→K (rvV 117 b 150) (w.set b true (.cells (List.toArray [.pointer (some ⟨r,0,none⟩)]) 117 (0,0))):=by kernel_rfl
theorem un115{x y z:Int}:SemX prog (ReflectliteValue.unpack (.iface 115 (rfV x y z))) K E w = ∀b,w b=none→K (rvV 115 b 153) (w.set b true (.cells (rfV x y z).cells 115 (0,0))):=by kernel_rfl
theorem parts117{K:Option (TypeId×Addr×Nat)→View→Prop}{b:Nat}:SemX prog (ReflectliteValue.parts (rvV 117 b 150)) K E w=K (some (117,⟨b,0,none⟩,150)) w:=by kernel_rfl
theorem parts115{K:Option (TypeId×Addr×Nat)→View→Prop}{b:Nat}:SemX prog (ReflectliteValue.parts (rvV 115 b 153)) K E w=K (some (115,⟨b,0,none⟩,153)) w:=by kernel_rfl
theorem parts115a{K:Option (TypeId×Addr×Nat)→View→Prop}{b:Nat}:SemX prog (ReflectliteValue.parts (rvV 115 b 409)) K E w=K (some (115,⟨b,0,none⟩,409)) w:=by kernel_rfl
theorem direct115{K:Bool→View→Prop}:SemX prog (Rtype.directlyAssignable 115 115) K E w=K true w:=by kernel_rfl
theorem elemOf117{K:Option TypeId→View→Prop}:SemX prog (Rtype.elem? 117) K E w=K (some 115) w:=by kernel_rfl
theorem mk115{r:Nat}:SemX prog (ReflectliteValue.mk 115 ⟨r,0,none⟩ ReflectliteValue.flagAddr) K E w=K (rvV 115 r 409) w:=by kernel_rfl
theorem rlm(z:Sem Value)(f:TypeId→Addr→Nat→Nat→Sem Value)(v:Value) :
  ReflectliteValue.method z f #[v]=(do match ←ReflectliteValue.parts v with|none=>z|some (t,a,fl)=>f t a fl (fl % 32)):=rfl
variable{K}{w}
theorem nil117{b r:Nat}{p:Bool}{f:Nat×Nat}(hb:w b=some (p,.cells (List.toArray [.pointer (some ⟨r,0,none⟩)]) 117 f))(h:K (.bool false) w) :
  SemX prog ((ReflectliteValue.method (ReflectliteValue.valueError "reflectlite.Value.IsNil" 0) ReflectliteValue.isNil) [rvV 117 b 150].toArray) K E w:=by
 show SemX prog (ReflectliteValue.method _ _ #[rvV 117 b 150]) K E w
 rw [rlm,A0a,parts117]
 show SemX prog (ReflectliteValue.isNil 117 ⟨b,0,none⟩ 150 22) K E w
 show SemX prog (loadVar 117 ⟨b,0,none⟩ >>= _) K E w
 rw [A0a]
 exact A2z tab hb (x:=.pointer (some ⟨r,0,none⟩)) Y h
theorem elv117{b r:Nat}{p:Bool}{f:Nat×Nat}(hb:w b=some (p,.cells (List.toArray [.pointer (some ⟨r,0,none⟩)]) 117 f))(h:K (rvV 115 r 409) w) :
  SemX prog ((ReflectliteValue.method (ReflectliteValue.valueError "reflectlite.Value.Elem" 0) ReflectliteValue.elem) [rvV 117 b 150].toArray) K E w:=by
 show SemX prog (ReflectliteValue.method _ _ #[rvV 117 b 150]) K E w
 rw [rlm,A0a,parts117]
 show SemX prog (ReflectliteValue.elem 117 ⟨b,0,none⟩ 150 22) K E w
 show SemX prog (loadVar 117 ⟨b,0,none⟩ >>= _) K E w
 rw [A0a]
 refine A2z tab hb (x:=.pointer (some ⟨r,0,none⟩)) Y ?_
 show SemX prog (Rtype.elem? 117 >>= _) K E w
 rw [A0a,elemOf117]
 show SemX prog (ReflectliteValue.mk 115 ⟨r,0,none⟩ ReflectliteValue.flagAddr) K E w
 rw [mk115]
 exact h
theorem rls(v x:Value):ReflectliteValue.set #[v,x]=(do
  let (some (dst,a,fl),some (src,b,_)):=(←ReflectliteValue.parts v,←ReflectliteValue.parts x)
   | unsupported (.noEntry "extern/(internal/reflectlite.Value).Set.zeroValue")
  if fl / ReflectliteValue.flagAddr % 2==0 then unsupported (.noEntry "extern/(internal/reflectlite.Value).Set.unaddressable")
  let val ←loadVar src b
  if ←Rtype.directlyAssignable dst src then storeVar dst a val
  else if ←Rtype.implements dst src then
   if(←Rtype.kind src)==20 then
    match val with
    | .nilIface=>unsupported (.noEntry "extern/reflectlite: a nil value of one interface type handed on as a value of another")
    | _=>storeVar dst a val
   else storeVar dst a (.iface src val)
  else panicString ("reflectlite.Set: value of type "++(←Rtype.spelt src)++ " is not assignable to type "++(←Rtype.spelt dst))
  pure (.tuple #[])):=rfl
theorem set115{b r:Nat}{p:Bool}{f:Nat×Nat}{x y z:Int}{c:Array Value}{t:TypeId}(hb:w b=some (p,.cells (rfV x y z).cells 115 f))(hr:w r=some (true,.cells c t (0,0)))(hc:c.size=3)
  (h:K (.tuple (List.toArray [])) (w.set r true (.cells (A0z c 0 [intV x,intV y,intV z]) t (0,0)))) :
  SemX prog (ReflectliteValue.set [rvV 115 r 409,rvV 115 b 153].toArray) K E w:=by
 show SemX prog (ReflectliteValue.set #[rvV 115 r 409,rvV 115 b 153]) K E w
 rw [rls,A0a,parts115a,A0a,parts115]
 show SemX prog (loadVar 115 ⟨b,0,none⟩ >>= _) K E w
 rw [A0a]
 refine A2z tab hb (x:=rfV x y z) Y ?_
 rw [A0a,direct115]
 show SemX prog (storeVar 115 ⟨r,0,none⟩ (rfV x y z) >>= _) K E w
 rw [A0a]
 unfold storeVar
 rw [A0a,A4f tab (t:=115) Y,if_neg (fun h=>h Y)]
 exact A3q (off:=0) (c:=c) (j:=0) Y hr (by rw [hc];exact Nat.le_refl 3) h
end
theorem putV_rv{b:Nat}:(putV (Value.agg (List.toArray [.pointer none,.pointer none,.int .u64 0])).cells.toList 0 (rvV 117 b 150).cells.toList).toArray=(rvV 117 b 150).cells:=rfl
section
variable{mn:Who}{v:View}
theorem asNil_x{t:Value}:Ret1 prog mn 62 [.nilIface,t] (.bool false) v:=by
 refine A0d tab func62 Y nB (args:=[_,_]) ?_
 refine su ?_
 refine Q_op fun ho=>A_eqlNil tab (r:=true) ho Y Y Y Y (.inl ⟨Y,Y⟩) ?_
 clear ho
 refine su ?_
 refine A0f tab [] (by exact .tmp rfl .nil) (Back.here cntL) ?_
 exact⟨Y,Y⟩
theorem as_loop{x y z:Int}{b r:Nat}{c:Array Value}(hc:c.size=3) :
  CallsB prog mn 110 #[.iface 115 (rfV x y z),.iface 117 (.pointer (some ⟨r,0,none⟩)),rvV 117 b 150,rtV 115] (RetB fun q β'=>q = .bool true∧β'=[(r,A0z c 0 [intV x,intV y,intV z],115)])
   [(r,c,115),(b,List.toArray [.pointer (some ⟨r,0,none⟩)],117)] v:=by
 refine A0d tab func110 Y nB (args:=[_,_,_,_]) ?_
 refine sw fun bx=>?_
 obtain⟨b6,rfl⟩:∃x:Nat,x=bx:=⟨bx,rfl⟩
 refine A1q (α:=Nat) (fun i=>⟨[],[(0,.iface 115 (rfV x y z)),(1,.iface 117 (.pointer (some ⟨r,0,none⟩))),(6,.pointer (some ⟨b6,0,none⟩)),(3,rtV 115)],[(b6,(rvV 117 b 150).cells,206),(r,c,115),(b,List.toArray [.pointer (some ⟨r,0,none⟩)],117)]⟩)
  (fun i u=>u=v) (fun i=>0) 0 ⟨Y,rg,cntL⟩ (Le.refl _) Y ?_
 rintro i u rfl
 refine su ?_
 refine Q_op fun ho=>A_ext ho Y Y e145 Y (fun K E w h=>(ty115 K E w).mpr h) ?_
 clear ho
 refine su ?_
 refine Q_op fun ho=>A_extI ho Y Y e279 Y Y (fun KK E w=>mAss KK E w) (fun K E w=>as115 K E w) ?_
 clear ho
 refine su ?_
 refine Q_op fun ho=>A_extM ho Y Y e146 Y (fun hbk E'=>elv117 E' (r:=r) (A0q hbk ib) ⟨_,u,⟨hbk,Le.refl _⟩,?_⟩)
 clear ho
 refine su ?_
 refine Q_op fun ho=>A_extM ho Y Y e107 Y (fun hbk E'=>(un115 _ E' _).mpr fun b2 hb2=>⟨_,u,A7m hbk hb2,?_⟩)
 clear ho
 refine su ?_
 refine Q_op fun ho=>A_extM ho Y Y e147 Y (fun hbk E'=>set115 E' (x:=x) (y:=y) (z:=z) (c:=c) (t:=115) (A0q hbk ib) (A0q hbk ib) hc ⟨_,u,box_put hbk ib sb,?_⟩)
 clear ho
 refine su ?_
 refine A0f tab [(r,A0z c 0 [intV x,intV y,intV z],115)] (by exact .tmp rfl .nil) (Back.here cntL) ⟨Y,Y⟩
theorem as_x{x y z:Int}{r:Nat}{c:Array Value}(hc:c.size=3)(hg:RowAt v (some ⟨0,0,none⟩) [rtV 101]) :
  CallsB prog mn 62 #[.iface 115 (rfV x y z),.iface 117 (.pointer (some ⟨r,0,none⟩))] (RetB fun q β'=>q = .bool true∧β'=[(r,A0z c 0 [intV x,intV y,intV z],115)]) [(r,c,115)] v:=by
 obtain⟨b0,o0,p0,c0,e0,f0,e,hv0,hc0⟩:=row_cell hg (j:=0) rfl
 cases e
 refine A0d tab func62 Y nB (args:=[_,_]) ?_
 refine su ?_
 refine Q_op fun ho=>A_eqlNil tab (r:=false) ho Y Y Y Y (.inr ⟨Y,_,_,Y⟩) ?_
 clear ho
 refine su ?_
 refine Q_op fun ho=>A_eqlNil tab (r:=false) ho Y Y Y Y (.inr ⟨Y,_,_,Y⟩) ?_
 clear ho
 refine su ?_
 refine Q_op fun ho=>A_extM ho Y Y e107 Y (fun hbk E'=>(un117 _ E' _).mpr fun b hb=>⟨_,v,A7m hbk hb,?_⟩)
 clear ho
 refine sw fun bx=>?_
 obtain⟨b5,rfl⟩:∃x:Nat,x=bx:=⟨bx,rfl⟩
 rw [putV_rv]
 refine su ?_
 refine Q_op fun ho=>A_ext ho Y Y e108 Y (fun K E w h=>(vt117 K E w).mpr h) ?_
 clear ho
 refine su ?_
 refine Q_op fun ho=>A_extI ho Y Y e265 Y Y (fun KK E w=>mKind KK E w) (fun K E w=>k117 K E w) ?_
 clear ho
 refine su ?_
 refine Q_op fun ho=>A_extM ho Y Y e109 Y (fun hbk E'=>nil117 E' (r:=r) (A0q hbk ib) ⟨_,v,⟨hbk,Le.refl _⟩,?_⟩)
 clear ho
 refine su ?_
 refine Q_op fun ho=>A_extI ho Y Y e281 Y Y (fun KK E w=>mElem KK E w) (fun K E w=>el117 K E w) ?_
 clear ho
 refine su ?_
 refine Q_op fun ho=>A_extI ho Y Y e265 Y Y (fun KK E w=>mKind KK E w) (fun K E w=>k115 K E w) ?_
 clear ho
 refine su ?_
 refine A2b tab Y Y Y hv0 (A0l tab Y Y Y hc0) ?_
 refine su ?_
 refine Q_op fun ho=>A_extI ho Y Y e282 Y Y (fun KK E w=>mImpl KK E w) (fun K E w=>im115 K E w) ?_
 clear ho
 refine su ?_
 refine Q_op fun ho=>A0o [(r,c,115),(b,List.toArray [.pointer (some ⟨r,0,none⟩)],117)] [(b5,(rvV 117 b 150).cells,206)] ho bod110 Y Y Y Y Y cntA (as_loop hc) (fun x β' hR=>?_)
 clear ho
 obtain⟨rfl,rfl⟩:=hR
 refine su ?_
 refine A0f tab [(r,A0z c 0 [intV x,intV y,intV z],115)] (by exact .tmp rfl .nil) (Back.here cntL) ⟨Y,Y⟩
end
end Go.Proofs.YtclejblcnfaeaaaGreatDoor
end
section
namespace Go.Proofs.YtclejblcnfaeaaaGreatDoor
open Go Go.Pal Go.Pal.To Go.Conc View
open Go.Proofs.Tryz
set_option maxHeartbeats 4000000
set_option maxRecDepth 20000
def spU(P:Int)(d:List Int):Nat→Value→A0e→Prop
 | 4,y,β=>OwnI 3 1 y β d.length (d.map intV)
 | 5,y,β=>∃ad cd,y = .agg (trC P ad d.length cd none 0 0)∧OwnS 3 1 β ad d.length cd (d.map intV)
 | _,y,β=>∃b,y = .pointer (some ⟨b,0,none⟩)∧β=[(b,trZ,36)]
def preU:Nat→List Nat|5=>[4]|_=>[]
def dstU(i:Nat):Nat:=bif Nat.beq i 6 then 7 else i+22
def ErrT(v:View):Prop:=RowAt v (some ⟨0,0,none⟩) [rtV 101]
theorem ErrT.le{u v:View}(h:ErrT u)(hl:u.Le v):ErrT v:=RowAt.le h hl
section
variable{mn:Who}{v:View}{P:Int}{aD aA:Option Addr}{cD cA:Nat}{d:List Int}{a:List MA}
theorem tradeP_x(hg:ErrT v)(hd:RowAt v aD (d.map intV))(hdl:d.length<2^30)(ha:ActsAt v aA a)(hal:a.length<2^30) :
  A6l prog mn 11 [moV P aD d.length cD,.slice aA a.length cA] (fun x u=>TradeAt u x (tradeR P d a)) v:=by
 refine A3k tab func11 Y nB (args:=[_,_]) ?_
 refine sw fun bx=>?_;refine sw fun bx=>?_
 rename_i b2
 obtain⟨b4,rfl⟩:∃x:Nat,x=bx:=⟨bx,rfl⟩
 refine Q_op fun ho=>A3w tab ho Y Y Y Y Y Y Y Y Y (fun bL cL hL=>?_)
 clear ho
 refine A8x (β1:=[(bL,cL,28)]) (β2:=[(b4,trZ,36),(b2,(moV P aD d.length cD).cells,26)]) (fun _=>rfl) (fun hbk=>?_)
 have hrL:=RowAt.own hbk (by exact cntL) hL
 have hl1:=A0g v (A0c [(bL,cL,28)])
 generalize v.union (A0c [(bL,cL,28)])=v1 at *
 have hls:SlAt v1 [.slice aA a.length cA] [a]:=.cons (ha.le hl1) .nil
 refine Q_op fun ho=>A0u ho bod57 Y Y Y Y Y (B0n (most:=8) (ls:=[a]) (hd.le hl1) hdl hrL hls sM (fun l hl=>by simp only [List.mem_cons,List.not_mem_nil,or_false]at hl;subst hl;assumption)) ?_
 clear ho
 rw [show chkBooks P d 8 [a]=holdE P d a from rfl]
 clear hL hrL hls hbk
 replace ha:=ha.le hl1
 replace hd:=hd.le hl1
 replace hg:=hg.le hl1
 unfold tradeR
 by_cases h:holdE P d a=0
 ·rw [h,if_neg sM]
  have hok:=holdE_ok.1 h
  have hal8:=hok.len
  have hml:=hok.m.len
  have hP4:=hok.m.p
  refine su ?_
  refine A1d [4,5,6,7] [0,1,2,3,4,5,6,7] A1e Y kR ?_
  refine su ?_
  refine S_tree (Sp:=spU P d) (pre:=preU) [4,5,6] dstU dM dM (fun j hj=>?_) dM dM (fun j hj=>?_) (by repeat (first|exact trivial|(refine⟨?_,?_⟩;focus exact ib))) kR (fun j hj c hc u' hu'=>?_) (fun c hc hz=>?_)
  ·simp only [List.mem_cons,List.not_mem_nil,or_false]at hj
   rcases hj with rfl|rfl|rfl<;>rfl
  ·simp only [List.mem_cons,List.not_mem_nil,or_false]at hj
   rcases hj with rfl|rfl|rfl<;>exact⟨fun o ho=>by cases ho;rfl,rfl⟩
  ·simp only [List.mem_cons,List.not_mem_nil,or_false]at hj
   rcases hj with rfl|rfl|rfl
   ·refine A3x tab (xs:=d.map intV) [] [] [(b4,trZ,36),(b2,(moV P aD d.length cD).cells,26)] Y Y Y Y Y Y Y Y Y Y Y cntA .nil
     (fun _=>(hd.le hu').le (A0g _ _)) sM (by simp [List.all_eq_true,A2k]) oM oM (fun seg a'' cap' hS'=>⟨Y,_,seg,⟨a'',cap',by rw [Nat.zero_add],by rw [Nat.zero_add]at hS';exact hS'⟩,Y⟩)
   ·obtain⟨aE,kE,h1,hE⟩:spU P d 4 (c 4).1 (c 4).2:=hc 4 dM
    simp only [show preU 5=[4]from Y,netR,netβ,h1]
    exact A_mk tab Y Y Y Y ⟨Y,.agg (trC P aE d.length kE none 0 0),(c 4).2,⟨aE,kE,Y,hE⟩,Y⟩
   ·exact A8z tab Y Y Y Y (fun b=>⟨Y,_,_,⟨b,Y,Y⟩,Y⟩)
  obtain⟨a6,k6,e6,hS6⟩:spU P d 5 (c 5).1 (c 5).2:=hc 5 dM dM
  obtain⟨b7,e7,f7⟩:spU P d 6 (c 6).1 (c 6).2:=hc 6 dM dM
  have f4:(c 4).2=[]:=hz 4 dM dM
  simp only [netR,netβ,e6,e7,f7,f4]
  generalize (c 5).2=sgA at hS6⊢
  clear hc hz e6 e7 f7 f4
  refine su ?_
  rw [putV_tr]
  refine A8x (β1:=sgA) (β2:=[(b7,trC P a6 d.length k6 none 0 0,36),(b4,trZ,36),(b2,(moV P aD d.length cD).cells,26)]) cntA (fun hbk=>?_)
  have hd6:=RowAt.own hbk (by exact cntL) hS6
  have hlw:=A0g v1 (A0c sgA)
  replace hl1:=hl1.trans hlw
  replace ha:=ha.le hlw
  replace hd:=hd.le hlw
  replace hg:=hg.le hlw
  clear hbk hlw
  generalize v1.union (A0c sgA)=w1 at *
  clear hS6
  refine Q_op fun ho=>A0o [] _ ho bod58 Y Y Y Y Y A7s (open_x (hd.le (A0g _ _)) hok.m.len) (fun x β' hR=>?_)
  clear ho
  obtain⟨bd,rfl,rfl⟩:=hR
  refine su ?_
  refine A1q (α:=TrS) (fun z=>⟨[],[(32,.int .i64 z.i),(31,.int .i64 a.length),(30,.slice aA a.length cA),(7,.pointer (some ⟨b7,0,none⟩)),(8,.pointer (some ⟨bd,0,none⟩)),(4,.pointer (some ⟨b4,0,none⟩))],z.sg++[(b7,trC P a6 d.length k6 z.a (B2x d (a.take z.i)).length z.cap,36),(bd,owC (intV P) (.slice aD d.length cD) (A3z d (a.take z.i)),106),(b4,trZ,36)]⟩)
   (fun z u=>w1.Le u∧z.i≤a.length∧OwnS 43 3 z.sg z.a (B2x d (a.take z.i)).length z.cap z.ys.flatten∧DlsAt u z.ys (B2x d (a.take z.i))) (fun z=>a.length-z.i) ⟨0,[],none,0,[]⟩ ⟨Y,rg,show Subm [(b7,trC P a6 d.length k6 none 0 0,36),(bd,owC (intV P) (.slice aD d.length cD) d,106),(b4,trZ,36)] [(bd,owC (intV P) (.slice aD d.length cD) d,106),(b7,trC P a6 d.length k6 none 0 0,36),(b4,trZ,36),(b2,(moV P aD d.length cD).cells,26)]from cntL⟩ (Le.refl _) ⟨Le.refl _,Nat.zero_le _,.nil,DlsAt.nil⟩ ?_
  rintro⟨i,sg,aq,cap,ys⟩ u ⟨hwu,hi,hS,hY⟩
  simp only at hwu hi hS hY
  dsimp only
  refine su ?_
  refine A1i Y (fun h=>?_) (fun h=>?_)
  ·have hlt:i<a.length:=by have:=of_decide_eq_true h;omega
   rename_i hh0
   clear h
   obtain⟨bb,off,p,c',e,f,rfl,hv,hc⟩:=(ha.le hwu).get hlt
   have hact:=hok.all _ (List.getElem_mem hlt)
   have hdl2:=A9w (a.take i) d
   have hci:=hc i hlt
   have hsn:B2x d (a.take (i+1))=B2x d (a.take i)++if sold (A3z d (a.take i)) a[i]then [a[i]]else []:=by
    rw [List.take_succ_eq_append_getElem hlt,B2y]
   have hdk:A3z d (a.take (i+1))=doN (A3z d (a.take i)) a[i]:=by
    rw [List.take_succ_eq_append_getElem hlt,duskOf_snoc]
   have hdn:(B2x d (a.take i)).length≤8:=Nat.le_trans dealsT_len (by rw [List.length_take];omega)
   clear hc
   generalize a[i]=y at hact hci hsn hdk
   generalize A3z d (a.take i)=os at hact hsn hdk hdl2⊢
   generalize B2x d (a.take i)=L at *
   have hsr:sold os y=((y.k==0) && !refd os y):=by
    unfold sold refd
    cases y.k==0<;>simp
   refine su ?_
   refine A6d tab i Y Y Y Y Y Y Y hlt ?_
   refine A2b tab Y Y Y hv (A1g tab Y Y Y hci) ?_
   refine sw fun bx=>?_;refine sw fun bx=>?_
   rename_i b10
   obtain⟨b11,rfl⟩:∃x:Nat,x=bx:=⟨bx,rfl⟩
   refine A1d [4,5] [0,1,2,3,4,5,6,7,8,9,10] A1e Y kR ?_
   refine su ?_
   refine S_do kR (A0u Y bod60 Y Y Y Y Y (deedOf_x (x:=y) hact.k) ⟨Le.refl _,kp,?_⟩)
   refine su ?_
   refine S_do kR (A0o [(bd,owC (intV P) (.slice aD d.length cD) os,106)] ((b11,List.toArray [intV 0,intV 0,intV 0],115)::(b10,y.cells.toArray,40)::(sg++[(b7,trC P a6 d.length k6 aq L.length cap,36),(b4,trZ,36)])) Y bod59 Y Y Y Y Y
    (show ∀p,Pal.cnt p ((b11,List.toArray [intV 0,intV 0,intV 0],115)::(b10,y.cells.toArray,40)::(sg++[(b7,trC P a6 d.length k6 aq L.length cap,36),(bd,owC (intV P) (.slice aD d.length cD) os,106),(b4,trZ,36)]))=Pal.cnt p ([(bd,owC (intV P) (.slice aD d.length cD) os,106)]++((b11,List.toArray [intV 0,intV 0,intV 0],115)::(b10,y.cells.toArray,40)::(sg++[(b7,trC P a6 d.length k6 aq L.length cap,36),(b4,trZ,36)])))from cntA)
    (do_x oM hact.k ⟨hact.h.1,by rw [hdl2];exact hact.h.2⟩) (fun r β' hR=>⟨Le.refl _,?_,?_⟩))
   ·exact kp
   obtain⟨⟨e',rfl,he⟩,rfl⟩:=hR
   refine su ?_
   by_cases hk:y.k=0
   ·rw [show(y.k != 0)=false from by simpa using hk]
    rw [show(y.k==0)=true from by simpa using hk,Bool.true_and]at hsr
    rcases he with ⟨hr,rfl⟩|⟨hr,tx,vx,rfl⟩
    ·rw [hr]at hsr
     rw [hsr,show(!false)=true from Y,if_pos rfl]at hsn
     refine su ?_
     refine Q_op fun ho=>A0u ho bod62 Y Y Y Y Y asNil_x ?_
     clear ho
     refine su ?_
     refine Q_op fun ho=>A3w tab ho Y Y Y Y Y Y Y Y Y (fun bH cH hH=>?_)
     clear ho
     refine su ?_
     refine Q_op fun ho=>A3w tab ho Y Y Y Y Y Y Y Y Y (fun bN cN hN=>?_)
     clear ho
     refine Q_op fun ho=>A3x tab (xs:=[intV y.a,intV y.b,.slice (some ⟨bH,0,none⟩) 1 1]) sg [(bN,cN,43)] [(bH,cH,3),(bd,owC (intV P) (.slice aD d.length cD) (doN os y),106),(b11,List.toArray [intV 0,intV 0,intV 0],115),(b10,y.cells.toArray,40),(b7,trC P a6 d.length k6 aq L.length cap,36),(b4,trZ,36)] ho Y Y Y Y Y Y Y Y Y Y
      (show ∀p,Pal.cnt p ((bN,cN,43)::(bH,cH,3)::([(bd,owC (intV P) (.slice aD d.length cD) (doN os y),106)]++((b11,List.toArray [intV 0,intV 0,intV 0],115)::(b10,y.cells.toArray,40)::(sg++[(b7,trC P a6 d.length k6 aq L.length cap,36),(b4,trZ,36)]))))=Pal.cnt p (sg++([(bN,cN,43)]++[(bH,cH,3),(bd,owC (intV P) (.slice aD d.length cD) (doN os y),106),(b11,List.toArray [intV 0,intV 0,intV 0],115),(b10,y.cells.toArray,40),(b7,trC P a6 d.length k6 aq L.length cap,36),(b4,trZ,36)]))from cntA) hS
      (fun hb=>RowAt.own hb cntL hN) Y Y (by show(2*(L.length+1)+768)*40≤2^48;omega) oM (fun sg2 a2 cap2 hS2=>?_)
     clear ho
     refine A8x (β1:=[(bH,cH,3)]) (β2:=sg2++[(bd,owC (intV P) (.slice aD d.length cD) (doN os y),106),(b11,List.toArray [intV 0,intV 0,intV 0],115),(b10,y.cells.toArray,40),(b7,trC P a6 d.length k6 aq L.length cap,36),(b4,trZ,36)]) cntA (fun hbk=>?_)
     have hHr:=RowAt.own hbk (by exact cntL) hH
     refine su ?_
     have hln:(L++[y]).length=L.length+1:=by simp
     refine A0b ⟨⟨i+1,sg2,a2,cap2,ys++[[intV y.a,intV y.b,.slice (some ⟨bH,0,none⟩) 1 1]]⟩,_,by simp only;omega,⟨Y,rg,?_⟩,Le.refl _,hwu.trans (A0g _ _),hlt,?_,?_⟩
     ·simp only [hsn,hln,hdk]
      exact(show Subm (sg2++[(b7,trC P a6 d.length k6 a2 (L.length+1) cap2,36),(bd,owC (intV P) (.slice aD d.length cD) (doN os y),106),(b4,trZ,36)]) (sg2++[(bd,owC (intV P) (.slice aD d.length cD) (doN os y),106),(b11,List.toArray [intV 0,intV 0,intV 0],115),(b10,y.cells.toArray,40),(b7,trC P a6 d.length k6 a2 (L.length+1) cap2,36),(b4,trZ,36)])from cntL)
     ·simp only [hsn,hln,List.flatten_append,List.flatten_cons,List.flatten_nil,List.append_nil];exact hS2
     ·simp only [hsn];exact(hY.le (A0g _ _)).snoc ⟨_,_,Y,hHr⟩
    ·rw [hr]at hsr
     rw [hsr,show(!true)=false from Y,if_neg dM,List.append_nil]at hsn
     refine su ?_
     refine Q_op fun ho=>A0o [(b11,List.toArray [intV 0,intV 0,intV 0],115)] ((bd,owC (intV P) (.slice aD d.length cD) (doN os y),106)::(b10,y.cells.toArray,40)::(sg++[(b7,trC P a6 d.length k6 aq L.length cap,36),(b4,trZ,36)])) ho bod62 Y Y Y Y Y (show ∀p,Pal.cnt p ([(bd,owC (intV P) (.slice aD d.length cD) (doN os y),106)]++((b11,List.toArray [intV 0,intV 0,intV 0],115)::(b10,y.cells.toArray,40)::(sg++[(b7,trC P a6 d.length k6 aq L.length cap,36),(b4,trZ,36)])))=Pal.cnt p ([(b11,List.toArray [intV 0,intV 0,intV 0],115)]++((bd,owC (intV P) (.slice aD d.length cD) (doN os y),106)::(b10,y.cells.toArray,40)::(sg++[(b7,trC P a6 d.length k6 aq L.length cap,36),(b4,trZ,36)])))from cntA) (as_x (r:=b11) Y (ErrT.le (hg.le hwu) (A0g _ _))) (fun x β' hR=>?_)
     clear ho
     obtain⟨rfl,rfl⟩:=hR
     refine su ?_
     refine A0b ⟨⟨i+1,sg,aq,cap,ys⟩,u,by simp only;omega,⟨Y,rg,?_⟩,Le.refl _,hwu,hlt,?_,?_⟩
     ·simp only [hsn,hdk];exact cntL
     ·simp only [hsn];exact hS
     ·simp only [hsn];exact hY
   ·rw [show(y.k != 0)=true from by simpa using hk]
    rw [show(y.k==0)=false from by simpa using hk,Bool.false_and]at hsr
    rw [hsr,if_neg dM,List.append_nil]at hsn
    refine su ?_
    refine A0b ⟨⟨i+1,sg,aq,cap,ys⟩,u,by simp only;omega,⟨Y,rg,?_⟩,Le.refl _,hwu,hlt,?_,?_⟩
    ·simp only [hsn,hdk];exact cntL
    ·simp only [hsn];exact hS
    ·simp only [hsn];exact hY
  ·have hin:i=a.length:=by have:=of_decide_eq_false h;omega
   subst hin
   rw [List.take_length]at hS hY⊢
   refine su ?_
   by_cases h6:(B2x d a).length > 6
   ·rw [show decide (((B2x d a).length:Int) > 6)=true from decide_eq_true oM,if_pos h6]
    refine su ?_
    refine A2m tab (by exact .cell rfl ib rfl (.tmp rfl .nil)) (hl1.trans hwu) fun hb2 hle=>?_
    exact TradeAt.none
   ·rw [show decide (((B2x d a).length:Int) > 6)=false from decide_eq_false oM,if_neg h6]
    refine su ?_
    refine A2m tab (by exact .cell rfl ib rfl (.tmp rfl .nil)) (hl1.trans hwu) fun hb2 hle=>?_
    exact⟨a6,k6,aq,cap,ys,Y,hd6.le (hwu.trans hle),RowAt.own hb2 (by exact cntL) hS,hY.le hle⟩
 ·rw [if_pos h]
  refine su ?_
  rw [show(holdE P d a != 0)=true from by simpa using h]
  refine su ?_
  refine A2m tab (by exact .cell rfl ib rfl (.tmp rfl .nil)) hl1 fun hb2 hle=>?_
  exact TradeAt.none
end
abbrev dlZ:Array Value:=List.toArray [intV 0,intV 0,.slice none 0 0]
def spW:Nat→Value→A0e→Prop
 | _,y,β=>∃b,y = .pointer (some ⟨b,0,none⟩)∧β=[(b,dlZ,43)]
def dstW(i:Nat):Nat:=i-4
section
variable{mn:Who}{v:View}{P:Int}{ad ae aq ap:Option Addr}{k1 k2 k3 k4:Nat}{d:List Int}{L:List MA}{ys zs:List (List Value)}
theorem sameTr_x(hd:RowAt v ad (d.map intV))(he:RowAt v ae (d.map intV))(hdl:d.length<2^30)(h1:RowAt v aq ys.flatten)(hY:DlsAt v ys L)(h2:RowAt v ap zs.flatten)(hZ:DlsAt v zs L)(hL:L.length<2^20) :
  Ret1 prog mn 28 [.agg (trC P ad d.length k1 aq L.length k2),.agg (trC P ae d.length k3 ap L.length k4)] (.bool true) v:=by
 refine A0d tab func28 Y nB (args:=[_,_]) ?_
 refine sw fun bx=>?_;refine sw fun bx=>?_
 rename_i b2
 obtain⟨b3,rfl⟩:∃x:Nat,x=bx:=⟨bx,rfl⟩
 rw [show(P != P)=false from by simp]
 refine su ?_
 have hsi:Ret1 prog mn 24 [.slice ad d.length k1,.slice ae d.length k3] (.bool true) v:=A5v (A9n hd he oM oM)
 refine Q_op fun ho=>A0u ho bod24 Y Y Y Y Y hsi ?_
 clear ho hsi
 refine su ?_
 rw [show(((L.length:Nat):Int) != ((L.length:Nat):Int))=false from by simp]
 refine su ?_
 refine A1q (α:=Nat) (fun i=>⟨[],[(5,.int .i64 i),(2,.pointer (some ⟨b2,0,none⟩)),(3,.pointer (some ⟨b3,0,none⟩))],[(b3,trC P ae d.length k3 ap L.length k4,36),(b2,trC P ad d.length k1 aq L.length k2,36)]⟩)
  (fun i u=>u=v∧i≤L.length) (fun i=>L.length-i) 0 ⟨Y,rg,cntL⟩ (Le.refl _) ⟨Y,Nat.zero_le _⟩ ?_
 rintro i u ⟨rfl,hi⟩
 refine su ?_
 refine A1i Y (fun h=>?_) (fun h=>?_)
 ·have hlt:i<L.length:=by have:=of_decide_eq_true h;omega
  clear h
  have hiy:i<ys.length:=by rw [hY.1];exact hlt
  have hiz:i<zs.length:=by rw [hZ.1];exact hlt
  obtain⟨bb,off,p,c',e,f,rfl,hv,hc⟩:=RowAt.recs (k:=3) h1 hY.three dM hiy
  obtain⟨b1,o1,p1,c1,e1,f1,rfl,hv1,hc1⟩:=RowAt.recs (k:=3) h2 hZ.three dM hiz
  have hci:=hc i hiy
  have hci1:=hc1 i hiz
  obtain⟨ah,kh,hy,hyr⟩:=hY.2 i ys[i] L[i] (List.getElem?_eq_getElem hiy) (List.getElem?_eq_getElem hlt)
  obtain⟨ag,kg,hz,hzr⟩:=hZ.2 i zs[i] L[i] (List.getElem?_eq_getElem hiz) (List.getElem?_eq_getElem hlt)
  rw [hy]at hci
  rw [hz]at hci1
  clear hc hc1 hy hz
  generalize L[i]=x at *
  refine su ?_
  refine A1d [10,11,12,13] [0,1,2,3,4,5,6,7,8,9,10,11,12,13] A1e Y kR ?_
  refine su ?_
  refine A0s tab i Y Y Y kR Y Y Y Y Y hlt ?_
  refine A8v tab Y Y Y kR Y hv (A1g tab (x:=[intV x.a,intV x.b,.slice ah 1 kh]) Y Y Y hci) ?_
  refine su ?_
  refine A0s tab i Y Y Y kR Y Y Y Y Y hlt ?_
  refine A8v tab Y Y Y kR Y hv1 (A1g tab (x:=[intV x.a,intV x.b,.slice ag 1 kg]) Y Y Y hci1) ?_
  refine S_tree (Sp:=spW) (pre:=fun _=>[]) [10,11] dstW dM dM (fun j hj=>?_) dM dM (fun j hj=>?_) (by repeat (first|exact trivial|(refine⟨?_,?_⟩;focus exact ib))) kR (fun j hj c hc u' hu'=>?_) (fun c hc hz=>?_)
  ·simp only [List.mem_cons,List.not_mem_nil,or_false]at hj
   rcases hj with rfl|rfl<;>rfl
  ·simp only [List.mem_cons,List.not_mem_nil,or_false]at hj
   rcases hj with rfl|rfl<;>exact⟨fun o ho=>by cases ho;rfl,rfl⟩
  ·simp only [List.mem_cons,List.not_mem_nil,or_false]at hj
   rcases hj with rfl|rfl
   ·exact A8z tab Y Y Y Y (fun b=>⟨Y,_,_,⟨b,Y,Y⟩,Y⟩)
   ·exact A8z tab Y Y Y Y (fun b=>⟨Y,_,_,⟨b,Y,Y⟩,Y⟩)
  obtain⟨b6,e6,f6⟩:spW 10 (c 10).1 (c 10).2:=hc 10 dM dM
  obtain⟨b7,e7,f7⟩:spW 11 (c 11).1 (c 11).2:=hc 11 dM dM
  simp only [netR,netβ,e6,e7,f7,f6]
  clear hc hz e6 e7 f7 f6
  refine su ?_
  rw [show(x.a != x.a)=false from by simp]
  refine su ?_
  rw [show(x.b != x.b)=false from by simp]
  refine su ?_
  have hsi:Ret1 prog mn 24 [.slice ah 1 kh,.slice ag 1 kg] (.bool true) u:=A5v (A9n (xs:=[x.h]) (ys:=[x.h]) hyr hzr sM sM)
  refine Q_op fun ho=>A0u ho bod24 Y Y Y Y Y hsi ?_
  clear ho hsi
  refine su ?_
  exact A0b ⟨i+1,u,oM,⟨Y,rg,cntL⟩,Le.refl _,Y,hlt⟩
 ·clear h
  refine su ?_
  refine A0f tab [] (by exact .tmp rfl .nil) (Back.here cntL) ⟨Y,Y⟩
end
section
variable{v:View}{mn:Who}{P:Int}{aD aA aB:Option Addr}{cD cA cB:Nat}{d:List Int}{a b:List MA}
theorem B2z{aE:Option Addr}{cE:Nat}(hd:RowAt v aD (d.map intV))(he:RowAt v aE (d.map intV))(hdl:d.length<2^30) :
  Ret1 prog mn 29 [moV P aD d.length cD,moV P aE d.length cE] (.bool true) v:=by
 refine A0d tab func29 Y nB (args:=[_,_]) ?_
 refine sw fun bx=>?_;refine sw fun bx=>?_
 rw [show(P==P)=true from beq_self_eq_true P]
 refine su ?_
 refine Q_op fun ho=>A0u ho bod24 Y Y Y Y Y (A5v (A9n (cA:=_) (cB:=_) hd he oM oM)) ?_
 clear ho
 refine su ?_
 refine A0f tab [] (by exact .tmp rfl .nil) (Back.here cntL) ?_
 exact⟨Y,Y⟩
def longB(n a b:Nat):Bool:=decide (n > 20)||decide (a > 20)||decide (b > 20)
theorem long_x{n na nb:Nat}:Ret1 prog mn 18 [moV P aD n cD,.slice aA na cA,.slice aB nb cB] (.bool (longB n na nb)) v:=by
 refine A0d tab func18 Y nB (args:=[_,_,_]) ?_
 refine sw fun bx=>?_
 unfold longB
 by_cases h1:n > 20
 ·rw [show decide ((n:Int) > 20)=true from decide_eq_true oM,decide_eq_true h1]
  refine su ?_
  refine A0f tab [] (by exact .tmp rfl .nil) (Back.here cntL) ?_
  exact⟨Y,Y⟩
 rw [show decide ((n:Int) > 20)=false from decide_eq_false oM,decide_eq_false h1]
 refine su ?_
 by_cases h2:na > 20
 ·rw [show decide ((na:Int) > 20)=true from decide_eq_true oM,decide_eq_true h2]
  refine su ?_
  refine A0f tab [] (by exact .tmp rfl .nil) (Back.here cntL) ?_
  exact⟨Y,Y⟩
 rw [show decide ((na:Int) > 20)=false from decide_eq_false oM,decide_eq_false h2]
 refine su ?_
 refine A0f tab [] (by exact .tmp rfl .nil) (Back.here cntL) ?_
 refine⟨?_,Y⟩
 by_cases h3:nb > 20
 ·rw [decide_eq_true h3];exact congrArg Value.bool (decide_eq_true oM)
 ·rw [decide_eq_false h3];exact congrArg Value.bool (decide_eq_false oM)
end
theorem putV_mo{P:Int}{a:Option Addr}{n c:Nat}:(putV (Value.agg (List.toArray [.int .i64 0,.slice none 0 0])).cells.toList 0 (moV P a n c).cells.toList).toArray=(moV P a n c).cells:=rfl
theorem putV_tx{P e:Int}{ad aq:Option Addr}{nd cd n cq:Nat}:(putV (Value.agg trZ).cells.toList 0 ((List.toArray [Value.agg (trC P ad nd cd aq n cq),intV e])[0]).cells.toList).toArray=trC P ad nd cd aq n cq:=rfl
def mkS(e:TypeId)(k:Nat)(x:Value)(β:A0e)(cs:List Value):Prop:=∃b c,x = .slice (some ⟨b,0,none⟩) 3 3∧β=[(b,c,e)]∧OwnS e k [(b,c,e)] (some ⟨b,0,none⟩) 3 3 cs
def spS(m1 m2 p1 p2:Value)(ys:List MA)(x:MA):Nat→Value→A0e→Prop
 | 3,y,β|12,y,β=>mkS 26 2 y β (m1.cells.toList++(m2.cells.toList++m2.cells.toList))
 | 7,y,β=>OwnI 40 4 y β ys.length (ys.map MA.cells).flatten
 | 9,y,β=>OwnI 40 4 y β 1 x.cells
 | 10,y,β=>OwnI 40 4 y β (ys.length+1) ((ys.map MA.cells).flatten++x.cells)
 | _,y,β=>∃b c a cap seg,y = .slice (some ⟨b,0,none⟩) 3 3∧β=(b,c,28)::seg∧OwnS 28 1 [(b,c,28)] (some ⟨b,0,none⟩) 3 3 [p1,p2,.slice a (ys.length+1) cap]∧OwnS 40 4 seg a (ys.length+1) cap ((ys.map MA.cells).flatten++x.cells)
def preS:Nat→List Nat|10=>[7,9]|11=>[10]|12=>[3]|_=>[]
def dstS(i:Nat):Nat:=bif Nat.beq i 12 then 12 else i+38
theorem tradeR_len(P:Int)(d:List Int)(l:List MA):(tradeR P d l).2.1.length≤3∧(tradeR P d l).2.2.1.length≤8:=by
 unfold tradeR
 by_cases h:holdE P d l=0
 ·rw [if_neg (by simpa using h)]
  have hok:=holdE_ok.1 h
  by_cases h6:(B2x d l).length > 6
  ·rw [if_pos h6];exact⟨Nat.zero_le _,Nat.zero_le _⟩
  ·rw [if_neg h6];exact⟨hok.m.len.2,by show(B2x d l).length≤8;omega⟩
 ·rw [if_pos h];exact⟨Nat.zero_le _,Nat.zero_le _⟩
theorem holdR_len(P:Int)(d:List Int)(l:List MA):(holdR P d l).2.1.length≤8∧(holdR P d l).2.2.length≤3:=by
 unfold holdR
 by_cases h:holdE P d l=0
 ·rw [if_neg (by simpa using h)]
  have hok:=holdE_ok.1 h
  exact⟨by show(B0g d l).length≤8;rw [repsOf_len];exact hok.len,by show(A3z d l).length≤3;rw [A9w];exact hok.m.len.2⟩
 ·rw [if_pos h];exact⟨Nat.zero_le _,Nat.zero_le _⟩
theorem liarsR_len(P:Int)(d:List Int)(l:List MA):(liarsR P d l).1.length≤4:=by
 unfold liarsR
 split
 ·exact Nat.zero_le _
 ·exact liarsL_len 4 d l
def spL(P:Int)(d:List Int)(q:List MA):Nat→Value→A0e→Prop
 | 4,y,β=>∃a c,y=moV P a d.length c∧OwnS 3 1 β a d.length c (d.map intV)
 | 9,y,β=>OwnI 40 4 y β q.length (q.map MA.cells).flatten
 | _,y,β=>∃b,y = .pointer (some ⟨b,0,none⟩)∧β=[(b,(Value.agg (List.toArray [.int .i64 0,.slice none 0 0])).cells,26)]
def dstL(i:Nat):Nat:=bif Nat.beq i 10 then 15 else i+56
structure CaseAt(u:View)(m:List Value)(y:Value)(P:Int)(d:List Int)(q:List MA):Prop where
 m:∃aD cD,m=[intV P,.slice aD d.length cD]∧RowAt u aD (d.map intV)
 y:∃a c,y = .slice a q.length c∧ActsAt u a q
 ld:d.length≤20
 lq:q.length≤20
theorem holds_run{v:View}{P:Int}{aD aA a0:Option Addr}{cD cA cap0:Nat}{d:List Int}{l:List MA}{x:MA}{ns:List Int}(hg:ErrT v)(hd:RowAt v aD (d.map intV))(hl:ActsAt v aA l)(hns:RowAt v a0 (ns.map (.int .i64))) :
  Run prog ⟨true,true⟩ (AtTop 4 8) v (G (Frame.enter prog 4 (List.toArray [moV P aD d.length cD,.slice aA l.length cA,x.val,.slice a0 ns.length cap0]) .normal) []):=by
 refine top_run func4 Y nB ?_
 refine sw fun bx=>?_;refine sw fun bx=>?_
 refine Q_op fun ho=>A0u ho bod18 Y Y Y Y Y (long_x (nb:=0)) ?_
 clear ho
 cases hlg:longB d.length l.length 0 with
 | true=>
  refine su ?_
  refine Q_op fun ho=>A0u ho bod19 Y Y Y Y Y held_x ?_
  clear ho
  refine su ?_
  exact⟨Y,Y,Y⟩
 | false=>
 have hlens:d.length≤20∧l.length≤20:=by
  unfold longB at hlg
  simp only [Bool.or_eq_false_iff,decide_eq_false_iff_not]at hlg
  omega
 clear hlg
 refine su ?_
 rename_i b4
 obtain⟨b6,rfl⟩:∃x:Nat,x=bx:=⟨bx,rfl⟩
 refine Q_op fun ho=>A0o [] _ ho bod7 Y Y Y Y Y A7s (newBag_x) (fun x β' hR=>?_)
 clear ho
 obtain⟨bg,rfl,hB⟩:=hR
 refine su ?_
 refine Q_op fun ho=>A0o β' [(b6,x.val.cells,40),(b4,(moV P aD d.length cD).cells,26)] ho bod8 Y Y Y Y Y cntA (mornOf_z (hns.le (A0g _ _)) hB dM) (fun x β' hR=>?_)
 clear ho
 obtain⟨M,dw,aw,cw,n1,βb,segM,rfl,rfl,hB1,hn1,hSM,hM,hP2⟩:=hR
 refine A8x (β1:=segM) (β2:=βb++[(b6,x.val.cells,40),(b4,(moV P aD d.length cD).cells,26)]) cntA (fun hbk=>?_)
 have rM:=RowAt.own hbk (by exact cntL) hSM
 have hle:=A0g v (A0c segM)
 replace hns:=hns.le hle
 replace hd:=hd.le hle
 replace hl:=ActsAt.le hl hle
 replace hg:=hg.le hle
 clear hbk hle
 generalize v.union (A0c segM)=v1 at *
 clear hSM v
 have hd2:=hM.len
 refine sw fun bx=>?_
 obtain⟨b10,rfl⟩:∃x:Nat,x=bx:=⟨bx,rfl⟩
 rw [putV_mo]
 refine Q_op fun ho=>A0o βb [(b10,(moV M aw dw.length cw).cells,26),(b6,x.val.cells,40),(b4,(moV P aD d.length cD).cells,26)] ho bod9 Y Y Y Y Y cntA (bookOf_z (g:=Bg.mk bg a0 cap0 ns) (N:=8) (RowAt.le hns (A0g _ _)) hB1 oM (rM.le (A0g _ _)) hM hP2 dM) (fun x β' hR=>?_)
 clear ho
 obtain⟨own,aO,cO,n2,βb2,so,rfl,rfl,hB2,hn2,hSo,ho8,hoO⟩:=hR
 refine A8x (β1:=so) (β2:=βb2++[(b10,(moV M aw dw.length cw).cells,26),(b6,x.val.cells,40),(b4,(moV P aD d.length cD).cells,26)]) cntA (fun hbk=>?_)
 have rO:ActsAt _ aO own:=RowAt.own hbk (by exact cntL) hSo
 have hle:=A0g v1 (A0c so)
 replace rM:=rM.le hle
 replace hd:=hd.le hle
 replace hl:=ActsAt.le hl hle
 replace hg:=hg.le hle
 clear hbk hle hns
 generalize v1.union (A0c so)=v2 at *
 clear hSo hB hB1 hB2 v1
 refine su ?_
 refine A1d [3,7,9,10,11,12] [0,1,2,4,5,6,8,3,7,9,10,11,12,13] A1e Y kR ?_
 refine su ?_
 refine S_tree (Sp:=spS (moV P aD d.length cD) (moV M aw dw.length cw) (.slice aA l.length cA) (.slice aO own.length cO) own x) (pre:=preS) [3,7,9,10,11,12] dstS dM dM (fun i hi=>?_) dM dM (fun i hi=>?_) (by repeat (first|exact trivial|(refine⟨?_,?_⟩;focus exact ib))) kR (fun j hj c hc u' hu'=>?_) (fun c hc hz=>?_)
 ·simp only [List.mem_cons,List.not_mem_nil,or_false]at hi
  rcases hi with rfl|rfl|rfl|rfl|rfl|rfl<;>rfl
 ·simp only [List.mem_cons,List.not_mem_nil,or_false]at hi
  rcases hi with rfl|rfl|rfl|rfl|rfl|rfl<;>exact⟨fun o ho=>by cases ho;rfl,rfl⟩
 ·simp only [List.mem_cons,List.not_mem_nil,or_false]at hj
  rcases hj with rfl|rfl|rfl|rfl|rfl|rfl
  ·exact A3w tab Y Y Y Y Y Y Y Y Y Y (fun b c hL=>⟨Y,_,_,⟨_,_,Y,Y,hL⟩,Y⟩)
  ·exact A0o [] _ Y bod20 Y Y Y Y Y A7s (ownActs_x ((ActsAt.le rO hu').le (A0g _ _)) oM) (fun y β' hR=>⟨Y,_,_,hR,Y⟩)
  ·exact A3w tab Y Y Y Y Y Y Y Y Y Y (fun b c hL=>⟨Y,_,_,⟨_,_,Y,hL⟩,Y⟩)
  ·obtain⟨a0,c0,h1,hL⟩:=hc 7 dM
   obtain⟨a1,c1,h2,hL2⟩:=hc 9 dM
   simp only [show preS 10=[7,9]from Y,netR,netβ,h1,h2]
   exact A3x tab (xs:=x.cells) (c 7).2 (c 9).2 _ Y Y Y Y Y Y Y Y Y Y Y cntA hL (fun hb=>RowAt.own hb cntL hL2) Y Y oM oM (fun sg a1 c1 hS=>⟨Y,_,_,⟨_,_,Y,hS⟩,Y⟩)
  ·obtain⟨a0,c0,h1,hL⟩:=hc 10 dM
   simp only [show preS 11=[10]from Y,netR,netβ,h1]
   exact A3w tab Y Y Y Y Y Y Y Y Y Y (fun b c' hL'=>⟨Y,_,(b,c',28)::(c 10).2,⟨_,_,_,_,_,Y,Y,hL',hL⟩,Y⟩)
  ·have h:=hc 3 dM
   obtain⟨b,c0,h1,h2,hL⟩:=id h
   simp only [show preS 12=[3]from Y,netR,netβ,h1]
   exact A_mk tab Y Y Y Y ⟨Y,_,(c 3).2,⟨b,c0,Y,h2,hL⟩,Y⟩
 obtain⟨b1,c1,e1,f1,hL1⟩:=hc 12 dM dM
 obtain⟨b2,c2,az,cz,segZ,e2,f2,hL2,hSz⟩:=hc 11 dM dM
 simp only [netR,netβ,e1,e2,f1,f2,hz 3 dM dM,hz 7 dM dM,hz 9 dM dM,hz 10 dM dM,List.nil_append]
 clear hc hz e1 e2 f1 f2
 refine su ?_
 refine XC_retire (β1:=(b1,c1,26)::(b2,c2,28)::segZ) (β2:=βb2++[(b10,(moV M aw dw.length cw).cells,26),(b6,x.val.cells,40),(b4,(moV P aD d.length cD).cells,26)]) cntA (fun hbk=>?_)
 have r1:=RowAt.own hbk (by exact cntL) hL1
 have r2:=RowAt.own hbk (by exact cntL) hL2
 have rZ:ActsAt _ az (own++[x]):=RowAt.own hbk (by exact cntL) (show OwnS 40 4 segZ az (own.length+1) cz ((own++[x]).map MA.cells).flatten from by
  rw [List.map_append,List.flatten_append]
  simpa using hSz)
 have hcase:∀i,i<3→∃m y P' d' q',[[intV P,.slice aD d.length cD],[intV M,.slice aw dw.length cw],[intV M,.slice aw dw.length cw]][i]?=some m∧[Value.slice aA l.length cA,.slice aO own.length cO,.slice az (own.length+1) cz][i]?=some y∧CaseAt (v2.union (A0c ((b1,c1,26)::(b2,c2,28)::segZ))) m y P' d' q':=fun i hi=>by
  have hu:=A0g v2 (A0c ((b1,c1,26)::(b2,c2,28)::segZ))
  have e:i=0∨i=1∨i=2:=oM
  rcases e with rfl|rfl|rfl
  ·exact⟨_,_,P,d,l,Y,Y,⟨aD,cD,Y,hd.le hu⟩,⟨aA,cA,Y,ActsAt.le hl hu⟩,hlens.1,hlens.2⟩
  ·exact⟨_,_,M,dw,own,Y,Y,⟨aw,cw,Y,rM.le hu⟩,⟨aO,cO,Y,ActsAt.le rO hu⟩,oM,oM⟩
  ·refine⟨_,_,M,dw,own++[x],Y,Y,⟨aw,cw,Y,rM.le hu⟩,⟨az,cz,by rw [List.length_append];rfl,rZ⟩,oM,by rw [List.length_append];show own.length+1≤20;omega⟩
 replace hg:=hg.le (A0g v2 (A0c ((b1,c1,26)::(b2,c2,28)::segZ)))
 generalize v2.union (A0c ((b1,c1,26)::(b2,c2,28)::segZ))=v1 at *
 clear hbk hL1 hL2 hSz hM hoO rM rO rZ hd hl
 refine A1q (α:=Nat) (fun i=>⟨[],[(14,.int .i64 i),(12,.slice (some ⟨b1,0,none⟩) 3 3),(13,.slice (some ⟨b2,0,none⟩) 3 3)],[]⟩)
  (fun i u=>v1.Le u∧i≤3) (fun i=>3-i) 0 ⟨Y,rg,cntL⟩ (Le.refl _) ⟨Le.refl _,Nat.zero_le _⟩ ?_
 rintro i u ⟨hvu,hi⟩
 refine su ?_
 refine A1i Y (fun h=>?_) (fun h=>?_)
 ·have hlt:i<3:=by have:=of_decide_eq_true h;omega
  clear h
  obtain⟨m,y,P',d',q',hm,hy,hcs⟩:=hcase i hlt
  obtain⟨⟨aE,cE,rfl,hdE⟩,⟨aQ,cQ,rfl,hqE⟩,hld,hlq⟩:=hcs
  obtain⟨b1',o1,k1,d1,e1,f1,e1',hv1,hc1⟩:=RowAt.recs (k:=2) (xs:=[[intV P,.slice aD d.length cD],[intV M,.slice aw dw.length cw],[intV M,.slice aw dw.length cw]]) (RowAt.le r1 hvu) sM dM (i:=i) hlt
  have hc1':=hc1 i hlt
  rw [show([[intV P,.slice aD d.length cD],[intV M,.slice aw dw.length cw],[intV M,.slice aw dw.length cw]]:List (List Value))[i]'hlt=[intV P',.slice aE d'.length cE]from by
   have:=List.getElem?_eq_getElem (l:=([[intV P,.slice aD d.length cD],[intV M,.slice aw dw.length cw],[intV M,.slice aw dw.length cw]]:List (List Value))) (i:=i) hlt
   rw [this]at hm
   exact Option.some.inj hm]at hc1'
  obtain⟨b2',o2,k2,d2,e2,f2,e2',hv2,hc2⟩:=row_cell (RowAt.le r2 hvu) hy
  clear hc1 hm hy
  cases e1'
  cases e2'
  replace hdE:=hdE.le hvu
  replace hqE:=ActsAt.le hqE hvu
  replace hgu:=hg.le hvu
  replace hc2:d2[0+i*1]?=some (.slice aQ q'.length cQ):=by rw [Nat.mul_one];exact hc2
  have hdl:d'.length<2^30:=oM
  have hql:q'.length<2^30:=oM
  have hhl:=holdR_len P' d' q'
  have hll:=liarsR_len P' d' q'
  have htl:=tradeR_len P' d' q'
  refine su ?_
  refine A1d [4,9,10,11] [0,1,2,3,5,6,7,8,4,9,10,11,12] A1e Y kR ?_
  refine su ?_
  refine A0s tab i Y Y Y kR Y Y Y Y Y hlt ?_
  refine su ?_
  refine A8v tab Y Y Y kR Y hv1 (A1g tab (x:=[intV P',.slice aE d'.length cE]) Y Y Y hc1') ?_
  refine su ?_
  refine A0s tab i Y Y Y kR Y Y Y Y Y hlt ?_
  refine su ?_
  refine A8v tab Y Y Y kR Y hv2 (A0l tab Y Y Y hc2) ?_
  refine S_tree (Sp:=spL P' d' q') (pre:=fun _=>[]) [4,9,10] dstL dM dM (fun j hj=>?_) dM dM (fun j hj=>?_) (by repeat (first|exact trivial|(refine⟨?_,?_⟩;focus exact ib))) kR (fun j hj c hc u' hu'=>?_) (fun c hc hz=>?_)
  ·simp only [List.mem_cons,List.not_mem_nil,or_false]at hj
   rcases hj with rfl|rfl|rfl<;>rfl
  ·simp only [List.mem_cons,List.not_mem_nil,or_false]at hj
   rcases hj with rfl|rfl|rfl<;>exact⟨fun o ho=>by cases ho;rfl,rfl⟩
  ·simp only [List.mem_cons,List.not_mem_nil,or_false]at hj
   rcases hj with rfl|rfl|rfl
   ·exact A0o [] _ Y bod21 Y Y Y Y Y A7s (ownMorn_x ((hdE.le hu').le (A0g _ _)) oM) (fun y β' hR=>⟨Y,_,_,hR,Y⟩)
   ·exact A0o [] _ Y bod20 Y Y Y Y Y A7s (ownActs_x ((ActsAt.le hqE hu').le (A0g _ _)) oM) (fun y β' hR=>⟨Y,_,_,hR,Y⟩)
   ·exact A8z tab Y Y Y Y (fun b=>⟨Y,_,_,⟨b,Y,Y⟩,Y⟩)
  obtain⟨a4,c4,e4,hS4⟩:∃a c',(c 4).1=moV P' a d'.length c'∧OwnS 3 1 (c 4).2 a d'.length c' (d'.map intV):=hc 4 dM dM
  obtain⟨a9,c9,e9,hS9⟩:OwnI 40 4 (c 9).1 (c 9).2 q'.length (q'.map MA.cells).flatten:=hc 9 dM dM
  obtain⟨b15,e15,f15⟩:∃b,(c 10).1 = .pointer (some ⟨b,0,none⟩)∧(c 10).2=[(b,(Value.agg (List.toArray [.int .i64 0,.slice none 0 0])).cells,26)]:=hc 10 dM dM
  simp only [netR,netβ,e4,e9,e15,f15]
  generalize (c 4).2=sgA at hS4⊢
  generalize (c 9).2=sgB at hS9⊢
  clear hc hz e4 e9 e15 f15
  refine su ?_
  rw [putV_mo]
  refine A8x (β1:=sgA++sgB) (β2:=[(b15,(moV P' a4 d'.length c4).cells,26)]) cntA (fun hbk2=>?_)
  have rA:=RowAt.own hbk2 (by exact cntL) hS4
  have rB:ActsAt _ a9 q':=RowAt.own hbk2 (by exact cntL) hS9
  have hu2:=A0g u (A0c (sgA++sgB))
  replace hvu:=hvu.trans hu2
  replace hv1:=hu2 _ _ hv1
  replace hv2:=hu2 _ _ hv2
  replace hdE:=hdE.le hu2
  replace hqE:=ActsAt.le hqE hu2
  replace hgu:=hgu.le hu2
  generalize u.union (A0c (sgA++sgB))=u1 at *
  clear hu2 hbk2 hS4 hS9 r1 r2 hcase u
  refine Q_op fun ho=>A1p ho bod10 Y Y Y Y Y (hold_x (P:=P') (cD:=c4) (cA:=c9) rA hdl rB hql) (fun y u2 hl hR=>?_)
  clear ho
  replace hvu:=hvu.trans hl
  replace hv1:=hl _ _ hv1
  replace hv2:=hl _ _ hv2
  replace hdE:=hdE.le hl
  replace hqE:=ActsAt.le hqE hl
  replace hgu:=hgu.le hl
  replace rA:=rA.le hl
  replace rB:=ActsAt.le rB hl
  clear hl
  obtain⟨ar,kr,ad,kd,rfl,hr1,hr2⟩:=hR
  have hF:=holdF_x (mn:=⟨true,true⟩) (v:=u2) (P:=P') (cD:=cE) (cA:=cQ) hdE hdl hqE hql
  generalize holdR P' d' q'=hr at *
  obtain⟨he,hw,hk⟩:=hr
  dsimp only at hhl hr1 hr2
  refine su ?_
  refine A1d [8] [0,1,2,3,4,5,6,7,8,9,10,11,12,13,14,15] A1e Y kR ?_
  refine su ?_
  refine A0s tab i Y Y Y kR Y Y Y Y Y hlt ?_
  refine su ?_
  refine A8v tab Y Y Y kR Y hv1 (A1g tab (x:=[intV P',.slice aE d'.length cE]) Y Y Y hc1') ?_
  refine su ?_
  refine A0s tab i Y Y Y kR Y Y Y Y Y hlt ?_
  refine su ?_
  refine A8v tab Y Y Y kR Y hv2 (A0l tab Y Y Y hc2) ?_
  refine su ?_
  refine S_do kR (A1p Y bod22 Y Y Y Y Y hF (fun y u3 hl hR=>⟨hl,kp,?_⟩))
  obtain⟨ar',kr',ad',kd',rfl,hr1',hr2'⟩:=hR
  dsimp only at hr1' hr2'
  replace hr1:=hr1.le hl
  replace hr2:=hr2.le hl
  replace hvu:=hvu.trans hl
  replace hv1:=hl _ _ hv1
  replace hv2:=hl _ _ hv2
  replace hdE:=hdE.le hl
  replace hqE:=ActsAt.le hqE hl
  replace hgu:=hgu.le hl
  replace rA:=rA.le hl
  replace rB:=ActsAt.le rB hl
  clear hl hF
  refine su ?_
  rw [show(he != he)=false from by simp]
  refine su ?_
  refine Q_op fun ho=>A0u ho bod23 Y Y Y Y Y (A5v (sameWords_x (cA:=kr) (cB:=kr') hr1 hr1' (show hw.length<2^62 by omega) (show hw.length<2^62 by omega))) ?_
  clear ho
  refine su ?_
  refine Q_op fun ho=>A0u ho bod24 Y Y Y Y Y (A5v (A9n (cA:=kd) (cB:=kd') hr2 hr2' (show hk.length<2^62 by omega) (show hk.length<2^62 by omega))) ?_
  clear ho hr1 hr1' hr2 hr2' hhl
  refine su ?_
  refine Q_op fun ho=>A1p ho bod25 Y Y Y Y Y (liarsP_x (P:=P') (cD:=c4) (cA:=c9) rA hdl rB hql) (fun y u4 hl hR=>?_)
  clear ho
  obtain⟨aL,kL,rfl,hL1⟩:=hR
  replace hvu:=hvu.trans hl
  replace hv1:=hl _ _ hv1
  replace hv2:=hl _ _ hv2
  replace hdE:=hdE.le hl
  replace hqE:=ActsAt.le hqE hl
  replace hgu:=hgu.le hl
  replace rA:=rA.le hl
  replace rB:=ActsAt.le rB hl
  clear hl
  have hF:=liarsF_x (mn:=⟨true,true⟩) (v:=u4) (P:=P') (cD:=cE) (cA:=cQ) hdE hdl hqE hql
  generalize liarsR P' d' q'=lr at *
  obtain⟨ll,le⟩:=lr
  dsimp only at hll hL1
  refine su ?_
  refine A1d [8] [0,1,2,3,4,5,6,7,8,9,10,11,12,13] A1e Y kR ?_
  refine su ?_
  refine A0s tab i Y Y Y kR Y Y Y Y Y hlt ?_
  refine su ?_
  refine A8v tab Y Y Y kR Y hv1 (A1g tab (x:=[intV P',.slice aE d'.length cE]) Y Y Y hc1') ?_
  refine su ?_
  refine A0s tab i Y Y Y kR Y Y Y Y Y hlt ?_
  refine su ?_
  refine A8v tab Y Y Y kR Y hv2 (A0l tab Y Y Y hc2) ?_
  refine su ?_
  refine S_do kR (A1p Y bod26 Y Y Y Y Y hF (fun y u5 hl hR=>⟨hl,kp,?_⟩))
  obtain⟨aM,kM,rfl,hL2⟩:=hR
  dsimp only at hL2
  replace hL1:=hL1.le hl
  replace hvu:=hvu.trans hl
  replace hv1:=hl _ _ hv1
  replace hv2:=hl _ _ hv2
  replace hdE:=hdE.le hl
  replace hqE:=ActsAt.le hqE hl
  replace hgu:=hgu.le hl
  replace rA:=rA.le hl
  replace rB:=ActsAt.le rB hl
  clear hl hF
  refine su ?_
  refine Q_op fun ho=>A1p ho bod11 Y Y Y Y Y (tradeP_x (P:=P') (cD:=c4) (cA:=c9) hgu rA hdl rB hql) (fun y u6 hl hR=>?_)
  clear ho
  obtain⟨a7,kt,aq,kq,ys,rfl,ht1,ht2,ht3⟩:=hR
  replace hL1:=hL1.le hl
  replace hL2:=hL2.le hl
  replace hvu:=hvu.trans hl
  replace hv1:=hl _ _ hv1
  replace hv2:=hl _ _ hv2
  replace hdE:=hdE.le hl
  replace hqE:=ActsAt.le hqE hl
  replace hgu:=hgu.le hl
  replace rA:=rA.le hl
  replace rB:=ActsAt.le rB hl
  clear hl
  have hF:=tradeF_x (mn:=⟨true,true⟩) (v:=u6) (P:=P') (cD:=cE) (cA:=cQ) hdE hdl hqE hql
  generalize tradeR P' d' q'=tr at *
  obtain⟨tp,td,tl,te⟩:=tr
  dsimp only at htl ht1 ht2 ht3
  refine sw fun bx=>?_
  obtain⟨b23,rfl⟩:∃x:Nat,x=bx:=⟨bx,rfl⟩
  rw [putV_tx]
  refine A1d [8,12,13] [0,1,2,3,4,5,6,7,8,12,9,10,11,13,14] A1e Y kR ?_
  refine su ?_
  refine A0s tab i Y Y Y kR Y Y Y Y Y hlt ?_
  refine su ?_
  refine A8v tab Y Y Y kR Y hv1 (A1g tab (x:=[intV P',.slice aE d'.length cE]) Y Y Y hc1') ?_
  refine su ?_
  refine A0s tab i Y Y Y kR Y Y Y Y Y hlt ?_
  refine su ?_
  refine A8v tab Y Y Y kR Y hv2 (A0l tab Y Y Y hc2) ?_
  refine su ?_
  refine S_two 12 kR (A1p Y bod27 Y Y Y Y Y hF (fun y u7 hl hR=>⟨hl,kp,?_⟩)) (A8z tab Y Y Y Y (fun b25=>⟨Le.refl _,kp,?_⟩))
  ·clear hF
   obtain⟨az',kz',ap',kp',zs,rfl,hz1,hz2,hz3⟩:=hR
   dsimp only at hz1 hz2 hz3
   replace hvu:=hvu.trans hl
   replace hv1:=hl _ _ hv1
   replace hv2:=hl _ _ hv2
   replace hdE:=hdE.le hl
   replace hqE:=ActsAt.le hqE hl
   replace rA:=rA.le hl
   replace rB:=ActsAt.le rB hl
   replace hL1:=hL1.le hl
   replace hL2:=hL2.le hl
   replace ht1:=ht1.le hl
   replace ht2:=ht2.le hl
   replace ht3:=ht3.le hl
   clear hl
   refine XS_re (todo:=[9,10,11,12,13,14]) ?_ Y
   refine su ?_
   refine S_do kR (A8z tab Y Y Y Y (fun b25=>⟨Le.refl _,kp,?_⟩))
   refine su ?_
   rw [putV_tx]
   refine XC_lex A1e Y kR ?_
   refine su ?_
   rw [show(le != le)=false from by simp]
   refine su ?_
   rw [show(te != te)=false from by simp]
   refine su ?_
   refine A2w bod24 Y Y Y Y Y (A5v (A9n (cA:=kL) (cB:=kM) hL1 hL2 (show ll.length<2^62 by omega) (show ll.length<2^62 by omega))) ?_
   refine su ?_
   refine A2w bod28 Y Y Y Y Y (sameTr_x (P:=tp) (k1:=kt) (k2:=kq) (k3:=kz') (k4:=kp') ht1 hz1 (show td.length<2^30 by omega) ht2 ht3 hz2 hz3 (show tl.length<2^20 by omega)) ?_
   refine su ?_
   refine A1m tab i Y Y Y Y Y Y Y hlt ?_
   refine su ?_
   refine A4l tab Y Y Y hv1 (A1g tab (x:=[intV P',.slice aE d'.length cE]) Y Y Y hc1') ?_
   refine su ?_
   refine A2w bod29 Y Y Y Y Y (B2z (P:=P') (cD:=c4) (cE:=cE) rA hdE hdl) ?_
   refine su ?_
   refine A1m tab i Y Y Y Y Y Y Y hlt ?_
   refine su ?_
   refine A4l tab Y Y Y hv2 (A0l tab Y Y Y hc2) ?_
   refine su ?_
   refine A2w bod30 Y Y Y Y Y (A5v (sameActs_x (cA:=c9) (cB:=cQ) rB hqE oM oM)) ?_
   refine su ?_
   exact A0b ⟨i+1,_,oM,⟨Y,rg,cntL⟩,Le.refl _,hvu,hlt⟩
  ·refine S_do kR (A1p Y bod27 Y Y Y Y Y hF (fun y u7 hl hR=>⟨hl,kp,?_⟩))
   clear hF
   obtain⟨az',kz',ap',kp',zs,rfl,hz1,hz2,hz3⟩:=hR
   dsimp only at hz1 hz2 hz3
   replace hvu:=hvu.trans hl
   replace hv1:=hl _ _ hv1
   replace hv2:=hl _ _ hv2
   replace hdE:=hdE.le hl
   replace hqE:=ActsAt.le hqE hl
   replace rA:=rA.le hl
   replace rB:=ActsAt.le rB hl
   replace hL1:=hL1.le hl
   replace hL2:=hL2.le hl
   replace ht1:=ht1.le hl
   replace ht2:=ht2.le hl
   replace ht3:=ht3.le hl
   clear hl
   refine su ?_
   rw [putV_tx]
   refine XC_lex A1e Y kR ?_
   refine su ?_
   rw [show(le != le)=false from by simp]
   refine su ?_
   rw [show(te != te)=false from by simp]
   refine su ?_
   refine A2w bod24 Y Y Y Y Y (A5v (A9n (cA:=kL) (cB:=kM) hL1 hL2 (show ll.length<2^62 by omega) (show ll.length<2^62 by omega))) ?_
   refine su ?_
   refine A2w bod28 Y Y Y Y Y (sameTr_x (P:=tp) (k1:=kt) (k2:=kq) (k3:=kz') (k4:=kp') ht1 hz1 (show td.length<2^30 by omega) ht2 ht3 hz2 hz3 (show tl.length<2^20 by omega)) ?_
   refine su ?_
   refine A1m tab i Y Y Y Y Y Y Y hlt ?_
   refine su ?_
   refine A4l tab Y Y Y hv1 (A1g tab (x:=[intV P',.slice aE d'.length cE]) Y Y Y hc1') ?_
   refine su ?_
   refine A2w bod29 Y Y Y Y Y (B2z (P:=P') (cD:=c4) (cE:=cE) rA hdE hdl) ?_
   refine su ?_
   refine A1m tab i Y Y Y Y Y Y Y hlt ?_
   refine su ?_
   refine A4l tab Y Y Y hv2 (A0l tab Y Y Y hc2) ?_
   refine su ?_
   refine A2w bod30 Y Y Y Y Y (A5v (sameActs_x (cA:=c9) (cB:=cQ) rB hqE oM oM)) ?_
   refine su ?_
   exact A0b ⟨i+1,_,oM,⟨Y,rg,cntL⟩,Le.refl _,hvu,hlt⟩
 ·clear h
  refine su ?_
  refine Q_op fun ho=>A0u ho bod19 Y Y Y Y Y held_x ?_
  clear ho
  refine su ?_
  exact⟨Y,Y,Y⟩
end Go.Proofs.YtclejblcnfaeaaaGreatDoor
end
