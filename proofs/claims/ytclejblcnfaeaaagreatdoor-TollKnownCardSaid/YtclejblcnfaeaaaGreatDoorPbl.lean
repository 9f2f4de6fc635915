/- Part 38. -/
import Derived.Test.YtclejblcnfaeaaaGreatDoorPbk
set_option linter.all false
section
namespace Go.Proofs.YtclejblcnfaeaaaGreatDoor
open Go Go.Pal Go.Pal.To Go.Conc View
open Go.Proofs.Tryz
set_option maxHeartbeats 4000000
set_option maxRecDepth 20000
theorem A7i{α:Type}[DecidableEq α]{a b:List α}{i:Nat}(h:a.take i=b.take i)(hi:¬(i<a.length∧i<b.length)):(decide (a=b))=((a.length:Int)==(b.length:Int)):=by
 by_cases e:a.length=b.length
 ·have h1:a.length≤i:=oM
  rw [List.take_of_length_le h1,List.take_of_length_le oM]at h
  rw [h];simp
 ·rw [decide_eq_false (fun e'=>e (by rw [e'])),eq_comm,beq_eq_false_iff_ne]
  omega
theorem same_no{α:Type}{a b:List α}{i:Nat}(h1:i<a.length)(h2:i<b.length)(h:a[i]≠b[i]):a≠b:=fun e=>by
 subst e;exact h rfl
theorem same_go{α:Type}{a b:List α}{i:Nat}(h:a.take i=b.take i)(h1:i<a.length)(h2:i<b.length)(he:a[i]=b[i]):a.take (i+1)=b.take (i+1):=by
 rw [List.take_succ_eq_append_getElem h1,List.take_succ_eq_append_getElem h2,h,he]
section
variable{mn:Who}{rd:Option Nat}{n:Nat}{Q:Exit→St→View→Prop}{ds:List Deferred}{ρ:Regs}{β:A0e}{v:View}
 {ops:Array Oper}{l:List Oper}{d:Nat}{ty:TypeId}{pos:String}{af:Array Edge}{gu:Option (Nat×Bool)}
theorem sx_neqlA{ev:Operand→Value}{y z:Operand}{t2:TypeId}{a b:MA}(hy:ev y=a.val)(hz:ev z=b.val){K:Next→View→Prop}{E:Value→View→Prop}{w:View}(h:K (.value (.bool (!decide (a=b)))) w):SemX prog (execOp ev ⟨some d,.binOp .neq 40 y z t2,ty,pos,af,gu⟩) K E w:=by
 have hg:prog.eqGuardType prog.depth 40=false:=by kernel_rfl
 simp only [execOp,A0a,hy,hz,eqGuard,binOp,A1s,hg]
 simp only [Bool.not_true,Bool.false_eq_true,if_false,A0a]
 rw [A1s,A1s,hg]
 simp only [Bool.not_true,Bool.not_false,Bool.false_eq_true,if_false,if_true,A0h,A0a]
 obtain⟨k,a,b',x⟩:=a
 obtain⟨k',a',b'',x'⟩:=b
 refine act_eq ?_
 rw [show decide (k=k'∧a=a'∧b'=b''∧x=x')=decide ((⟨k,a,b',x⟩:MA)=⟨k',a',b'',x'⟩)from by simp]
 exact h
theorem L_neqlA{y z:Operand}{t2:TypeId}{a b:MA}(hw:A0p ops gu ρ=some true)(hn:Nat.blt d n=true)(hy:ρ.val y=some a.val)(hz:ρ.val z=some b.val)
  (h:XL prog mn n ops Q l ⟨ds,(d,.bool (!decide (a=b)))::ρ,β⟩ v):XL prog mn n ops Q (⟨some d,.binOp .neq 40 y z t2,ty,pos,af,gu⟩::l) ⟨ds,ρ,β⟩ v:=
 A4e (o:=⟨some d,.binOp .neq 40 y z t2,ty,pos,af,gu⟩) (A0j hw) hn (fun _ hev _ _ _=>sx_neqlA (hev _ _ hy) (hev _ _ hz) ⟨Le.refl _,rfl⟩) h
end
section
variable{mn:Who}{v:View}{aA aB:Option Addr}{cA cB:Nat}
theorem A9n{xs ys:List Int}(ha:RowAt v aA (xs.map intV))(hb:RowAt v aB (ys.map intV))(hl:xs.length<2^62)(hl2:ys.length<2^62):Ret1 prog mn 24 [.slice aA xs.length cA,.slice aB ys.length cB] (.bool (decide (xs=ys))) v:=by
 refine A0d tab func24 Y nB (args:=[_,_]) ?_
 refine su ?_
 refine A1q (α:=Nat) (fun i=>⟨[],[(5,.int .i64 i),(0,.slice aA xs.length cA),(1,.slice aB ys.length cB)],[]⟩)
  (fun i w=>w=v∧i≤xs.length∧xs.take i=ys.take i) (fun i=>xs.length-i) 0 ⟨Y,rg,cntL⟩ (Le.refl _) ⟨Y,Nat.zero_le _,Y⟩ ?_
 rintro i w ⟨rfl,hi,ht⟩
 refine su ?_
 by_cases h1:i<xs.length
 ·rw [show decide ((i:Int)<(xs.length:Int))=true from decide_eq_true oM]
  refine su ?_
  by_cases h2:i<ys.length
  ·rw [show decide ((i:Int)<(ys.length:Int))=true from decide_eq_true oM]
   obtain⟨b1,off1,p1,c1,e1,f1,rfl,hv1,hc1⟩:=ha.get h1
   obtain⟨b2,off2,p2,c2,e2,f2,rfl,hv2,hc2⟩:=hb.get h2
   refine su ?_
   refine A1m tab i Y Y Y Y Y Y Y h1 ?_
   refine A4l tab Y Y Y hv1 (A0l tab Y Y Y (by rw [Nat.mul_one];exact hc1 _ h1)) ?_
   refine su ?_
   refine A1m tab i Y Y Y Y Y Y Y h2 ?_
   refine A4l tab Y Y Y hv2 (A0l tab Y Y Y (by rw [Nat.mul_one];exact hc2 _ h2)) ?_
   refine su ?_
   by_cases he:xs[i]=ys[i]
   ·rw [show(xs[i] != ys[i])=false from by simpa using he]
    refine su ?_
    exact A0b ⟨i+1,w,oM,⟨Y,rg,cntL⟩,Le.refl _,Y,h1,same_go ht h1 h2 he⟩
   ·rw [show(xs[i] != ys[i])=true from by simpa using he]
    refine su ?_
    refine A0f tab [] (by exact .tmp rfl .nil) (Back.here cntL) ?_
    exact⟨by rw [decide_eq_false (same_no h1 h2 he)];rfl,Y⟩
  ·rw [show decide ((i:Int)<(ys.length:Int))=false from decide_eq_false oM]
   refine su ?_
   refine A0f tab [] (by exact .tmp rfl .nil) (Back.here cntL) ?_
   exact⟨by rw [A7i ht oM];rfl,Y⟩
 ·rw [show decide ((i:Int)<(xs.length:Int))=false from decide_eq_false oM]
  refine su ?_
  refine A0f tab [] (by exact .tmp rfl .nil) (Back.here cntL) ?_
  exact⟨by rw [A7i ht oM];rfl,Y⟩
theorem sameActs_x{xs ys:List MA}(ha:ActsAt v aA xs)(hb:ActsAt v aB ys)(hl:xs.length<2^62)(hl2:ys.length<2^62):Ret1 prog mn 30 [.slice aA xs.length cA,.slice aB ys.length cB] (.bool (decide (xs=ys))) v:=by
 refine A0d tab func30 Y nB (args:=[_,_]) ?_
 refine su ?_
 refine A1q (α:=Nat) (fun i=>⟨[],[(5,.int .i64 i),(0,.slice aA xs.length cA),(1,.slice aB ys.length cB)],[]⟩)
  (fun i w=>w=v∧i≤xs.length∧xs.take i=ys.take i) (fun i=>xs.length-i) 0 ⟨Y,rg,cntL⟩ (Le.refl _) ⟨Y,Nat.zero_le _,Y⟩ ?_
 rintro i w ⟨rfl,hi,ht⟩
 refine su ?_
 by_cases h1:i<xs.length
 ·rw [show decide ((i:Int)<(xs.length:Int))=true from decide_eq_true oM]
  refine su ?_
  by_cases h2:i<ys.length
  ·rw [show decide ((i:Int)<(ys.length:Int))=true from decide_eq_true oM]
   obtain⟨b1,off1,p1,c1,e1,f1,rfl,hv1,hc1⟩:=ha.get h1
   obtain⟨b2,off2,p2,c2,e2,f2,rfl,hv2,hc2⟩:=hb.get h2
   refine su ?_
   refine A1m tab i Y Y Y Y Y Y Y h1 ?_
   refine A4l tab Y Y Y hv1 (A1g tab Y Y Y (hc1 _ h1)) ?_
   refine su ?_
   refine A1m tab i Y Y Y Y Y Y Y h2 ?_
   refine A4l tab Y Y Y hv2 (A1g tab Y Y Y (hc2 _ h2)) ?_
   refine L_neqlA (a:=xs[i]) (b:=ys[i]) Y Y Y Y ?_
   by_cases he:xs[i]=ys[i]
   ·rw [show decide (xs[i]=ys[i])=true from decide_eq_true he]
    refine su ?_
    exact A0b ⟨i+1,w,oM,⟨Y,rg,cntL⟩,Le.refl _,Y,h1,same_go ht h1 h2 he⟩
   ·rw [show decide (xs[i]=ys[i])=false from decide_eq_false he]
    refine su ?_
    refine A0f tab [] (by exact .tmp rfl .nil) (Back.here cntL) ?_
    exact⟨by rw [decide_eq_false (same_no h1 h2 he)];rfl,Y⟩
  ·rw [show decide ((i:Int)<(ys.length:Int))=false from decide_eq_false oM]
   refine su ?_
   refine A0f tab [] (by exact .tmp rfl .nil) (Back.here cntL) ?_
   exact⟨by rw [A7i ht oM];rfl,Y⟩
 ·rw [show decide ((i:Int)<(xs.length:Int))=false from decide_eq_false oM]
  refine su ?_
  refine A0f tab [] (by exact .tmp rfl .nil) (Back.here cntL) ?_
  exact⟨by rw [A7i ht oM];rfl,Y⟩
theorem sameWords_x{xs ys:List ByteArray}(ha:RowAt v aA (xs.map .string))(hb:RowAt v aB (ys.map .string))(hl:xs.length<2^62)(hl2:ys.length<2^62):Ret1 prog mn 23 [.slice aA xs.length cA,.slice aB ys.length cB] (.bool (decide (xs=ys))) v:=by
 refine A0d tab func23 Y nB (args:=[_,_]) ?_
 refine su ?_
 refine A1q (α:=Nat) (fun i=>⟨[],[(5,.int .i64 i),(0,.slice aA xs.length cA),(1,.slice aB ys.length cB)],[]⟩)
  (fun i w=>w=v∧i≤xs.length∧xs.take i=ys.take i) (fun i=>xs.length-i) 0 ⟨Y,rg,cntL⟩ (Le.refl _) ⟨Y,Nat.zero_le _,Y⟩ ?_
 rintro i w ⟨rfl,hi,ht⟩
 refine su ?_
 by_cases h1:i<xs.length
 ·rw [show decide ((i:Int)<(xs.length:Int))=true from decide_eq_true oM]
  refine su ?_
  by_cases h2:i<ys.length
  ·rw [show decide ((i:Int)<(ys.length:Int))=true from decide_eq_true oM]
   obtain⟨b1,off1,p1,c1,e1,f1,rfl,hv1,hc1⟩:=ha.get h1
   obtain⟨b2,off2,p2,c2,e2,f2,rfl,hv2,hc2⟩:=hb.get h2
   refine su ?_
   refine A1m tab i Y Y Y Y Y Y Y h1 ?_
   refine A4l tab Y Y Y hv1 (A0l tab Y Y Y (by rw [Nat.mul_one];exact hc1 _ h1)) ?_
   refine su ?_
   refine A1m tab i Y Y Y Y Y Y Y h2 ?_
   refine A4l tab Y Y Y hv2 (A0l tab Y Y Y (by rw [Nat.mul_one];exact hc2 _ h2)) ?_
   refine su ?_
   by_cases he:xs[i]=ys[i]
   ·rw [show(xs[i].toList==ys[i].toList)=true from by rw [he];simp]
    refine su ?_
    exact A0b ⟨i+1,w,oM,⟨Y,rg,cntL⟩,Le.refl _,Y,h1,same_go ht h1 h2 he⟩
   ·rw [show(xs[i].toList==ys[i].toList)=false from by
     rw [beq_eq_false_iff_ne]
     intro e
     rw [ByteArray.toList_eq,ByteArray.toList_eq]at e
     exact he (bytes_eq e)]
    refine su ?_
    refine A0f tab [] (by exact .tmp rfl .nil) (Back.here cntL) ?_
    exact⟨by rw [decide_eq_false (same_no h1 h2 he)];rfl,Y⟩
  ·rw [show decide ((i:Int)<(ys.length:Int))=false from decide_eq_false oM]
   refine su ?_
   refine A0f tab [] (by exact .tmp rfl .nil) (Back.here cntL) ?_
   exact⟨by rw [A7i ht oM];rfl,Y⟩
 ·rw [show decide ((i:Int)<(xs.length:Int))=false from decide_eq_false oM]
  refine su ?_
  refine A0f tab [] (by exact .tmp rfl .nil) (Back.here cntL) ?_
  exact⟨by rw [A7i ht oM];rfl,Y⟩
end
section
variable{mn:Who}{v:View}
theorem A4j{a b h:Int}:Ret1 prog mn 35 [intV a,intV b,intV h] (MA.val ⟨0,a,b,h⟩) v:=by
 refine A0d tab func35 Y nB (args:=[_,_,_]) ?_
 refine sw fun bx=>?_
 refine A0f tab [] (by exact .cell rfl ib rfl .nil) (Back.here cntL) ?_
 exact⟨Y,Y⟩
theorem asks_x{h:Int}:Ret1 prog mn 36 [intV h] (MA.val ⟨1,0,0,h⟩) v:=by
 refine A0d tab func36 Y nB (args:=[_]) ?_
 refine sw fun bx=>?_
 refine A0f tab [] (by exact .cell rfl ib rfl .nil) (Back.here cntL) ?_
 exact⟨Y,Y⟩
theorem claims_x{a b h:Int}:Ret1 prog mn 74 [intV a,intV b,intV h] (MA.val ⟨2,a,b,h⟩) v:=by
 refine A0d tab func74 Y nB (args:=[_,_,_]) ?_
 refine sw fun bx=>?_
 refine A0f tab [] (by exact .cell rfl ib rfl .nil) (Back.here cntL) ?_
 exact⟨Y,Y⟩
def MornAt(P:Int)(d:List Int)(x:Value)(u:View):Prop:=∃a c,x=moV P a d.length c∧RowAt u a (d.map intV)
def BookAt(l:List MA)(x:Value)(u:View):Prop:=∃a c,x = .slice a l.length c∧ActsAt u a l
def firstL:List MA:=[⟨0,0,1,0⟩,⟨0,1,2,1⟩,⟨1,0,0,0⟩]
def secondL:List MA:=[⟨0,0,1,0⟩,⟨0,1,0,0⟩,⟨2,0,2,1⟩]
def awayL:List MA:=[⟨0,0,2,0⟩]
def overL:List MA:=[⟨0,0,1,0⟩]
def roundL:List MA:=[⟨0,0,1,0⟩,⟨0,1,0,0⟩,⟨0,0,1,0⟩]
theorem fair_x:A6l prog mn 33 [] (MornAt 3 [0,1]) v:=by
 refine A3k tab func33 Y nB (args:=[]) ?_
 refine sw fun bx=>?_
 refine Q_op fun ho=>A3w tab ho Y Y Y Y Y Y Y Y Y (fun bL cL hL=>?_)
 clear ho
 refine su ?_
 refine A2m tab (.cell rfl ib rfl .nil) (Le.refl _) fun hbk _=>?_
 exact⟨_,_,Y,RowAt.own hbk (by exact cntL) hL⟩
theorem quiet_x:A6l prog mn 49 [] (MornAt 2 [0]) v:=by
 refine A3k tab func49 Y nB (args:=[]) ?_
 refine sw fun bx=>?_
 refine Q_op fun ho=>A3w tab ho Y Y Y Y Y Y Y Y Y (fun bL cL hL=>?_)
 clear ho
 refine su ?_
 refine A2m tab (.cell rfl ib rfl .nil) (Le.refl _) fun hbk _=>?_
 exact⟨_,_,Y,RowAt.own hbk (by exact cntL) hL⟩
theorem bkFirst_x:A6l prog mn 42 [] (BookAt firstL) v:=by
 refine A3k tab func42 Y nB (args:=[]) ?_
 refine su ?_
 refine Q_op fun ho=>A0u ho B0r Y Y Y Y Y A4j ?_
 clear ho
 refine su ?_
 refine Q_op fun ho=>A0u ho B0r Y Y Y Y Y A4j ?_
 clear ho
 refine su ?_
 refine Q_op fun ho=>A0u ho bod36 Y Y Y Y Y asks_x ?_
 clear ho
 refine Q_op fun ho=>A3w tab ho Y Y Y Y Y Y Y Y Y (fun bL cL hL=>?_)
 clear ho
 refine su ?_
 refine A2m tab (.tmp rfl .nil) (Le.refl _) fun hbk _=>?_
 exact⟨_,_,Y,RowAt.own hbk (by exact cntL) hL⟩
theorem bkSecond_x:A6l prog mn 41 [] (BookAt secondL) v:=by
 refine A3k tab func41 Y nB (args:=[]) ?_
 refine su ?_
 refine Q_op fun ho=>A0u ho B0r Y Y Y Y Y A4j ?_
 clear ho
 refine su ?_
 refine Q_op fun ho=>A0u ho B0r Y Y Y Y Y A4j ?_
 clear ho
 refine su ?_
 refine Q_op fun ho=>A0u ho bod74 Y Y Y Y Y claims_x ?_
 clear ho
 refine Q_op fun ho=>A3w tab ho Y Y Y Y Y Y Y Y Y (fun bL cL hL=>?_)
 clear ho
 refine su ?_
 refine A2m tab (.tmp rfl .nil) (Le.refl _) fun hbk _=>?_
 exact⟨_,_,Y,RowAt.own hbk (by exact cntL) hL⟩
theorem bkRound_x:A6l prog mn 50 [] (BookAt roundL) v:=by
 refine A3k tab func50 Y nB (args:=[]) ?_
 refine su ?_
 refine Q_op fun ho=>A0u ho B0r Y Y Y Y Y A4j ?_
 clear ho
 refine su ?_
 refine Q_op fun ho=>A0u ho B0r Y Y Y Y Y A4j ?_
 clear ho
 refine su ?_
 refine Q_op fun ho=>A0u ho B0r Y Y Y Y Y A4j ?_
 clear ho
 refine Q_op fun ho=>A3w tab ho Y Y Y Y Y Y Y Y Y (fun bL cL hL=>?_)
 clear ho
 refine su ?_
 refine A2m tab (.tmp rfl .nil) (Le.refl _) fun hbk _=>?_
 exact⟨_,_,Y,RowAt.own hbk (by exact cntL) hL⟩
theorem bkOver_x:A6l prog mn 44 [] (BookAt overL) v:=by
 refine A3k tab func44 Y nB (args:=[]) ?_
 refine su ?_
 refine Q_op fun ho=>A0u ho B0r Y Y Y Y Y A4j ?_
 clear ho
 refine Q_op fun ho=>A3w tab ho Y Y Y Y Y Y Y Y Y (fun bL cL hL=>?_)
 clear ho
 refine su ?_
 refine A2m tab (.tmp rfl .nil) (Le.refl _) fun hbk _=>?_
 exact⟨_,_,Y,RowAt.own hbk (by exact cntL) hL⟩
theorem bkAway_x:A6l prog mn 45 [] (BookAt awayL) v:=by
 refine A3k tab func45 Y nB (args:=[]) ?_
 refine su ?_
 refine Q_op fun ho=>A0u ho B0r Y Y Y Y Y A4j ?_
 clear ho
 refine Q_op fun ho=>A3w tab ho Y Y Y Y Y Y Y Y Y (fun bL cL hL=>?_)
 clear ho
 refine su ?_
 refine A2m tab (.tmp rfl .nil) (Le.refl _) fun hbk _=>?_
 exact⟨_,_,Y,RowAt.own hbk (by exact cntL) hL⟩
end
end Go.Proofs.YtclejblcnfaeaaaGreatDoor
end
