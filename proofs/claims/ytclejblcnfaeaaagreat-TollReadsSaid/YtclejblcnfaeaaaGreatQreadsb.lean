/- Part 44. -/
import Derived.Test.YtclejblcnfaeaaaGreatQreadsa
set_option linter.all false
section
namespace Go.Proofs.YtclejblcnfaeaaaGreat
open Go Go.Pal Go.Pal.To Go.Conc View
open Go.Proofs.Tryz
open Go.Proofs.YtclejblcnfaeaaaGreat.W (lexL)
set_option maxHeartbeats 4000000
set_option maxRecDepth 20000
section
variable{mn:Who}{v:View}
def digC(c:UInt8):Int:=if dg c then(c.toNat:Int)-48 else -1
theorem B3d{c:UInt8}(h:dg c):digC c=(c.toNat:Int)-48∧0≤digC c:=by
 unfold digC;rw [if_pos h];unfold dg at h;omega
theorem B3e{c:UInt8}(h:¬dg c):digC c = -1:=by unfold digC;rw [if_neg h]
theorem wrapB{x:Int}(h0:0≤x)(h1:x<256):IntKind.u8.wrap x=x:=by
 show((x % 256:Int))=x
 omega
theorem B3f{c:UInt8}:Ret1 prog mn 85 [.int .u8 c.toNat] (intV (digC c)) v:=by
 refine A0d tab func85 Y nB (args:=[_]) ?_
 have hc:=c.toNat_lt
 refine su ?_
 by_cases h1:c.toNat<48
 ·rw [show decide (((c.toNat:Nat):Int)<48)=true from decide_eq_true oM]
  refine su ?_
  refine A0f tab [] (by exact .tmp rfl .nil) (Back.here cntL) ?_
  exact⟨by rw [B3e (by unfold dg;omega)];rfl,Y⟩
 rw [show decide (((c.toNat:Nat):Int)<48)=false from decide_eq_false oM]
 refine su ?_
 by_cases h2:57<c.toNat
 ·rw [show decide (((c.toNat:Nat):Int) > 57)=true from decide_eq_true oM]
  refine su ?_
  refine A0f tab [] (by exact .tmp rfl .nil) (Back.here cntL) ?_
  exact⟨by rw [B3e (by unfold dg;omega)];rfl,Y⟩
 rw [show decide (((c.toNat:Nat):Int) > 57)=false from decide_eq_false oM]
 refine su ?_
 refine A0f tab [] (by exact .tmp rfl .nil) (Back.here cntL) ?_
 refine⟨?_,Y⟩
 rw [(B3d (c:=c) (by unfold dg;omega)).1]
 rw [wrapB (x:=(c.toNat:Int)-48) oM oM,A2d oM oM]
 rfl
def chrC(n:Int):UInt8:=UInt8.ofNat (48+n).toNat
theorem chrC_nat{n:Int}(h:0≤n∧n≤9):((chrC n).toNat:Int)=48+n∧chrB n=⟨#[chrC n]⟩:=by
 rcases (by omega:n=0∨n=1∨n=2∨n=3∨n=4∨n=5∨n=6∨n=7∨n=8∨n=9)with rfl|rfl|rfl|rfl|rfl|rfl|rfl|rfl|rfl|rfl<;>exact⟨rfl,rfl⟩
theorem one_x{n:Int}(h:¬outZ n 0 9):Ret1 prog mn 88 [intV n] (.string (chrB n)) v:=by
 have h9:0≤n∧n≤9:=by unfold outZ at h;omega
 obtain⟨e1,e2⟩:=chrC_nat h9
 refine A0d tab func88 Y nB (args:=[_]) ?_
 refine su ?_
 rw [show IntKind.u8.wrap (48+n)=((chrC n).toNat:Int)from by rw [wrapB oM oM,e1]]
 refine Q_op fun ho=>A3w tab ho Y Y Y Y Y Y Y Y Y (fun b3 c3 hL=>?_)
 clear ho
 refine Q_op fun ho=>A_byteStr tab (c:=chrC n) ho Y Y Y Y Y Y (fun hb=>RowAt.own hb cntL hL) ?_
 clear ho
 refine su ?_
 refine A0f tab [] (by exact .tmp rfl .nil) (Back.here cntL) ?_
 exact⟨by rw [e2];rfl,Y⟩
theorem writeR_x{x:MA}:Ret1 prog mn 30 [x.val] (wrV x) v:=by
 refine A0d tab func30 Y nB (args:=[_]) ?_
 refine sw fun bx=>?_
 refine Q_op fun ho=>A0u ho bod82 Y Y Y Y Y (amongR_x (n:=x.k) (lo:=0) (hi:=2)) ?_
 clear ho
 by_cases h0:A4o x.k<0
 ·have:outZ x.k 0 2:=Classical.byContradiction fun h=>by
   unfold outZ at h
   unfold A4o at h0
   rcases (by omega:x.k=0∨x.k=1∨x.k=2)with e|e|e<;>rw [e]at h0<;>exact absurd h0 dM
  rw [decide_eq_true this]
  refine su ?_
  refine A0f tab [] (by exact .tmp rfl (.tmp rfl .nil)) (Back.here cntL) ⟨?_,Y⟩
  show _=wrV x
  unfold wrV B1c
  rw [if_pos h0];rfl
 have hk:=persN_of h0
 rw [show decide (outZ x.k 0 2)=false from decide_eq_false (by unfold outZ;omega)]
 have hw1:badFig x→wrV x = .tuple (List.toArray [.string ⟨#[]⟩,intV 1]):=fun h=>by unfold wrV B1c;rw [if_neg h0,if_pos h]
 refine su ?_
 refine Q_op fun ho=>A0u ho bod82 Y Y Y Y Y (amongR_x (n:=x.a) (lo:=0) (hi:=9)) ?_
 clear ho
 by_cases h1:outZ x.a 0 9
 ·rw [show decide (outZ x.a 0 9)=true from decide_eq_true h1,hw1 (.inl h1)]
  refine su ?_
  exact A0f tab [] (by exact .tmp rfl (.tmp rfl .nil)) (Back.here cntL) ⟨Y,Y⟩
 rw [show decide (outZ x.a 0 9)=false from decide_eq_false h1]
 refine su ?_
 refine Q_op fun ho=>A0u ho bod82 Y Y Y Y Y (amongR_x (n:=x.b) (lo:=0) (hi:=9)) ?_
 clear ho
 by_cases h2:outZ x.b 0 9
 ·rw [show decide (outZ x.b 0 9)=true from decide_eq_true h2,hw1 (.inr (.inl h2))]
  refine su ?_
  exact A0f tab [] (by exact .tmp rfl (.tmp rfl .nil)) (Back.here cntL) ⟨Y,Y⟩
 rw [show decide (outZ x.b 0 9)=false from decide_eq_false h2]
 refine su ?_
 refine Q_op fun ho=>A0u ho bod82 Y Y Y Y Y (amongR_x (n:=x.h) (lo:=0) (hi:=9)) ?_
 clear ho
 by_cases h3:outZ x.h 0 9
 ·rw [show decide (outZ x.h 0 9)=true from decide_eq_true h3,hw1 (.inr (.inr (.inl h3)))]
  refine su ?_
  exact A0f tab [] (by exact .tmp rfl (.tmp rfl .nil)) (Back.here cntL) ⟨Y,Y⟩
 rw [show decide (outZ x.h 0 9)=false from decide_eq_false h3]
 refine su ?_
 obtain⟨k,a,b,n⟩:=x
 simp only at hk h0 h1 h2 h3 hw1
 rcases hk with rfl|rfl|rfl
 ·have hw2:wrV ⟨0,a,b,n⟩ = .tuple (List.toArray [.string (lineB ⟨0,a,b,n⟩),intV 0]):=by
   unfold wrV B1c
   rw [if_neg h0,if_neg (by unfold badFig;simp only [h1,h2,h3,false_or];rintro⟨h,_⟩;cases h)]
  rw [hw2]
  refine su ?_
  refine lexL A1e Y kR ?_
  refine su ?_
  refine A2w bod88 Y Y Y Y Y (one_x h1) ?_
  refine B0o Y Y Y Y (by simp only [ByteArray.size_append,sz1];have:=A1b a;have:=A1b b;have:=A1b n;omega) ?_
  refine su ?_
  refine A2w bod88 Y Y Y Y Y (one_x h2) ?_
  refine B0o Y Y Y Y (by simp only [ByteArray.size_append,sz1];have:=A1b a;have:=A1b b;have:=A1b n;omega) ?_
  refine B0o Y Y Y Y (by simp only [ByteArray.size_append,sz1];have:=A1b a;have:=A1b b;have:=A1b n;omega) ?_
  refine su ?_
  refine A2w bod88 Y Y Y Y Y (one_x h3) ?_
  refine B0o Y Y Y Y (by simp only [ByteArray.size_append,sz1];have:=A1b a;have:=A1b b;have:=A1b n;omega) ?_
  refine su ?_
  exact A0f tab [] (by exact .tmp rfl (.tmp rfl .nil)) (Back.here cntL) ⟨Y,Y⟩
 ·refine su ?_
  by_cases h4:a=0
  ·subst h4
   refine su ?_
   by_cases h5:b=0
   ·subst h5
    have hw2:wrV ⟨1,0,0,n⟩ = .tuple (List.toArray [.string (lineB ⟨1,0,0,n⟩),intV 0]):=by
     unfold wrV B1c
     rw [if_neg h0,if_neg (by unfold badFig;simp only [h1,h2,h3,false_or];rintro⟨_,h|h⟩<;>exact h Y)]
    rw [hw2]
    refine su ?_
    refine Q_op fun ho=>A0u ho bod88 Y Y Y Y Y (one_x h3) ?_
    clear ho
    refine Q_op fun ho=>A_sadd ho Y Y Y Y (by simp only [sz1];have:=A1b n;omega) ?_
    clear ho
    refine su ?_
    exact A0f tab [] (by exact .tmp rfl (.tmp rfl .nil)) (Back.here cntL) ⟨Y,Y⟩
   ·rw [hw1 (.inr (.inr (.inr ⟨Y,.inr h5⟩))),show(b != 0)=true from by simpa using h5]
    refine su ?_
    exact A0f tab [] (by exact .tmp rfl (.tmp rfl .nil)) (Back.here cntL) ⟨Y,Y⟩
  ·rw [hw1 (.inr (.inr (.inr ⟨Y,.inl h4⟩))),show(a != 0)=true from by simpa using h4]
   refine su ?_
   exact A0f tab [] (by exact .tmp rfl (.tmp rfl .nil)) (Back.here cntL) ⟨Y,Y⟩
 ·have hw2:wrV ⟨2,a,b,n⟩ = .tuple (List.toArray [.string (lineB ⟨2,a,b,n⟩),intV 0]):=by
   unfold wrV B1c
   rw [if_neg h0,if_neg (by unfold badFig;simp only [h1,h2,h3,false_or];rintro⟨h,_⟩;cases h)]
  rw [hw2]
  refine su ?_
  refine lexL A1e Y kR ?_
  refine su ?_
  refine A2w bod88 Y Y Y Y Y (one_x h1) ?_
  refine B0o Y Y Y Y (by simp only [ByteArray.size_append,sz1];have:=A1b a;have:=A1b b;have:=A1b n;omega) ?_
  refine su ?_
  refine A2w bod88 Y Y Y Y Y (one_x h2) ?_
  refine B0o Y Y Y Y (by simp only [ByteArray.size_append,sz1];have:=A1b a;have:=A1b b;have:=A1b n;omega) ?_
  refine B0o Y Y Y Y (by simp only [ByteArray.size_append,sz1];have:=A1b a;have:=A1b b;have:=A1b n;omega) ?_
  refine su ?_
  refine A2w bod88 Y Y Y Y Y (one_x h3) ?_
  refine B0o Y Y Y Y (by simp only [ByteArray.size_append,sz1];have:=A1b a;have:=A1b b;have:=A1b n;omega) ?_
  refine su ?_
  exact A0f tab [] (by exact .tmp rfl (.tmp rfl .nil)) (Back.here cntL) ⟨Y,Y⟩
end
section
variable{mn:Who}{v:View}
def dstD(i:Nat):Nat:=bif Nat.beq i 10 then 4 else i+60
def preD(i:Nat):List Nat:=if i=9 then [2,5,8]else []
def spD(a b c:UInt8):Nat→Value→A0e→Prop
 | 2,y,β=>y=intV (digC a)∧β=[]
 | 5,y,β=>y=intV (digC b)∧β=[]
 | 8,y,β=>y=intV (digC c)∧β=[]
 | 9,y,β=>y=(MA.mk 0 (digC a) (digC b) (digC c)).val∧β=[]
 | _,y,β=>∃q,y = .pointer (some ⟨q,0,none⟩)∧β=[(q,(Value.agg (List.toArray [.int .i64 0,.int .i64 0,.int .i64 0,.int .i64 0])).cells,26)]
theorem B3g{l:List UInt8}(h1:¬askL l)(h2:¬saleL l):paV ⟨⟨l⟩⟩ = .tuple (List.toArray [(MA.mk 0 0 0 0).val,intV 2]):=by
 show Value.tuple (List.toArray [(A4v l).1.val,intV (A4v l).2])=_
 rw [parse_no h1 h2]
theorem u8_ne{c d:UInt8}(h:c≠d):(((c.toNat:Nat):Int)==((d.toNat:Nat):Int))=false∧(((c.toNat:Nat):Int) != ((d.toNat:Nat):Int))=true:=by
 have:((c.toNat:Nat):Int)≠((d.toNat:Nat):Int):=fun e=>h (u8_eq oM)
 exact⟨beq_eq_false_iff_ne.2 this,bne_iff_ne.2 this⟩
theorem askL_iff{a b:UInt8}:askL [a,b]↔a=63∧dg b:=by
 unfold askL
 constructor
 ·rintro⟨c,hc,e⟩
  simp only [List.cons.injEq,and_true]at e
  obtain⟨rfl,rfl⟩:=e
  exact⟨Y,hc⟩
 ·rintro⟨rfl,hb⟩;exact⟨b,hb,rfl⟩
theorem saleL_iff{a m b d c:UInt8}:saleL [a,m,b,d,c]↔dg a∧(m=62∨m=33)∧dg b∧d=58∧dg c:=by
 unfold saleL
 constructor
 ·rintro⟨a',m',b',c',h1,h2,h3,h4,e⟩
  simp only [List.cons.injEq,and_true]at e
  obtain⟨rfl,rfl,rfl,rfl,rfl⟩:=e
  exact⟨h1,h2,h3,Y,h4⟩
 ·rintro⟨h1,h2,h3,rfl,h4⟩;exact⟨a,m,b,c,h1,h2,h3,h4,rfl⟩
theorem askL_len{l:List UInt8}(h:askL l):l.length=2:=by obtain⟨c,_,rfl⟩:=h;rfl
theorem saleL_len{l:List UInt8}(h:saleL l):l.length=5:=by obtain⟨a,m,b,c,_,_,_,_,rfl⟩:=h;rfl
theorem parse2_x{a b:UInt8}:Ret1 prog mn 28 [.string ⟨⟨[a,b]⟩⟩] (paV ⟨⟨[a,b]⟩⟩) v:=by
 refine A0d tab func28 Y nB (args:=[_]) ?_
 have hns:¬saleL [a,b]:=fun h=>absurd (saleL_len h) sM
 refine sw fun bx=>?_
 refine Q_op fun ho=>A_byte tab ho Y Y Y Y (show(0:Int)=((0:Nat):Int)from Y) Y (b:=a) Y ?_
 clear ho
 refine su ?_
 by_cases h0:a=63
 ·subst h0
  refine su ?_
  refine Q_op fun ho=>A_byte tab ho Y Y Y Y (show(1:Int)=((1:Nat):Int)from Y) Y (b:=b) Y ?_
  clear ho
  refine Q_op fun ho=>A0u ho bod85 Y Y Y Y Y B3f ?_
  clear ho
  by_cases h1:dg b
  ·obtain⟨e1,e2⟩:=B3d h1
   refine su ?_
   rw [show decide (digC b≥0)=true from decide_eq_true e2]
   refine su ?_
   refine Q_op fun ho=>A_byte tab ho Y Y Y Y (show(1:Int)=((1:Nat):Int)from Y) Y (b:=b) Y ?_
   clear ho
   refine Q_op fun ho=>A0u ho bod85 Y Y Y Y Y B3f ?_
   clear ho
   refine su ?_
   refine A0f tab [] (by exact .cell rfl ib rfl (.tmp rfl .nil)) (Back.here cntL) ⟨?_,Y⟩
   show _=Value.tuple (List.toArray [(A4v [63,b]).1.val,intV (A4v [63,b]).2])
   rw [parse_ask h1,e1];rfl
  ·have hna:¬askL [63,b]:=fun h=>h1 (askL_iff.1 h).2
   rw [B3e h1,B3g hna hns]
   refine su ?_
   exact A0f tab [] (by exact .cell rfl ib rfl (.tmp rfl .nil)) (Back.here cntL) ⟨Y,Y⟩
 ·have hna:¬askL [a,b]:=fun h=>h0 (askL_iff.1 h).1
  rw [show(((a.toNat:Nat):Int)==63)=false from(u8_ne (d:=63) h0).1,B3g hna hns]
  refine su ?_
  exact A0f tab [] (by exact .cell rfl ib rfl (.tmp rfl .nil)) (Back.here cntL) ⟨Y,Y⟩
theorem parse5_x{a m b d c:UInt8}:Ret1 prog mn 28 [.string ⟨⟨[a,m,b,d,c]⟩⟩] (paV ⟨⟨[a,m,b,d,c]⟩⟩) v:=by
 refine A0d tab func28 Y nB (args:=[_]) ?_
 have hna:¬askL [a,m,b,d,c]:=fun h=>absurd (askL_len h) sM
 refine sw fun bx=>?_
 refine Q_op fun ho=>A_byte tab ho Y Y Y Y (show(1:Int)=((1:Nat):Int)from Y) Y (b:=m) Y ?_
 clear ho
 refine su ?_
 by_cases hm:m=62∨m=33
 rotate_left
 ·have hm1:m≠62:=fun e=>hm (.inl e)
  have hm2:m≠33:=fun e=>hm (.inr e)
  rw [show(((m.toNat:Nat):Int) != 62)=true from(u8_ne (d:=62) hm1).2,B3g hna fun h=>hm (saleL_iff.1 h).2.1]
  refine su ?_
  refine Q_op fun ho=>A_byte tab ho Y Y Y Y (show(1:Int)=((1:Nat):Int)from Y) Y (b:=m) Y ?_
  clear ho
  refine su ?_
  rw [show(((m.toNat:Nat):Int) != 33)=true from(u8_ne (d:=33) hm2).2]
  refine su ?_
  exact A0f tab [] (by exact .cell rfl ib rfl (.tmp rfl .nil)) (Back.here cntL) ⟨Y,Y⟩
 have hm':=hm
 rcases hm' with rfl|rfl
 all_goals
  refine su ?_
  try
   refine Q_op fun ho=>A_byte tab ho Y Y Y Y (show(1:Int)=((1:Nat):Int)from Y) Y (b:=33) Y ?_
   clear ho
   refine su ?_
  refine Q_op fun ho=>A_byte tab ho Y Y Y Y (show(3:Int)=((3:Nat):Int)from Y) Y (b:=d) Y ?_
  clear ho
  refine su ?_
  by_cases hd:d=58
  rotate_left
  ·rw [show(((d.toNat:Nat):Int) != 58)=true from(u8_ne (d:=58) hd).2,B3g hna fun h=>hd (saleL_iff.1 h).2.2.2.1]
   refine su ?_
   exact A0f tab [] (by exact .cell rfl ib rfl (.tmp rfl .nil)) (Back.here cntL) ⟨Y,Y⟩
  subst hd
  refine su ?_
  refine Q_op fun ho=>A_byte tab ho Y Y Y Y (show(0:Int)=((0:Nat):Int)from Y) Y (b:=a) Y ?_
  clear ho
  refine Q_op fun ho=>A0u ho bod85 Y Y Y Y Y B3f ?_
  clear ho
  by_cases ha:dg a
  rotate_left
  ·rw [B3e ha,B3g hna fun h=>ha (saleL_iff.1 h).1]
   refine su ?_
   exact A0f tab [] (by exact .cell rfl ib rfl (.tmp rfl .nil)) (Back.here cntL) ⟨Y,Y⟩
  obtain⟨ea,pa⟩:=B3d ha
  refine su ?_
  rw [show decide (digC a<0)=false from decide_eq_false oM]
  refine su ?_
  refine Q_op fun ho=>A_byte tab ho Y Y Y Y (show(2:Int)=((2:Nat):Int)from Y) Y (b:=b) Y ?_
  clear ho
  refine Q_op fun ho=>A0u ho bod85 Y Y Y Y Y B3f ?_
  clear ho
  by_cases hb:dg b
  rotate_left
  ·rw [B3e hb,B3g hna fun h=>hb (saleL_iff.1 h).2.2.1]
   refine su ?_
   exact A0f tab [] (by exact .cell rfl ib rfl (.tmp rfl .nil)) (Back.here cntL) ⟨Y,Y⟩
  obtain⟨eb,pb⟩:=B3d hb
  refine su ?_
  rw [show decide (digC b<0)=false from decide_eq_false oM]
  refine su ?_
  refine Q_op fun ho=>A_byte tab ho Y Y Y Y (show(4:Int)=((4:Nat):Int)from Y) Y (b:=c) Y ?_
  clear ho
  refine Q_op fun ho=>A0u ho bod85 Y Y Y Y Y B3f ?_
  clear ho
  by_cases hc:dg c
  rotate_left
  ·rw [B3e hc,B3g hna fun h=>hc (saleL_iff.1 h).2.2.2.2]
   refine su ?_
   exact A0f tab [] (by exact .cell rfl ib rfl (.tmp rfl .nil)) (Back.here cntL) ⟨Y,Y⟩
  obtain⟨ec,pc⟩:=B3d hc
  refine su ?_
  rw [show decide (digC c<0)=false from decide_eq_false oM]
  refine su ?_
  refine A1d [2,5,8,9,10,11] [0,1,3,4,6,7,2,5,8,9,10,11] A1e Y kR ?_
  refine su ?_
  refine S_byte tab Y Y Y kR Y Y (show(0:Int)=((0:Nat):Int)from Y) Y (b:=a) Y ?_
  refine su ?_
  refine S_byte tab Y Y Y kR Y Y (show(2:Int)=((2:Nat):Int)from Y) Y (b:=b) Y ?_
  refine su ?_
  refine S_byte tab Y Y Y kR Y Y (show(4:Int)=((4:Nat):Int)from Y) Y (b:=c) Y ?_
  refine su ?_
  refine S_tree (Sp:=spD a b c) (pre:=preD) [2,5,8,9,10] dstD dM dM (fun j hj=>?_) dM dM (fun j hj=>?_) (by repeat (first|exact trivial|(refine⟨?_,?_⟩;focus exact ib))) kR (fun j hj q hq u' hu'=>?_) (fun q hq hz=>?_)
  ·simp only [List.mem_cons,List.not_mem_nil,or_false]at hj
   rcases hj with rfl|rfl|rfl|rfl|rfl<;>rfl
  ·simp only [List.mem_cons,List.not_mem_nil,or_false]at hj
   rcases hj with rfl|rfl|rfl|rfl|rfl<;>exact⟨fun o ho=>by cases ho;rfl,rfl⟩
  ·simp only [List.mem_cons,List.not_mem_nil,or_false]at hj
   rcases hj with rfl|rfl|rfl|rfl|rfl
   ·exact A0u Y bod85 Y Y Y Y Y B3f ⟨Y,_,[],⟨Y,Y⟩,Y⟩
   ·exact A0u Y bod85 Y Y Y Y Y B3f ⟨Y,_,[],⟨Y,Y⟩,Y⟩
   ·exact A0u Y bod85 Y Y Y Y Y B3f ⟨Y,_,[],⟨Y,Y⟩,Y⟩
   ·obtain⟨e2,f2⟩:(q 2).1=intV (digC a)∧(q 2).2=[]:=hq 2 dM
    obtain⟨e5,f5⟩:(q 5).1=intV (digC b)∧(q 5).2=[]:=hq 5 dM
    obtain⟨e8,f8⟩:(q 8).1=intV (digC c)∧(q 8).2=[]:=hq 8 dM
    simp only [preD,if_true,netR,netβ,e2,e5,e8,f2,f5,f8]
    exact A_mk tab Y Y Y Y ⟨Y,_,[],⟨Y,Y⟩,Y⟩
   ·exact A8z tab Y Y Y Y (fun b=>⟨Y,_,_,⟨b,Y,Y⟩,Y⟩)
  obtain⟨e9,f9⟩:(q 9).1=(MA.mk 0 (digC a) (digC b) (digC c)).val∧(q 9).2=[]:=hq 9 dM dM
  obtain⟨b4,e10,f10⟩:∃z,(q 10).1 = .pointer (some ⟨z,0,none⟩)∧(q 10).2=[(z,(Value.agg (List.toArray [.int .i64 0,.int .i64 0,.int .i64 0,.int .i64 0])).cells,26)]:=hq 10 dM dM
  have f2:=hz 2 dM dM
  have f5:=hz 5 dM dM
  have f8:=hz 8 dM dM
  simp only [netR,netβ,e9,e10,f2,f5,f8,f9,f10]
  clear hq hz e9 e10 f2 f5 f8 f9 f10
  refine su ?_
  refine Q_op fun ho=>?_
  first
   | refine A_byte tab ho rfl rfl rfl rfl (show(1:Int)=((1:Nat):Int)from rfl) rfl (b:=62) rfl ?_
   | refine A_byte tab ho rfl rfl rfl rfl (show(1:Int)=((1:Nat):Int)from rfl) rfl (b:=33) rfl ?_
  clear ho
  refine su ?_
  refine A0f tab [] (by exact .cell rfl ib rfl (.tmp rfl .nil)) (Back.here cntL) ⟨?_,Y⟩
  show _=Value.tuple (List.toArray [(A4v _).1.val,intV (A4v _).2])
  rw [parse_sale ha hm hb hc,ea,eb,ec];rfl
theorem parseR_x{s:ByteArray}(hs:s.size<2^40):Ret1 prog mn 28 [.string s] (paV s) v:=by
 obtain⟨⟨l⟩⟩:=s
 by_cases h2:l.length=2
 ·obtain⟨a,b,rfl⟩:∃a b,l=[a,b]:=by
   match l,h2 with
   | [a,b],_=>exact⟨a,b,rfl⟩
  exact parse2_x
 by_cases h5:l.length=5
 ·obtain⟨a,m,b,d,c,rfl⟩:∃a m b d c,l=[a,m,b,d,c]:=by
   match l,h5 with
   | [a,m,b,d,c],_=>exact⟨a,m,b,d,c,rfl⟩
  exact parse5_x
 have hsz:(ByteArray.mk ⟨l⟩).size=l.length:=rfl
 rw [B3g (fun h=>h2 (askL_len h)) (fun h=>h5 (saleL_len h))]
 refine A0d tab func28 Y nB (args:=[_]) ?_
 refine sw fun bx=>?_
 rw [hsz,show(((l.length:Nat):Int)==2)=false from by rw [beq_eq_false_iff_ne];omega]
 refine su ?_
 rw [hsz,show(((l.length:Nat):Int) != 5)=true from by rw [bne_iff_ne];omega]
 refine su ?_
 exact A0f tab [] (by exact .cell rfl ib rfl (.tmp rfl .nil)) (Back.here cntL) ⟨Y,Y⟩
end
end Go.Proofs.YtclejblcnfaeaaaGreat
end
section
namespace Go.Proofs.YtclejblcnfaeaaaGreat
open Go Go.Pal Go.Pal.To Go.Conc View
open Go.Proofs.Tryz
set_option maxHeartbeats 4000000
set_option maxRecDepth 20000
theorem byte_at{s:ByteArray}{i:Nat}(h:i<s.size):∃b:UInt8,s[i]?=some b∧s.data.toList.drop i=b::s.data.toList.drop (i+1):=by
 have hl:i<s.data.toList.length:=h
 refine⟨s[i],by simp [h],?_⟩
 rw [List.drop_eq_getElem_cons hl]
 rfl
theorem take_more{l:List UInt8}{j i:Nat}{b:UInt8}{r:List UInt8}(hj:j≤i)(h:l.drop i=b::r):(l.take (i+1)).drop j=(l.take i).drop j++[b]:=by
 have hi:i<l.length:=by
  apply Classical.byContradiction
  intro hn
  rw [List.drop_eq_nil_of_le oM]at h;cases h
 have hb:l[i]=b:=by
  rw [List.drop_eq_getElem_cons hi]at h
  injection h
 rw [List.take_succ_eq_append_getElem hi,hb,List.drop_append_of_le_length (by rw [List.length_take];omega)]
theorem putV_mx{y:MA}{e:Int}:(putV (Value.agg (List.toArray [.int .i64 0,.int .i64 0,.int .i64 0,.int .i64 0])).cells.toList 0 ((List.toArray [y.val,intV e])[0]).cells.toList).toArray=y.val.cells:=rfl
structure RdS where
 i:Nat
 j:Nat
 out:List MA
 a:Option Addr
 c:Nat
 sg:A0e
theorem readR_x{mn:Who}{v:View}{s:ByteArray}(hs:s.size<2^30):CallsB prog mn 55 #[.string s] (RetB (RdAt s)) [] v:=by
 refine A0d tab func55 Y nB (args:=[_]) ?_
 refine su ?_
 refine A1q (α:=RdS) (fun z=>⟨[],[(6,.int .i64 z.i),(5,.int .i64 z.j),(4,.slice z.a z.out.length z.c),(0,.string s)],z.sg⟩)
  (fun z u=>u=v∧z.j≤z.i∧z.i≤s.size∧z.out.length≤z.j∧OwnS 26 4 z.sg z.a z.out.length z.c (z.out.map MA.cells).flatten∧readL s.data.toList=B3c z.out (A3c ((s.data.toList.take z.i).drop z.j) (s.data.toList.drop z.i))) (fun z=>s.size-z.i)
  ⟨0,0,[],none,0,[]⟩ ⟨Y,rg,cntL⟩ (Le.refl _) ⟨Y,Nat.le_refl _,Nat.zero_le _,Nat.le_refl _,.nil,by rw [readQ_start];rfl⟩ ?_
 rintro⟨i,j,out,a,c,sg⟩ u ⟨rfl,hji,hi,hol,hO,hq⟩
 dsimp only at hji hi hol hO hq⊢
 refine su ?_
 refine A1i Y (fun h=>?_) (fun h=>?_)
 ·have hli:i<s.size:=by have:=of_decide_eq_true h;omega
  clear h
  obtain⟨b,hb,hd⟩:=byte_at hli
  have htm:=take_more hji hd
  rw [hd]at hq
  refine su ?_
  refine Q_op fun ho=>A_byte tab ho Y Y Y Y Y Y hb ?_
  clear ho
  refine su ?_
  by_cases h10:b=10
  ·subst h10
   have hx:(s.extract j i).data.toList=(s.data.toList.take i).drop j:=B0l
   refine su ?_
   refine Q_op fun ho=>A_sliceS tab ho Y Y Y Y Y Y hji hi ?_
   clear ho
   obtain⟨⟨y,e⟩,hpr⟩:∃pr,pr=A4v ((s.data.toList.take i).drop j):=⟨_,rfl⟩
   have hP:Ret1 prog mn 28 [.string (s.extract j i)] (.tuple (List.toArray [(A4v ((s.data.toList.take i).drop j)).1.val,intV (A4v ((s.data.toList.take i).drop j)).2])) u:=by
    rw [←hx];exact parseR_x (by rw [ByteArray.size_extract];omega)
   have hbad:=@readQ_bad out ((s.data.toList.take i).drop j) (s.data.toList.drop (i+1))
   have hline:=@readQ_line out ((s.data.toList.take i).drop j) (s.data.toList.drop (i+1))
   have hnx:(s.data.toList.take (i+1)).drop (i+1)=[]:=by rw [List.drop_eq_nil_of_le];rw [List.length_take];omega
   have hpe:=parse_err ((s.data.toList.take i).drop j)
   rw [←hpr]at hP hbad hline hpe
   dsimp only at hP hbad hline hpe
   refine Q_op fun ho=>A0u ho bod28 Y Y Y Y Y hP ?_
   clear ho hP
   refine sw fun bx=>?_
   by_cases he:e=0
   ·subst he
    rw [hline rfl]at hq
    refine su ?_
    rw [putV_mx]
    refine Q_op fun ho=>A3w tab ho Y Y Y Y Y Y Y Y Y (fun b3 c3 hL=>?_)
    clear ho
    refine Q_op fun ho=>A3x tab (xs:=y.cells) sg [(b3,c3,26)] [(bx,y.val.cells,26)] ho Y Y Y Y Y Y Y Y Y Y cntA hO
     (fun hb=>RowAt.own hb cntL hL) Y Y (by show(2*(out.length+1)+768)*32≤2^48;omega) oM (fun sg' a' cap' hS'=>?_)
    clear ho
    refine su ?_
    refine A0b ⟨⟨i+1,i+1,out++[y],a',cap',sg'⟩,_,by dsimp only;omega,⟨Y,?_,cntL⟩,Le.refl _,Y,Nat.le_refl _,hli,by dsimp only;rw [List.length_append];simp;omega,?_,?_⟩
    ·dsimp only
     rw [List.length_append]
     exact rg
    ·dsimp only
     simp only [List.map_append,List.map_cons,List.map_nil,List.flatten_append,List.flatten_cons,List.flatten_nil,List.append_nil,List.length_append,List.length_singleton]
     exact hS'
    ·dsimp only
     rw [hnx];exact hq
   ·rw [show(e != 0)=true from by simpa using he]
    obtain rfl:e=2:=by have h3:=hpe.resolve_left he;injection h3
    rw [hbad he]at hq
    refine su ?_
    refine A0f tab [] (by exact .tmp rfl (.tmp rfl .nil)) (Back.here cntL) ?_
    exact⟨none,0,by rw [hq];rfl,by rw [hq];exact .nil⟩
  ·rw [show(((b.toNat:Nat):Int) != 10)=true from(u8_ne (d:=10) h10).2]
   refine su ?_
   refine A0b ⟨⟨i+1,j,out,a,c,sg⟩,_,by dsimp only;omega,⟨Y,rg,cntL⟩,Le.refl _,Y,by dsimp only;omega,hli,hol,hO,?_⟩
   dsimp only
   rw [htm,hq,readQ_char h10]
 ·have hin:i=s.size:=by have:=of_decide_eq_false h;omega
  clear h
  have hq2:=hq
  have hd0:s.data.toList.drop i=[]:=List.drop_eq_nil_of_le (by rw [hin];exact Nat.le_refl _)
  rw [hd0,readQ_end]at hq2
  have hcur:((s.data.toList.take i).drop j).length=i-j:=by rw [List.length_drop,List.length_take,hin];show min s.size s.size-j=_;omega
  refine su ?_
  by_cases hj:j<s.size
  ·rw [show decide (((j:Nat):Int)<((s.size:Nat):Int))=true from decide_eq_true oM]
   rw [if_pos fun e=>by rw [e]at hcur;simp at hcur;omega]at hq2
   refine su ?_
   refine A0f tab [] (by exact .tmp rfl (.tmp rfl .nil)) (Back.here cntL) ?_
   exact⟨none,0,by rw [hq2];rfl,by rw [hq2];exact .nil⟩
  ·rw [show decide (((j:Nat):Int)<((s.size:Nat):Int))=false from decide_eq_false oM]
   rw [if_neg fun e=>e (List.eq_nil_of_length_eq_zero oM)]at hq2
   refine su ?_
   by_cases h8:out.length > 8
   ·rw [if_pos h8]at hq2
    rw [show decide (((out.length:Nat):Int) > 8)=true from decide_eq_true oM]
    refine su ?_
    refine A0f tab [] (by exact .tmp rfl (.tmp rfl .nil)) (Back.here cntL) ?_
    exact⟨none,0,by rw [hq2];rfl,by rw [hq2];exact .nil⟩
   ·rw [if_neg h8]at hq2
    rw [show decide (((out.length:Nat):Int) > 8)=false from decide_eq_false oM]
    refine su ?_
    refine A0f tab sg (by exact .tmp rfl (.tmp rfl .nil)) (Back.here cntL) ?_
    exact⟨a,c,by rw [hq2];rfl,by rw [hq2];exact hO⟩
end Go.Proofs.YtclejblcnfaeaaaGreat
end
section
namespace Go.Pal.To
def B3h(acc:ByteArray):List MA→Int×ByteArray
 | []=>(0,acc)
 | x::l=>if(B1c x).1=0 then B3h (acc++(B1c x).2++⟨#[10]⟩) l else((B1c x).1,⟨#[]⟩)
def textN(l:List MA):Int×ByteArray:=if l.length > 8 then(10,⟨#[]⟩)else B3h ⟨#[]⟩ l
theorem textGo_step{acc:ByteArray}{l:List MA}{i:Nat}(h:i<l.length)(e:(B1c l[i]).1=0):B3h acc (l.drop i)=B3h (acc++(B1c l[i]).2++⟨#[10]⟩) (l.drop (i+1)):=by
 rw [List.drop_eq_getElem_cons h]
 show(if _ then _ else _)=_
 rw [if_pos e]
theorem textGo_bad{acc:ByteArray}{l:List MA}{i:Nat}(h:i<l.length)(e:(B1c l[i]).1≠0):B3h acc (l.drop i)=((B1c l[i]).1,⟨#[]⟩):=by
 rw [List.drop_eq_getElem_cons h]
 show(if _ then _ else _)=_
 rw [if_neg e]
theorem lineB_sz{x:MA}:(lineB x).size≤14:=by
 have:=A1b x.a
 have:=A1b x.b
 have:=A1b x.h
 unfold lineB
 split
 ·simp only [ByteArray.size_append,sz1];omega
 ·split
  ·simp only [ByteArray.size_append,sz1];omega
  ·simp only [ByteArray.size_append,sz1];omega
theorem writeN_sz{x:MA}:(B1c x).2.size≤14:=by
 unfold B1c
 split
 ·exact Nat.zero_le _
 ·split
  ·exact Nat.zero_le _
  ·exact lineB_sz
def kitGo(acc:ByteArray):List MA→ByteArray
 | []=>acc
 | x::l=>kitGo (acc++lineB x++⟨#[10]⟩) l
theorem kitGo_step{acc:ByteArray}{l:List MA}{i:Nat}(h:i<l.length):kitGo acc (l.drop i)=kitGo (acc++lineB l[i]++⟨#[10]⟩) (l.drop (i+1)):=by
 rw [List.drop_eq_getElem_cons h];rfl
theorem kitGo_size:∀(l:List MA) (acc:ByteArray),(kitGo acc l).size≤acc.size+15*l.length
 | [],acc=>Nat.le_refl _
 | x::l,acc=>by
  have h:=kitGo_size l (acc++lineB x++⟨#[10]⟩)
  have h1:=@lineB_sz x
  have h2:(acc++lineB x++(⟨#[10]⟩:ByteArray)).size=acc.size+(lineB x).size+1:=by rw [ByteArray.size_append,ByteArray.size_append];rfl
  show(kitGo (acc++lineB x++⟨#[10]⟩) l).size≤_
  rw [List.length_cons]
  omega
end Go.Pal.To
end
section
namespace Go.Proofs.YtclejblcnfaeaaaGreat
open Go Go.Pal Go.Pal.To Go.Conc View
open Go.Proofs.Tryz
set_option maxHeartbeats 4000000
set_option maxRecDepth 20000
abbrev txV(l:List MA):Value:=.tuple (List.toArray [.string (textN l).2,intV (textN l).1])
theorem textR_x{mn:Who}{v:View}{a:Option Addr}{c:Nat}{l:List MA}(hA:ActsAt v a l)(hl:l.length<2^40):Ret1 prog mn 57 [.slice a l.length c] (txV l) v:=by
 refine A0d tab func57 Y nB (args:=[_]) ?_
 refine su ?_
 by_cases h8:l.length > 8
 ·rw [show decide (((l.length:Nat):Int) > 8)=true from decide_eq_true oM]
  refine su ?_
  refine A0f tab [] (by exact .tmp rfl (.tmp rfl .nil)) (Back.here cntL) ⟨?_,Y⟩
  unfold txV textN
  rw [if_pos h8];rfl
 rw [show decide (((l.length:Nat):Int) > 8)=false from decide_eq_false oM]
 have hT:textN l=B3h ⟨#[]⟩ l:=by unfold textN;rw [if_neg h8]
 refine su ?_
 refine A1q (α:=Nat×ByteArray) (fun z=>⟨[],[(5,.int .i64 z.1),(4,.string z.2),(0,.slice a l.length c)],[]⟩)
  (fun z u=>u=v∧z.1≤l.length∧z.2.size≤15*z.1∧textN l=B3h z.2 (l.drop z.1)) (fun z=>l.length-z.1) (0,⟨#[]⟩) ⟨Y,rg,cntL⟩ (Le.refl _) ⟨Y,Nat.zero_le _,Nat.le_refl _,hT⟩ ?_
 rintro⟨i,acc⟩ u ⟨rfl,hi,hz,hq⟩
 dsimp only at hi hz hq⊢
 refine su ?_
 refine A1i Y (fun h=>?_) (fun h=>?_)
 ·have hli:i<l.length:=by have:=of_decide_eq_true h;omega
  clear h
  obtain⟨b1,off1,p1,c1,e1,f1,rfl,hv1,hc1⟩:=hA.get hli
  replace hc1:=hc1 _ hli
  have hst:=@textGo_step acc l i hli
  have hbd:=@textGo_bad acc l i hli
  have hsz:=@writeN_sz l[i]
  have hW:Ret1 prog mn 30 [l[i].val] (.tuple (List.toArray [.string (B1c l[i]).2,intV (B1c l[i]).1])) u:=writeR_x
  generalize l[i]=x at *
  obtain⟨⟨e,w⟩,hw⟩:∃y,y=B1c x:=⟨_,rfl⟩
  rw [←hw]at hst hbd hsz hW
  dsimp only at hst hbd hsz hW
  refine su ?_
  refine A6d tab i Y Y Y Y Y Y Y hli ?_
  refine A2b tab Y Y Y hv1 (A1g tab (x:=x.cells) Y Y Y hc1) ?_
  refine Q_op fun ho=>A0u ho bod30 Y Y Y Y Y hW ?_
  clear ho hW
  refine su ?_
  by_cases he:e=0
  ·subst he
   refine su ?_
   refine Q_op fun ho=>A_sadd ho Y Y Y Y oM ?_
   clear ho
   refine Q_op fun ho=>A_sadd ho Y Y Y Y (by rw [ByteArray.size_append];show _+1<_;omega) ?_
   clear ho
   refine su ?_
   refine A0b ⟨(i+1,acc++w++⟨#[10]⟩),_,by dsimp only;omega,⟨Y,rg,cntL⟩,Le.refl _,Y,hli,?_,?_⟩
   ·dsimp only
    rw [ByteArray.size_append,ByteArray.size_append]
    show _+1≤_
    omega
   ·dsimp only
    rw [hq,hst rfl]
  ·rw [show(e != 0)=true from by simpa using he]
   refine su ?_
   refine A0f tab [] (by exact .tmp rfl (.tmp rfl .nil)) (Back.here cntL) ⟨?_,Y⟩
   unfold txV
   rw [hq,hbd he];rfl
 ·have hin:i=l.length:=by have:=of_decide_eq_false h;omega
  clear h
  subst hin
  rw [List.drop_length]at hq
  refine su ?_
  refine A0f tab [] (by exact .tmp rfl (.tmp rfl .nil)) (Back.here cntL) ⟨?_,Y⟩
  unfold txV
  rw [hq];rfl
end Go.Proofs.YtclejblcnfaeaaaGreat
end
section
namespace Go.Proofs.YtclejblcnfaeaaaGreat
open Go Go.Pal Go.Pal.To Go.Conc View
open Go.Proofs.Tryz
open Go.Proofs.YtclejblcnfaeaaaGreat.W (lexL)
set_option maxHeartbeats 4000000
set_option maxRecDepth 20000
section
variable{mn:Who}{v:View}
theorem B2s{n:Int}(h:¬outZ n 0 9):Ret1 prog mn 52 [intV n] (.string (chrB n)) v:=by
 have h9:0≤n∧n≤9:=by unfold outZ at h;omega
 obtain⟨k,rfl⟩:=Int.eq_ofNat_of_zero_le h9.1
 exact digitK_x oM
theorem lineK_x{x:MA}(hk:x.k=0∨x.k=1∨x.k=2)(h1:¬outZ x.a 0 9)(h2:¬outZ x.b 0 9)(h3:¬outZ x.h 0 9):Ret1 prog mn 25 [x.val] (.string (lineB x)) v:=by
 obtain⟨k,a,b,n⟩:=x
 simp only at hk h1 h2 h3
 refine A0d tab func25 Y nB (args:=[_]) ?_
 refine sw fun bx=>?_
 refine Q_op fun ho=>A0u ho bod52 Y Y Y Y Y (B2s h3) ?_
 clear ho
 rcases hk with rfl|rfl|rfl
 ·refine su ?_
  refine lexL A1e Y kR ?_
  refine su ?_
  refine A2w bod52 Y Y Y Y Y (B2s h1) ?_
  refine B0o Y Y Y Y (by simp only [ByteArray.size_append,sz1];have:=A1b a;have:=A1b b;have:=A1b n;omega) ?_
  refine su ?_
  refine A2w bod52 Y Y Y Y Y (B2s h2) ?_
  refine B0o Y Y Y Y (by simp only [ByteArray.size_append,sz1];have:=A1b a;have:=A1b b;have:=A1b n;omega) ?_
  refine B0o Y Y Y Y (by simp only [ByteArray.size_append,sz1];have:=A1b a;have:=A1b b;have:=A1b n;omega) ?_
  refine su ?_
  refine B0o Y Y Y Y (by simp only [ByteArray.size_append,sz1];have:=A1b a;have:=A1b b;have:=A1b n;omega) ?_
  refine su ?_
  refine A0f tab [] (by exact .tmp rfl .nil) (Back.here cntL) ?_
  exact⟨Y,Y⟩
 ·refine su ?_
  refine Q_op fun ho=>A_sadd ho Y Y Y Y (by simp only [sz1];have:=A1b n;omega) ?_
  clear ho
  refine su ?_
  refine A0f tab [] (by exact .tmp rfl .nil) (Back.here cntL) ?_
  exact⟨Y,Y⟩
 ·refine su ?_
  refine lexL A1e Y kR ?_
  refine su ?_
  refine A2w bod52 Y Y Y Y Y (B2s h1) ?_
  refine B0o Y Y Y Y (by simp only [ByteArray.size_append,sz1];have:=A1b a;have:=A1b b;have:=A1b n;omega) ?_
  refine su ?_
  refine A2w bod52 Y Y Y Y Y (B2s h2) ?_
  refine B0o Y Y Y Y (by simp only [ByteArray.size_append,sz1];have:=A1b a;have:=A1b b;have:=A1b n;omega) ?_
  refine B0o Y Y Y Y (by simp only [ByteArray.size_append,sz1];have:=A1b a;have:=A1b b;have:=A1b n;omega) ?_
  refine su ?_
  refine B0o Y Y Y Y (by simp only [ByteArray.size_append,sz1];have:=A1b a;have:=A1b b;have:=A1b n;omega) ?_
  refine su ?_
  refine A0f tab [] (by exact .tmp rfl .nil) (Back.here cntL) ?_
  exact⟨Y,Y⟩
def marB(s:ByteArray)(at' how:Int)(b:UInt8):ByteArray:=
 if s.size=0 then⟨#[b]⟩else
  let n:=((at'.tmod s.size+s.size).tmod s.size).toNat
  let k:=(how.tmod 3+3).tmod 3
  if k=0 then s.extract 0 n++⟨#[b]⟩++s.extract (n+1) s.size else if k=1 then s.extract 0 n++s.extract (n+1) s.size else s.extract 0 n++⟨#[b]⟩++s.extract n s.size
theorem B2t(x:Int){n:Int}(h:0<n):-n<x.tmod n∧x.tmod n<n:=by
 refine⟨?_,Int.tmod_lt_of_pos x h⟩
 have:=Int.tmod_lt_of_pos (-x) h
 rw [Int.neg_tmod]at this
 omega
theorem marB_size{s:ByteArray}{at' how:Int}{b:UInt8}:(marB s at' how b).size≤s.size+1:=by
 unfold marB
 by_cases h0:s.size=0
 ·rw [if_pos h0];show 1≤_;omega
 rw [if_neg h0]
 have:=B2t at' (n:=s.size) oM
 have h2:=B2t (at'.tmod s.size+s.size) (n:=s.size) oM
 dsimp only
 generalize ((at'.tmod s.size+s.size).tmod s.size)=z at *
 split
 ·simp only [ByteArray.size_append,ByteArray.size_extract,sz1];omega
 ·split
  ·simp only [ByteArray.size_append,ByteArray.size_extract];omega
  ·simp only [ByteArray.size_append,ByteArray.size_extract,sz1];omega
theorem marK_x{s:ByteArray}{at' how:Int}{b:UInt8}(hs:s.size<2^40):Ret1 prog mn 26 [.string s,intV at',intV how,.int .u8 b.toNat] (.string (marB s at' how b)) v:=by
 refine A0d tab func26 Y nB (args:=[_,_,_,_]) ?_
 refine su ?_
 refine Q_op fun ho=>A3w tab ho Y Y Y Y Y Y Y Y Y (fun b3 c3 hL=>?_)
 clear ho
 refine Q_op fun ho=>A_byteStr tab (c:=b) ho Y Y Y Y Y Y (fun hb=>RowAt.own hb cntL hL) ?_
 clear ho
 refine su ?_
 by_cases h0:s.size=0
 ·obtain rfl:s=⟨#[]⟩:=bytes_eq (by
   have:s.data.toList.length=0:=by simpa using h0
   rw [List.length_eq_zero_iff.1 this])
  rw [beq_self_eq_true]
  refine su ?_
  refine A0f tab [] (by exact .tmp rfl .nil) (Back.here cntL) ?_
  exact⟨Y,Y⟩
 have hne:s≠⟨#[]⟩:=fun e=>h0 (by rw [e];rfl)
 rw [string_ne ⟨#[]⟩ hne]
 have h1:=B2t at' (n:=s.size) oM
 have h2:=B2t (at'.tmod s.size+s.size) (n:=s.size) oM
 have h3:=B2t how (n:=3) dM
 have h4:=Int.tmod_nonneg (3:Int) (show 0≤how.tmod 3+3 by omega)
 have h5:=Int.tmod_lt_of_pos (how.tmod 3+3) (show(0:Int)<3 by decide)
 have h6:=Int.tmod_nonneg (s.size:Int) (show 0≤at'.tmod s.size+s.size by omega)
 refine su ?_
 refine Q_bin tab (.int .i64 (at'.tmod s.size)) Y Y Y Y (by simp only [A6c,if_true];rw [if_neg oM]) ?_
 refine su ?_
 refine Q_bin tab (.int .i64 ((at'.tmod s.size+s.size).tmod s.size)) Y Y Y Y (by simp only [A6c,if_true];rw [if_neg oM]) ?_
 have hm:marB s at' how b=(if(how.tmod 3+3).tmod 3=0 then s.extract 0 ((at'.tmod s.size+s.size).tmod s.size).toNat++⟨#[b]⟩++s.extract (((at'.tmod s.size+s.size).tmod s.size).toNat+1) s.size else if(how.tmod 3+3).tmod 3=1 then s.extract 0 ((at'.tmod s.size+s.size).tmod s.size).toNat++s.extract (((at'.tmod s.size+s.size).tmod s.size).toNat+1) s.size else s.extract 0 ((at'.tmod s.size+s.size).tmod s.size).toNat++⟨#[b]⟩++s.extract ((at'.tmod s.size+s.size).tmod s.size).toNat s.size):=by
  unfold marB
  rw [if_neg h0]
 generalize marB s at' how b=r at hm
 generalize (at'.tmod s.size+s.size).tmod s.size=z at *
 obtain⟨N,rfl⟩:=Int.eq_ofNat_of_zero_le h6
 rw [Int.toNat_natCast]at hm
 refine su ?_
 generalize (how.tmod 3+3).tmod 3=k at *
 rcases (by omega:k=0∨k=1∨k=2)with rfl|rfl|rfl
 ·refine su ?_
  refine lexL A1e Y kR ?_
  refine su ?_
  refine L_sliceS_h tab Y Y Y Y Y oM ?_
  refine su ?_
  refine B0o Y Y Y Y (by simp only [ByteArray.size_append,ByteArray.size_extract,sz1];omega) ?_
  refine su ?_
  refine L_sliceS_l tab Y Y Y Y (show _=some (Value.int .i64 ((N+1:Nat):Int))from Y) oM ?_
  refine su ?_
  refine B0o Y Y Y Y (by simp only [ByteArray.size_append,ByteArray.size_extract,sz1];omega) ?_
  refine su ?_
  refine A0f tab [] (by exact .tmp rfl .nil) (Back.here cntL) ?_
  exact⟨by rw [hm];rfl,Y⟩
 ·refine su ?_
  refine lexL A1e Y kR ?_
  refine su ?_
  refine L_sliceS_h tab Y Y Y Y Y oM ?_
  refine su ?_
  refine L_sliceS_l tab Y Y Y Y (show _=some (Value.int .i64 ((N+1:Nat):Int))from Y) oM ?_
  refine su ?_
  refine B0o Y Y Y Y (by simp only [ByteArray.size_append,ByteArray.size_extract,sz1];omega) ?_
  refine su ?_
  refine A0f tab [] (by exact .tmp rfl .nil) (Back.here cntL) ?_
  exact⟨by rw [hm];rfl,Y⟩
 ·refine su ?_
  refine lexL A1e Y kR ?_
  refine su ?_
  refine L_sliceS_h tab Y Y Y Y Y oM ?_
  refine su ?_
  refine B0o Y Y Y Y (by simp only [ByteArray.size_append,ByteArray.size_extract,sz1];omega) ?_
  refine su ?_
  refine L_sliceS_l tab Y Y Y Y Y oM ?_
  refine su ?_
  refine B0o Y Y Y Y (by simp only [ByteArray.size_append,ByteArray.size_extract,sz1];omega) ?_
  refine su ?_
  refine A0f tab [] (by exact .tmp rfl .nil) (Back.here cntL) ?_
  exact⟨by rw [hm];rfl,Y⟩
end
end Go.Proofs.YtclejblcnfaeaaaGreat
end
section
namespace Go.Proofs.YtclejblcnfaeaaaGreat
open Go Go.Pal Go.Pal.To Go.Conc View
open Go.Proofs.Tryz
set_option maxHeartbeats 4000000
set_option maxRecDepth 20000
def Fig(x:MA):Prop:=(x.k=0∨x.k=1∨x.k=2)∧¬outZ x.a 0 9∧¬outZ x.b 0 9∧¬outZ x.h 0 9
theorem textK_x{mn:Who}{v:View}{a:Option Addr}{c:Nat}{l:List MA}(hA:ActsAt v a l)(hl:l.length<2^40)(hF:∀x∈l,Fig x):Ret1 prog mn 53 [.slice a l.length c] (.string (kitGo ⟨#[]⟩ l)) v:=by
 refine A0d tab func53 Y nB (args:=[_]) ?_
 refine su ?_
 refine A1q (α:=Nat×ByteArray) (fun z=>⟨[],[(4,.int .i64 z.1),(3,.string z.2),(0,.slice a l.length c)],[]⟩)
  (fun z u=>u=v∧z.1≤l.length∧z.2.size≤15*z.1∧kitGo ⟨#[]⟩ l=kitGo z.2 (l.drop z.1)) (fun z=>l.length-z.1) (0,⟨#[]⟩) ⟨Y,rg,cntL⟩ (Le.refl _) ⟨Y,Nat.zero_le _,Nat.le_refl _,Y⟩ ?_
 rintro⟨i,acc⟩ u ⟨rfl,hi,hz,hq⟩
 dsimp only at hi hz hq⊢
 refine su ?_
 refine A1i Y (fun h=>?_) (fun h=>?_)
 ·have hli:i<l.length:=by have:=of_decide_eq_true h;omega
  clear h
  obtain⟨b1,off1,p1,c1,e1,f1,rfl,hv1,hc1⟩:=hA.get hli
  replace hc1:=hc1 _ hli
  have hst:=@kitGo_step acc l i hli
  obtain⟨k0,k1,k2,k3⟩:=hF _ (List.getElem_mem hli)
  have hsz:=@lineB_sz l[i]
  generalize l[i]=x at *
  refine su ?_
  refine A6d tab i Y Y Y Y Y Y Y hli ?_
  refine A2b tab Y Y Y hv1 (A1g tab (x:=x.cells) Y Y Y hc1) ?_
  refine Q_op fun ho=>A0u ho bod25 Y Y Y Y Y (lineK_x (x:=x) k0 k1 k2 k3) ?_
  clear ho
  refine Q_op fun ho=>A_sadd ho Y Y Y Y oM ?_
  clear ho
  refine Q_op fun ho=>A_sadd ho Y Y Y Y (by rw [ByteArray.size_append];show _+1<_;omega) ?_
  clear ho
  refine su ?_
  refine A0b ⟨(i+1,acc++lineB x++⟨#[10]⟩),_,by dsimp only;omega,⟨Y,rg,cntL⟩,Le.refl _,Y,hli,?_,?_⟩
  ·dsimp only
   rw [ByteArray.size_append,ByteArray.size_append]
   show _+1≤_
   omega
  ·dsimp only
   rw [hq,hst]
 ·have hin:i=l.length:=by have:=of_decide_eq_false h;omega
  clear h
  subst hin
  rw [List.drop_length]at hq
  refine su ?_
  refine A0f tab [] (by exact .tmp rfl .nil) (Back.here cntL) ?_
  exact⟨by rw [hq];rfl,Y⟩
end Go.Proofs.YtclejblcnfaeaaaGreat
end
section
namespace Go.Pal
open Go Go.Conc View
def strV(s:ByteArray):List Value:=s.data.toList.map fun b=>.int .u8 (b.toNat:Int)
section
variable{P:Program}{mn:Who}(T:Tab P){E:Value→View→Prop}
theorem strV_len{s:ByteArray}:(strV s).length=s.size:=by simp [strV]
omit T in
theorem B2u{K:Array Value→View→Prop}{w:View}{k n:Nat}{s:ByteArray}(hsn:s.size=n)(hk:K (strV s).toArray w):SemX P (Builtin.firstCells k n (.string s)) K E w:=by
 subst hsn
 have e:((s.extract 0 s.size).data.map fun b:UInt8=>Value.int .u8 (b.toNat:Int))=(strV s).toArray:=by
  rw [show s.extract 0 s.size=s from by simp]
  apply Array.ext'
  simp [strV]
 rw [←e]at hk
 exact hk
theorem sx_appendS_new{K:Value→View→Prop}{w:View}{t t' ty e:TypeId}{s:ByteArray}{k by_ n len cap:Nat}{z:Value}{base:Option Addr}{old xs:List Value}(ht:T.und t=some (.slice e))(hsn:s.size=n)(ht':T.und t'=some .string)(hs:T.siz e=some k)(hby:T.byt e=some by_)
  (hz:T.zer e=some z)(hzs:z.cells.size=k)(ho:RowAt w base old)(hol:old.length=len*k)(hxs:xs=strV s)(hxl:xs.length=n*k)(hc:cap<len+n)(hb:(2*(len+n)+768)*by_≤2^48)(hp:0<by_)
  (h:∀(r cap':Nat) (c:Array Value),w r=none→len+n≤cap'→c.size=cap'*k→(∀(i:Nat) (x:Value),(old++xs)[i]?=some x→c[i]?=some x)→K (.slice (some ⟨r,0,none⟩) (len+n) cap') (w.set r true (.cells c e (0,0)))) :
  SemX P (Builtin.append_ #[t,t'] ty #[.slice base len cap,.string s]) K E w:=by
 have hnc:=B1u hc
 have hle:Builtin.nextslicecap (len+n) cap*by_≤2^48:=Nat.le_trans (Nat.mul_le_mul_right _ hnc) hb
 have hneed:len+n≤2^48:=by
  have:(2*(len+n)+768)*1≤(2*(len+n)+768)*by_:=Nat.mul_le_mul_left _ hp
  omega
 unfold Builtin.append_
 simp only [show(#[t,t']:Array TypeId)[0]?=some t from Y,show(#[t,t']:Array TypeId)[1]?=some t' from Y,show ∀x y:Value,(#[x,y]:Array Value)[0]?=some x from fun _ _=>rfl,show ∀x y:Value,(#[x,y]:Array Value)[1]?=some y from fun _ _=>rfl,A0a,A1k T ht,A1k T ht',A4f T hs,A0h]
 simp only [Bool.false_eq_true,if_false,Builtin.lenOf,hsn,A0a,A0h]
 rw [if_neg oM,A0a]
 refine tx_info T hby fun i hi=>?_
 rw [hi]
 rw [if_neg (by
  rintro⟨h1,_⟩
  have:IntKind.i64.max=9223372036854775807:=rfl
  omega),A0a]
 refine tx_info T hby fun i hi=>?_
 rw [hi,if_neg oM,A0a,choose,SemX,if_neg (by simp [Question.forced])]
 intro tp
 simp only [SemX]
 rw [A0a]
 refine tx_info T hby fun i hi=>?_
 rw [A0a]
 have rest:∀{K':Unit→View→Prop},K' () w→∀b,SemX P (askRoom b) K' E w:=by
  intro K' hK b
  unfold askRoom
  split
  ·exact⟨trivial,hK⟩
  ·exact hK
 refine rest ?_ _
 rw [A0a]
 refine A3r ho hol ?_
 rw [A0a]
 have happ:∀{K':Array Value→View→Prop},K' xs.toArray w→SemX P (if(!false)=true then Builtin.firstCells k n (.string s)else if n*k=0 then pure #[]else do pure (Builtin.zeroCells (←zeroValue e).cells n)) K' E w:=fun hK=>by
  simp only [Bool.not_false,if_true];exact(by rw [hxs]at hK;exact B2u hsn hK)
 refine happ ?_
 rw [A0a,A8b T hz,A0a]
 unfold newRow
 simp only [A0a,A8d,A0h]
 intro r hr
 have hcap:len+n≤(Question.appendCap (len+n) cap e).cut tp:=by simp [Question.cut]
 refine h r _ _ hr hcap ?_ ?_
 ·simp only [Array.size_append,List.size_toArray,A7q,hol,hxl,hzs]
  rw [←Nat.add_mul,←Nat.add_mul]
  congr 1
  omega
 ·intro i x hi
  have h0:i<(old++xs).length:=(List.getElem?_eq_some_iff.1 hi).1
  simp only [List.length_append]at h0
  rw [Array.getElem?_append_left (by simp;omega)]
  rw [←hi]
  simp
theorem sx_appendS_in{K:Value→View→Prop}{w:View}{t t' ty e e'':TypeId}{s:ByteArray}{k n len cap b off:Nat}{xs:List Value}{c:Array Value}(ht:T.und t=some (.slice e))(hsn:s.size=n)(ht':T.und t'=some .string)(hs:T.siz e=some k)
  (hxs:xs=strV s)(hxl:xs.length=n*k)(hc:len+n≤cap)(hone:xs.all A2k=true)(hw:w b=some (true,.cells c e'' (0,0)))(hoff:off+len*k+xs.length≤c.size)
  (h:K (.slice (some ⟨b,off,none⟩) (len+n) cap) (w.set b true (.cells (A0z c (off+len*k) xs) e'' (0,0)))) :
  SemX P (Builtin.append_ #[t,t'] ty #[.slice (some ⟨b,off,none⟩) len cap,.string s]) K E w:=by
 unfold Builtin.append_
 simp only [show(#[t,t']:Array TypeId)[0]?=some t from Y,show(#[t,t']:Array TypeId)[1]?=some t' from Y,show ∀x y:Value,(#[x,y]:Array Value)[0]?=some x from fun _ _=>rfl,show ∀x y:Value,(#[x,y]:Array Value)[1]?=some y from fun _ _=>rfl,A0a,A1k T ht,A1k T ht',A4f T hs,A0h]
 simp only [Bool.false_eq_true,if_false,Builtin.lenOf,hsn,A0a,A0h]
 rw [if_pos hc,A0a]
 have happ:∀{K':Array Value→View→Prop},K' xs.toArray w→SemX P (if(!false)=true then Builtin.firstCells k n (.string s)else if n*k=0 then pure #[]else do pure (Builtin.zeroCells (←zeroValue e).cells n)) K' E w:=fun hK=>by
  simp only [Bool.not_false,if_true];exact(by rw [hxs]at hK;exact B2u hsn hK)
 refine happ ?_
 rw [A0a,A5n]
 refine A3q (e:=e'') (c:=c) hone hw (by simpa using hoff) ?_
 exact h
end
section
variable{P:Program}{mn:Who}(T:Tab P){rd:Option Nat}{n:Nat}{Q:Exit→St→View→Prop}{ds:List Deferred}{ρ:Regs}{β:A0e}{v:View}
 {ops:Array Oper}{i:Nat}{K:St→View→Prop}{o:Oper}
theorem Op_appendS{t t' e:TypeId}{s:ByteArray}{k by_ m len cap:Nat}{y y2:Operand}{z:Value}{a:Option Addr}{cs xs:List Value}{seg:A0e}(rest drop:A0e)(ho:ops[i]?=some o)(hw:A4s ops o ρ=some true)(hn:A2p n o.dst=true)
  (hop:o.op = .call {callee:=.builtin .append,args:=#[y,y2],argTypes:=#[t,t'] })(hy:ρ.val y=some (.slice a len cap))(hy2:ρ.val y2=some (.string s))
  (ht:T.und t=some (.slice e))(hsn:s.size=m)(ht':T.und t'=some .string)(hs:T.siz e=some k)(hby:T.byt e=some by_)(hz:T.zer e=some z)(hzs:z.cells.size=k)
  (hsplit:∀p,cnt p β=cnt p (seg++(drop++rest)))(hS:OwnS e k seg a len cap cs)(hx:xs=strV s)(hxl:xs.length=m*k)(hone:xs.all A2k=true)
  (hb:(2*(len+m)+768)*by_≤2^48)(hp:0<by_)
  (h:∀seg' a' cap',OwnS e k seg' a' (len+m) cap' (cs++xs)→K ⟨ds,putR o.dst (.slice a' (len+m) cap') ρ,seg'++rest⟩ v):XOp P mn rd n ops i Q K ⟨ds,ρ,β⟩ v:=by
 refine A1w ho hw (.inr (by rw [hop];rfl)) hn fun ev hev hbk=>?_
 obtain⟨dst,op,ty,pos,af,gu⟩:=o
 simp only at hop
 subst hop
 obtain⟨hb1,he⟩:=A3v (A2e hsplit) hbk
 obtain⟨hb2,hb3⟩:=bok_append.1 hb1
 have hview:=A0v hb1
 rw [he]at hview
 show SemX P (execOp ev ⟨dst,_,ty,pos,af,gu⟩) _ _ (v.union (A0c β))
 rw [hview]
 have hlex:(v.union (A0c (drop++rest))).Le ((v.union (A0c (drop++rest))).union (A0c seg)):=A0g _ _
 have hx':=hx
 simp only [execOp,resolve,show(#[y,y2]:Array Operand).map ev=#[ev y,ev y2]from by simp,hev _ _ hy,hev _ _ hy2,A0a,A0h,invoke,builtin]
 have hdrop:Subm (seg++rest) (seg++(drop++rest)):=fun p=>by simp only [A0n];omega
 -- the new block
 have grown:cap<len+m→RowAt ((v.union (A0c (drop++rest))).union (A0c seg)) a cs→cs.length=len*k→SemX P (Builtin.append_ #[t,t'] ty #[.slice a len cap,.string s]) (fun x w=>∃β' u,(Bok β' u∧(u.union (A0c β')).Le w)∧K ⟨ds,putR dst x ρ,β'⟩ u) (fun x w=>∃β' u,(Bok β' u∧(u.union (A0c β')).Le w)∧Q (.panic [{v:=x,recovered:=false }]) ⟨ds,ρ,β'⟩ u) ((v.union (A0c (drop++rest))).union (A0c seg)):=by
  intro hcap hrow hlen
  refine sx_appendS_new T ht hsn ht' hs hby hz hzs hrow hlen hx' hxl hcap hb hp fun r cap' c hr hc1 hc2 hc3=>?_
  have hbr:Bok rest v:=(bok_append.1 hb2).1
  have hr':(v.union (A0c rest)) r=none:=by
   cases hh:(v.union (A0c rest)) r with
   | none=>rfl
   | some x=>
    have h1:=(A5k (β:=seg++(drop++rest)) (τ:=rest) (fun p=>by simp only [A0n];omega) hb1).2 _ _ hh
    rw [←hview,←he,h1]at hr
    cases hr
  obtain⟨h5,h6⟩:=A7m (c:=c) (t:=e) hbr hr'
  refine⟨(r,c,e)::rest,v,⟨h5,h6.trans ?_⟩,h [(r,c,e)] (some ⟨r,0,none⟩) cap' (.box (by rw [List.length_append,hlen,hxl,Nat.add_mul]) hc1 hc2 hc3)⟩
  intro j x hj
  unfold View.set at hj⊢
  split
  ·rename_i hjr;rw [if_pos hjr]at hj;exact hj
  ·rename_i hjr
   rw [if_neg hjr]at hj
   have h1:=(A5k (β:=seg++(drop++rest)) (τ:=rest) (fun p=>by simp only [A0n];omega) hb1).2 _ _ hj
   rw [←hview,←he];exact h1
 cases hS with
 | nil=>
  by_cases hm:m=0
  ·subst hm
   have hxs:xs=[]:=by simpa using hxl
   subst hxs
   -- nothing to nothing
   unfold Builtin.append_
   simp only [show(#[t,t']:Array TypeId)[0]?=some t from Y,show(#[t,t']:Array TypeId)[1]?=some t' from Y,show ∀x y:Value,(#[x,y]:Array Value)[0]?=some x from fun _ _=>rfl,show ∀x y:Value,(#[x,y]:Array Value)[1]?=some y from fun _ _=>rfl,A0a,A1k T ht,A1k T ht',A4f T hs,A0h]
   simp only [Bool.false_eq_true,if_false,Builtin.lenOf,hsn,A0a,A0h]
   rw [if_pos (Nat.le_refl _),A0a]
   simp only [Bool.not_false,if_true]
   refine B2u hsn ?_
   simp only [A0h]
   obtain⟨h5,h6⟩:=A5k (β:=[]++(drop++rest)) (τ:=[]++rest) hdrop hb1
   exact⟨[]++rest,v,⟨h5,by rw [←hview,←he];exact h6⟩,h [] none 0 .nil⟩
  ·exact grown oM (.inl Y) sM
 | @box b c _ _ _ h1 h2 h3 h4=>
  have hbv:((v.union (A0c (drop++rest))).union (A0c [(b,c,e)])) b=some (true,.cells c e (0,0)):=A1l hb3.disj _ _ (by simp [A0c])
  by_cases hcap:len+m≤cap
  ·have hsz:len*k+xs.length≤c.size:=by
    rw [h3,hxl,←Nat.add_mul];exact Nat.mul_le_mul_right _ hcap
   refine sx_appendS_in T (e'':=e) ht hsn ht' hs hx' hxl hcap hone hbv (by simpa using hsz) ?_
   have hset:SetB b (A0z c (0+len*k) xs) ([(b,c,e)]++(drop++rest)) ([(b,A0z c (0+len*k) xs,e)]++(drop++rest)):=.head
   have hbk':=A8r hb1 hset.keys
   obtain⟨_,c₀,t₀,hin,hv⟩:=A8g hb1 hset
   have hcc:t₀=e:=by
    have q1:=A0q (v:=v) hb1 hin
    have q2:=A0q (v:=v) hb1 (InB.head (b:=b) (c:=c) (t:=e) (r:=drop++rest))
    have q3:some (true,Obj.cells c₀ t₀)=some (true,Obj.cells c e):=by rw [←q1];exact q2
    simp only [Option.some.injEq,Prod.mk.injEq,Obj.cells.injEq]at q3
    exact q3.2.2.1
   subst hcc
   obtain⟨h5,h6⟩:=A5k (β:=[(b,A0z c (0+len*k) xs,t₀)]++(drop++rest)) (τ:=[(b,A0z c (0+len*k) xs,t₀)]++rest) (fun p=>by simp only [A0n,A3u];omega) hbk'
   refine⟨[(b,A0z c (0+len*k) xs,t₀)]++rest,v,⟨h5,h6.trans ?_⟩,h [(b,A0z c (0+len*k) xs,t₀)] (some ⟨b,0,none⟩) cap (.box (by rw [List.length_append,h1,hxl,Nat.add_mul]) hcap (by rw [A3l,h3]) ?_)⟩
   ·rw [hv,←A0v hb1]
    exact Le.refl _
   ·intro j x hj
    rw [A9b (by simpa using hsz)]
    have hj0:j<(cs++xs).length:=(List.getElem?_eq_some_iff.1 hj).1
    simp only [List.length_append]at hj0
    by_cases hjl:j<cs.length
    ·rw [if_neg oM]
     rw [List.getElem?_append_left hjl]at hj
     exact h4 j x hj
    ·rw [if_pos oM]
     rw [List.getElem?_append_right oM]at hj
     rw [←hj]
     congr 1
     omega
  ·refine grown oM (OwnS.row (.box (e:=e) h1 h2 h3 h4) |>.le ?_) h1
   intro j x hj
   exact A1l hb3.disj _ _ hj
end
theorem lies_whole{P:Program}{e:TypeId}{k m n:Nat}(hd:P.depth≠0)(h1:P.cellsOf e=k)(hk:k≠0)(h:n≤m / k):liesAt P P.depth e (m / P.cellsOf e) 0 e n=true:=by
 obtain⟨d,hd⟩:=Nat.exists_eq_succ_of_ne_zero hd
 have hs:sameLayout P P.depth e e=true:=by rw [hd];unfold sameLayout;simp
 have hr:rowAt P (sameLayout P P.depth · e) P.depth e (m / P.cellsOf e) 0 n=true:=by
  rw [h1]
  generalize hg:(fun t=>sameLayout P P.depth t e)=g
  have hge:g e=true:=by rw [←hg];exact hs
  rw [hd]
  unfold rowAt
  simp only [h1,if_neg hk,Nat.zero_div,Nat.zero_mod,Nat.zero_add]
  simp [hge,h]
 generalize hg:P.depth=q at *
 subst hd
 unfold liesAt
 rw [hg,hr];rfl
section
variable{P:Program}{mn:Who}(T:Tab P){rd:Option Nat}{n:Nat}{Q:Exit→St→View→Prop}{ds:List Deferred}{ρ:Regs}{β:A0e}{v:View}{K:St→View→Prop}
 {ops:Array Oper}{i:Nat}{d:Nat}{ty:TypeId}{pos:String}{af:Array Edge}{gu:Option (Nat×Bool)}
theorem A_appendS{t t' e:TypeId}{s:ByteArray}{k by_ m len cap:Nat}{y y2:Operand}{z:Value}{a:Option Addr}{cs xs:List Value}(seg drop rest:A0e)(ho:ops[i]?=some ⟨some d,.call {callee:=.builtin .append,args:=#[y,y2],argTypes:=#[t,t'] },ty,pos,af,gu⟩)(hw:A0p ops gu ρ=some true)(hn:Nat.blt d n=true)
  (hy:ρ.val y=some (.slice a len cap))(hy2:ρ.val y2=some (.string s))
  (ht:T.und t=some (.slice e))(hsn:s.size=m)(ht':T.und t'=some .string)(hs:T.siz e=some k)(hby:T.byt e=some by_)(hz:T.zer e=some z)(hzs:z.cells.size=k)
  (hsplit:∀p,cnt p β=cnt p (seg++(drop++rest)))(hS:OwnS e k seg a len cap cs)(hx:xs=strV s)(hxl:xs.length=m*k)(hone:xs.all A2k=true)
  (hb:(2*(len+m)+768)*by_≤2^48)(hp:0<by_)
  (h:∀seg' a' cap',OwnS e k seg' a' (len+m) cap' (cs++xs)→K ⟨ds,(d,.slice a' (len+m) cap')::ρ,seg'++rest⟩ v):XOp P mn rd n ops i Q K ⟨ds,ρ,β⟩ v:=
 Op_appendS T rest drop ho (A0j hw) hn rfl hy hy2 ht hsn ht' hs hby hz hzs hsplit hS hx hxl hone hb hp h
include T in
theorem sx_equal_same{E:Value→View→Prop}{w:View}{t e:TypeId}{a:Addr}{k:Nat}{K:Bool→View→Prop}(ht:T.und t=some (.pointer e))(hs:T.siz e=some (k+1))(h:K true w):SemX P (Op.equal t (.pointer (some a)) (.pointer (some a))) K E w:=by
 unfold Op.equal Op.maxDepth
 rw [show(10000:Nat)=9999+1 from Y,Op.equalIn,A0a,A1k T ht]
 simp only [A0a,A4f T hs]
 rw [if_pos oM]
 unfold sameAddr
 simp only [beq_self_eq_true,if_true]
 exact h
theorem A_ptrSame{t e:TypeId}{t':TypeId}{y z:Operand}{a:Addr}{k:Nat}(ho:ops[i]?=some ⟨some d,.binOp .neq t y z t',ty,pos,af,gu⟩)(hw:A0p ops gu ρ=some true)(hn:Nat.blt d n=true)
  (hy:ρ.val y=some (.pointer (some a)))(hz:ρ.val z=some (.pointer (some a)))(ht:T.und t=some (.pointer e))(hs:T.siz e=some (k+1))
  (h:K ⟨ds,(d,.bool false)::ρ,β⟩ v):XOp P mn rd n ops i Q K ⟨ds,ρ,β⟩ v:=by
 refine A1w ho (A0j hw) (.inr Y) hn fun ev hev hbk=>?_
 have heq:eqGuard .neq t y z (.pointer (some a)) (.pointer (some a))=pure ():=rfl
 simp only [execOp,hev _ _ hy,hev _ _ hz,A0a,heq,A0h,binOp]
 refine sx_equal_same T ht hs ?_
 exact⟨β,v,⟨hbk,Le.refl _⟩,h⟩
omit T in
theorem sx_seen{E:Value→View→Prop}{w:View}{a:Addr}{p:Bool}{c:Array Value}{e:TypeId}{f:Nat×Nat}{K:Addr→View→Prop}(hw:w a.block=some (p,.cells c e f))(h:K a w):SemX P (Conv.seenAt a) K E w:=by
 unfold Conv.seenAt viewAt
 simp only [A0a]
 exact⟨_,_,hw,h⟩
theorem A_toUnsafe{t1 t2 e tb:TypeId}{y:Operand}{b:Nat}{c:Array Value}{k:Nat}(ho:ops[i]?=some ⟨some d,.convert t1 t2 y,ty,pos,af,gu⟩)(hw:A0p ops gu ρ=some true)(hn:Nat.blt d n=true)
  (hy:ρ.val y=some (.pointer (some ⟨b,0,none⟩)))(h1:T.und t1=some (.pointer e))(h2:T.und t2=some .unsafePointer)(hs:T.siz e=some (k+1))(hin:InB b c tb β)(hc:0<c.size)
  (h:K ⟨ds,(d,.pointer (some ⟨b,0,none⟩))::ρ,β⟩ v):XOp P mn rd n ops i Q K ⟨ds,ρ,β⟩ v:=by
 refine A1w ho (A0j hw) (.inr Y) hn fun ev hev hbk=>?_
 have hv:=A0q (v:=v) hbk hin
 simp only [execOp,A0a,hev _ _ hy,convert,A1k T h1,A1k T h2,Conv.unsafePointer]
 refine sx_seen (a:=⟨b,0,none⟩) hv ?_
 unfold cellsIn
 simp only [A0a]
 refine⟨_,_,hv,?_⟩
 simp only [shapeOf,A0a,A0h,A4f T hs]
 show SemX P (if(decide (k+1=0)||(decide (0≥c.size)&&(none:Option (List Nat)).isNone))=true then _ else _) _ _ _
 rw [if_neg (by rw [decide_eq_false (show ¬k+1=0 by omega),decide_eq_false (show ¬0≥c.size by omega)];exact Bool.false_ne_true)]
 exact⟨β,v,⟨hbk,Le.refl _⟩,h⟩
theorem A_fromUnsafe{t1 t2 e:TypeId}{y:Operand}{b:Nat}{c:Array Value}{k:Nat}(ho:ops[i]?=some ⟨some d,.convert t1 t2 y,ty,pos,af,gu⟩)(hw:A0p ops gu ρ=some true)(hn:Nat.blt d n=true)
  (hy:ρ.val y=some (.pointer (some ⟨b,0,none⟩)))(h1:T.und t1=some .unsafePointer)(h2:T.und t2=some (.pointer e))(hs:T.siz e=some (k+1))(hin:InB b c e β)(hc:c.size=k+1)(hd:P.depth≠0)(h3:P.cellsOf e=k+1)
  (h:K ⟨ds,(d,.pointer (some ⟨b,0,none⟩))::ρ,β⟩ v):XOp P mn rd n ops i Q K ⟨ds,ρ,β⟩ v:=by
 refine A1w ho (A0j hw) (.inr Y) hn fun ev hev hbk=>?_
 have hv:=A0q (v:=v) hbk hin
 simp only [execOp,A0a,hev _ _ hy,convert,A1k T h1,A1k T h2,Conv.unsafePointer]
 refine sx_seen (a:=⟨b,0,none⟩) hv ?_
 unfold variablesAt
 simp only [A0a,A4f T hs,A1s]
 refine⟨_,_,hv,?_⟩
 simp only [shapeOf,A0h]
 show SemX P (if(decide (k+1=0)||liesAt P P.depth e (c.size / P.cellsOf e) 0 e 1)=true then _ else _) _ _ _
 rw [lies_whole hd h3 oM (by rw [hc,Nat.div_self oM];exact Nat.le_refl _),if_pos sM]
 exact⟨β,v,⟨hbk,Le.refl _⟩,h⟩
theorem A_sliceData{t:TypeId}{y:Operand}{a:Addr}{len cap:Nat}(ho:ops[i]?=some ⟨some d,.call {callee:=.builtin .unsafeSliceData,args:=#[y],argTypes:=#[t] },ty,pos,af,gu⟩)(hw:A0p ops gu ρ=some true)(hn:Nat.blt d n=true)
  (hy:ρ.val y=some (.slice (some a) len cap))(hc:cap≠0)
  (h:K ⟨ds,(d,.pointer (some a))::ρ,β⟩ v):XOp P mn rd n ops i Q K ⟨ds,ρ,β⟩ v:=by
 refine A1w ho (A0j hw) (.inr Y) hn fun ev hev hbk=>?_
 simp only [execOp,resolve,show(#[y]:Array Operand).map ev=#[ev y]from by simp,hev _ _ hy,A0a,A0h,invoke,builtin]
 show SemX P (if cap≠0 then _ else _) _ _ _
 rw [if_pos hc]
 exact⟨β,v,⟨hbk,Le.refl _⟩,h⟩
theorem A_sliceData0{t:TypeId}{y:Operand}{len cap:Nat}(ho:ops[i]?=some ⟨some d,.call {callee:=.builtin .unsafeSliceData,args:=#[y],argTypes:=#[t] },ty,pos,af,gu⟩)(hw:A0p ops gu ρ=some true)(hn:Nat.blt d n=true)
  (hy:ρ.val y=some (.slice none len cap))
  (h:K ⟨ds,(d,.pointer none)::ρ,β⟩ v):XOp P mn rd n ops i Q K ⟨ds,ρ,β⟩ v:=by
 refine A1w ho (A0j hw) (.inr Y) hn fun ev hev hbk=>?_
 simp only [execOp,resolve,show(#[y]:Array Operand).map ev=#[ev y]from by simp,hev _ _ hy,A0a,A0h,invoke,builtin]
 exact⟨β,v,⟨hbk,Le.refl _⟩,h⟩
theorem A_string0{t t2:TypeId}{y z:Operand}{p:Option Addr}(ho:ops[i]?=some ⟨some d,.call {callee:=.builtin .unsafeString,args:=#[y,z],argTypes:=#[t,t2] },ty,pos,af,gu⟩)(hw:A0p ops gu ρ=some true)(hn:Nat.blt d n=true)
  (hy:ρ.val y=some (.pointer p))(hz:ρ.val z=some (.int .i64 0))
  (h:K ⟨ds,(d,.string ⟨#[]⟩)::ρ,β⟩ v):XOp P mn rd n ops i Q K ⟨ds,ρ,β⟩ v:=by
 refine A1w ho (A0j hw) (.inr Y) hn fun ev hev hbk=>?_
 simp only [execOp,resolve,show(#[y,z]:Array Operand).map ev=#[ev y,ev z]from by simp,hev _ _ hy,hev _ _ hz,A0a,A0h,invoke,builtin]
 cases p<;>exact⟨β,v,⟨hbk,Le.refl _⟩,h⟩
end
end Go.Pal
end
