/- 'palfreylaw12.TollChecks' returns true for every argument, whatever the goroutines of its calls do, and the arguments read as they did, as its row says it. No condition. -/
import Derived.Conc.Holds
import Derived.Conc.LeavingOf
import Derived.Handed
import Derived.JoinedOf
import Derived.OpenShut
import Derived.ProofKit
import Derived.WalkKit
import Derived.Test.YtclejblcnfaeaaaGreatQchecksa
set_option linter.all false
section
namespace Go.Proofs.YtclejblcnfaeaaaGreat
open Go Go.Pal Go.Pal.To Go.Conc View
open Go.Proofs.Tryz
open Go.Proofs.YtclejblcnfaeaaaGreat.W (lexL)
set_option maxHeartbeats 4000000
set_option maxRecDepth 20000
section
variable{mn:Who}{v:View}
def dstD(i:Nat):Nat:=bif Nat.beq i 10 then 4 else i+60
def preD(i:Nat):List Nat:=if i=9 then [2,5,8]else []
def spD(a b c:UInt8):Nat→Value→A0e→Prop
 | 2,y,β=>y=intV (digC a)∧β=[]
 | 5,y,β=>y=intV (digC b)∧β=[]
 | 8,y,β=>y=intV (digC c)∧β=[]
 | 9,y,β=>y=(MA.mk 0 (digC a) (digC b) (digC c)).val∧β=[]
 | _,y,β=>∃q,y = .pointer (some ⟨q,0,none⟩)∧β=[(q,(Value.agg (List.toArray [.int .i64 0,.int .i64 0,.int .i64 0,.int .i64 0])).cells,26)]
theorem B2s{l:List UInt8}(h1:¬askL l)(h2:¬saleL l):paV ⟨⟨l⟩⟩ = .tuple (List.toArray [(MA.mk 0 0 0 0).val,intV 2]):=by
 show Value.tuple (List.toArray [(A4v l).1.val,intV (A4v l).2])=_
 rw [parse_no h1 h2]
theorem u8_ne{c d:UInt8}(h:c≠d):(((c.toNat:Nat):Int)==((d.toNat:Nat):Int))=false∧(((c.toNat:Nat):Int) != ((d.toNat:Nat):Int))=true:=by
 have:((c.toNat:Nat):Int)≠((d.toNat:Nat):Int):=fun e=>h (u8_eq oM)
 exact⟨beq_eq_false_iff_ne.2 this,bne_iff_ne.2 this⟩
theorem askL_iff{a b:UInt8}:askL [a,b]↔a=63∧dg b:=by
 unfold askL
 constructor
 ·rintro⟨c,hc,e⟩
  simp only [List.cons.injEq,and_true]at e
  obtain⟨rfl,rfl⟩:=e
  exact⟨Y,hc⟩
 ·rintro⟨rfl,hb⟩;exact⟨b,hb,rfl⟩
theorem saleL_iff{a m b d c:UInt8}:saleL [a,m,b,d,c]↔dg a∧(m=62∨m=33)∧dg b∧d=58∧dg c:=by
 unfold saleL
 constructor
 ·rintro⟨a',m',b',c',h1,h2,h3,h4,e⟩
  simp only [List.cons.injEq,and_true]at e
  obtain⟨rfl,rfl,rfl,rfl,rfl⟩:=e
  exact⟨h1,h2,h3,Y,h4⟩
 ·rintro⟨h1,h2,h3,rfl,h4⟩;exact⟨a,m,b,c,h1,h2,h3,h4,rfl⟩
theorem askL_len{l:List UInt8}(h:askL l):l.length=2:=by obtain⟨c,_,rfl⟩:=h;rfl
theorem saleL_len{l:List UInt8}(h:saleL l):l.length=5:=by obtain⟨a,m,b,c,_,_,_,_,rfl⟩:=h;rfl
theorem parse2_x{a b:UInt8}:Ret1 prog mn 28 [.string ⟨⟨[a,b]⟩⟩] (paV ⟨⟨[a,b]⟩⟩) v:=by
 refine A0d tab func28 Y nB (args:=[_]) ?_
 have hns:¬saleL [a,b]:=fun h=>absurd (saleL_len h) sM
 refine sw fun bx=>?_
 refine Q_op fun ho=>A_byte tab ho Y Y Y Y (show(0:Int)=((0:Nat):Int)from Y) Y (b:=a) Y ?_
 clear ho
 refine su ?_
 by_cases h0:a=63
 ·subst h0
  refine su ?_
  refine Q_op fun ho=>A_byte tab ho Y Y Y Y (show(1:Int)=((1:Nat):Int)from Y) Y (b:=b) Y ?_
  clear ho
  refine Q_op fun ho=>A0u ho bod85 Y Y Y Y Y digitR_x ?_
  clear ho
  by_cases h1:dg b
  ·obtain⟨e1,e2⟩:=digC_pos h1
   refine su ?_
   rw [show decide (digC b≥0)=true from decide_eq_true e2]
   refine su ?_
   refine Q_op fun ho=>A_byte tab ho Y Y Y Y (show(1:Int)=((1:Nat):Int)from Y) Y (b:=b) Y ?_
   clear ho
   refine Q_op fun ho=>A0u ho bod85 Y Y Y Y Y digitR_x ?_
   clear ho
   refine su ?_
   refine A0f tab [] (by exact .cell rfl ib rfl (.tmp rfl .nil)) (Back.here cntL) ⟨?_,Y⟩
   show _=Value.tuple (List.toArray [(A4v [63,b]).1.val,intV (A4v [63,b]).2])
   rw [parse_ask h1,e1];rfl
  ·have hna:¬askL [63,b]:=fun h=>h1 (askL_iff.1 h).2
   rw [digC_neg h1,B2s hna hns]
   refine su ?_
   exact A0f tab [] (by exact .cell rfl ib rfl (.tmp rfl .nil)) (Back.here cntL) ⟨Y,Y⟩
 ·have hna:¬askL [a,b]:=fun h=>h0 (askL_iff.1 h).1
  rw [show(((a.toNat:Nat):Int)==63)=false from(u8_ne (d:=63) h0).1,B2s hna hns]
  refine su ?_
  exact A0f tab [] (by exact .cell rfl ib rfl (.tmp rfl .nil)) (Back.here cntL) ⟨Y,Y⟩
theorem parse5_x{a m b d c:UInt8}:Ret1 prog mn 28 [.string ⟨⟨[a,m,b,d,c]⟩⟩] (paV ⟨⟨[a,m,b,d,c]⟩⟩) v:=by
 refine A0d tab func28 Y nB (args:=[_]) ?_
 have hna:¬askL [a,m,b,d,c]:=fun h=>absurd (askL_len h) sM
 refine sw fun bx=>?_
 refine Q_op fun ho=>A_byte tab ho Y Y Y Y (show(1:Int)=((1:Nat):Int)from Y) Y (b:=m) Y ?_
 clear ho
 refine su ?_
 by_cases hm:m=62∨m=33
 rotate_left
 ·have hm1:m≠62:=fun e=>hm (.inl e)
  have hm2:m≠33:=fun e=>hm (.inr e)
  rw [show(((m.toNat:Nat):Int) != 62)=true from(u8_ne (d:=62) hm1).2,B2s hna fun h=>hm (saleL_iff.1 h).2.1]
  refine su ?_
  refine Q_op fun ho=>A_byte tab ho Y Y Y Y (show(1:Int)=((1:Nat):Int)from Y) Y (b:=m) Y ?_
  clear ho
  refine su ?_
  rw [show(((m.toNat:Nat):Int) != 33)=true from(u8_ne (d:=33) hm2).2]
  refine su ?_
  exact A0f tab [] (by exact .cell rfl ib rfl (.tmp rfl .nil)) (Back.here cntL) ⟨Y,Y⟩
 have hm':=hm
 rcases hm' with rfl|rfl
 all_goals
  refine su ?_
  try
   refine Q_op fun ho=>A_byte tab ho Y Y Y Y (show(1:Int)=((1:Nat):Int)from Y) Y (b:=33) Y ?_
   clear ho
   refine su ?_
  refine Q_op fun ho=>A_byte tab ho Y Y Y Y (show(3:Int)=((3:Nat):Int)from Y) Y (b:=d) Y ?_
  clear ho
  refine su ?_
  by_cases hd:d=58
  rotate_left
  ·rw [show(((d.toNat:Nat):Int) != 58)=true from(u8_ne (d:=58) hd).2,B2s hna fun h=>hd (saleL_iff.1 h).2.2.2.1]
   refine su ?_
   exact A0f tab [] (by exact .cell rfl ib rfl (.tmp rfl .nil)) (Back.here cntL) ⟨Y,Y⟩
  subst hd
  refine su ?_
  refine Q_op fun ho=>A_byte tab ho Y Y Y Y (show(0:Int)=((0:Nat):Int)from Y) Y (b:=a) Y ?_
  clear ho
  refine Q_op fun ho=>A0u ho bod85 Y Y Y Y Y digitR_x ?_
  clear ho
  by_cases ha:dg a
  rotate_left
  ·rw [digC_neg ha,B2s hna fun h=>ha (saleL_iff.1 h).1]
   refine su ?_
   exact A0f tab [] (by exact .cell rfl ib rfl (.tmp rfl .nil)) (Back.here cntL) ⟨Y,Y⟩
  obtain⟨ea,pa⟩:=digC_pos ha
  refine su ?_
  rw [show decide (digC a<0)=false from decide_eq_false oM]
  refine su ?_
  refine Q_op fun ho=>A_byte tab ho Y Y Y Y (show(2:Int)=((2:Nat):Int)from Y) Y (b:=b) Y ?_
  clear ho
  refine Q_op fun ho=>A0u ho bod85 Y Y Y Y Y digitR_x ?_
  clear ho
  by_cases hb:dg b
  rotate_left
  ·rw [digC_neg hb,B2s hna fun h=>hb (saleL_iff.1 h).2.2.1]
   refine su ?_
   exact A0f tab [] (by exact .cell rfl ib rfl (.tmp rfl .nil)) (Back.here cntL) ⟨Y,Y⟩
  obtain⟨eb,pb⟩:=digC_pos hb
  refine su ?_
  rw [show decide (digC b<0)=false from decide_eq_false oM]
  refine su ?_
  refine Q_op fun ho=>A_byte tab ho Y Y Y Y (show(4:Int)=((4:Nat):Int)from Y) Y (b:=c) Y ?_
  clear ho
  refine Q_op fun ho=>A0u ho bod85 Y Y Y Y Y digitR_x ?_
  clear ho
  by_cases hc:dg c
  rotate_left
  ·rw [digC_neg hc,B2s hna fun h=>hc (saleL_iff.1 h).2.2.2.2]
   refine su ?_
   exact A0f tab [] (by exact .cell rfl ib rfl (.tmp rfl .nil)) (Back.here cntL) ⟨Y,Y⟩
  obtain⟨ec,pc⟩:=digC_pos hc
  refine su ?_
  rw [show decide (digC c<0)=false from decide_eq_false oM]
  refine su ?_
  refine A1d [2,5,8,9,10,11] [0,1,3,4,6,7,2,5,8,9,10,11] A1e Y kR ?_
  refine su ?_
  refine S_byte tab Y Y Y kR Y Y (show(0:Int)=((0:Nat):Int)from Y) Y (b:=a) Y ?_
  refine su ?_
  refine S_byte tab Y Y Y kR Y Y (show(2:Int)=((2:Nat):Int)from Y) Y (b:=b) Y ?_
  refine su ?_
  refine S_byte tab Y Y Y kR Y Y (show(4:Int)=((4:Nat):Int)from Y) Y (b:=c) Y ?_
  refine su ?_
  refine S_tree (Sp:=spD a b c) (pre:=preD) [2,5,8,9,10] dstD dM dM (fun j hj=>?_) dM dM (fun j hj=>?_) (by repeat (first|exact trivial|(refine⟨?_,?_⟩;focus exact ib))) kR (fun j hj q hq u' hu'=>?_) (fun q hq hz=>?_)
  ·simp only [List.mem_cons,List.not_mem_nil,or_false]at hj
   rcases hj with rfl|rfl|rfl|rfl|rfl<;>rfl
  ·simp only [List.mem_cons,List.not_mem_nil,or_false]at hj
   rcases hj with rfl|rfl|rfl|rfl|rfl<;>exact⟨fun o ho=>by cases ho;rfl,rfl⟩
  ·simp only [List.mem_cons,List.not_mem_nil,or_false]at hj
   rcases hj with rfl|rfl|rfl|rfl|rfl
   ·exact A0u Y bod85 Y Y Y Y Y digitR_x ⟨Y,_,[],⟨Y,Y⟩,Y⟩
   ·exact A0u Y bod85 Y Y Y Y Y digitR_x ⟨Y,_,[],⟨Y,Y⟩,Y⟩
   ·exact A0u Y bod85 Y Y Y Y Y digitR_x ⟨Y,_,[],⟨Y,Y⟩,Y⟩
   ·obtain⟨e2,f2⟩:(q 2).1=intV (digC a)∧(q 2).2=[]:=hq 2 dM
    obtain⟨e5,f5⟩:(q 5).1=intV (digC b)∧(q 5).2=[]:=hq 5 dM
    obtain⟨e8,f8⟩:(q 8).1=intV (digC c)∧(q 8).2=[]:=hq 8 dM
    simp only [preD,if_true,netR,netβ,e2,e5,e8,f2,f5,f8]
    exact A_mk tab Y Y Y Y ⟨Y,_,[],⟨Y,Y⟩,Y⟩
   ·exact A8z tab Y Y Y Y (fun b=>⟨Y,_,_,⟨b,Y,Y⟩,Y⟩)
  obtain⟨e9,f9⟩:(q 9).1=(MA.mk 0 (digC a) (digC b) (digC c)).val∧(q 9).2=[]:=hq 9 dM dM
  obtain⟨b4,e10,f10⟩:∃z,(q 10).1 = .pointer (some ⟨z,0,none⟩)∧(q 10).2=[(z,(Value.agg (List.toArray [.int .i64 0,.int .i64 0,.int .i64 0,.int .i64 0])).cells,26)]:=hq 10 dM dM
  have f2:=hz 2 dM dM
  have f5:=hz 5 dM dM
  have f8:=hz 8 dM dM
  simp only [netR,netβ,e9,e10,f2,f5,f8,f9,f10]
  clear hq hz e9 e10 f2 f5 f8 f9 f10
  refine su ?_
  refine Q_op fun ho=>?_
  first
   | refine A_byte tab ho rfl rfl rfl rfl (show(1:Int)=((1:Nat):Int)from rfl) rfl (b:=62) rfl ?_
   | refine A_byte tab ho rfl rfl rfl rfl (show(1:Int)=((1:Nat):Int)from rfl) rfl (b:=33) rfl ?_
  clear ho
  refine su ?_
  refine A0f tab [] (by exact .cell rfl ib rfl (.tmp rfl .nil)) (Back.here cntL) ⟨?_,Y⟩
  show _=Value.tuple (List.toArray [(A4v _).1.val,intV (A4v _).2])
  rw [parse_sale ha hm hb hc,ea,eb,ec];rfl
theorem parseR_x{s:ByteArray}(hs:s.size<2^40):Ret1 prog mn 28 [.string s] (paV s) v:=by
 obtain⟨⟨l⟩⟩:=s
 by_cases h2:l.length=2
 ·obtain⟨a,b,rfl⟩:∃a b,l=[a,b]:=by
   match l,h2 with
   | [a,b],_=>exact⟨a,b,rfl⟩
  exact parse2_x
 by_cases h5:l.length=5
 ·obtain⟨a,m,b,d,c,rfl⟩:∃a m b d c,l=[a,m,b,d,c]:=by
   match l,h5 with
   | [a,m,b,d,c],_=>exact⟨a,m,b,d,c,rfl⟩
  exact parse5_x
 have hsz:(ByteArray.mk ⟨l⟩).size=l.length:=rfl
 rw [B2s (fun h=>h2 (askL_len h)) (fun h=>h5 (saleL_len h))]
 refine A0d tab func28 Y nB (args:=[_]) ?_
 refine sw fun bx=>?_
 rw [hsz,show(((l.length:Nat):Int)==2)=false from by rw [beq_eq_false_iff_ne];omega]
 refine su ?_
 rw [hsz,show(((l.length:Nat):Int) != 5)=true from by rw [bne_iff_ne];omega]
 refine su ?_
 exact A0f tab [] (by exact .cell rfl ib rfl (.tmp rfl .nil)) (Back.here cntL) ⟨Y,Y⟩
end
section
variable{mn:Who}{v:View}
theorem B2t{n:Int}(h:¬outZ n 0 9):Ret1 prog mn 52 [intV n] (.string (chrB n)) v:=by
 have h9:0≤n∧n≤9:=by unfold outZ at h;omega
 obtain⟨k,rfl⟩:=Int.eq_ofNat_of_zero_le h9.1
 exact digitK_x oM
theorem lineK_x{x:MA}(hk:x.k=0∨x.k=1∨x.k=2)(h1:¬outZ x.a 0 9)(h2:¬outZ x.b 0 9)(h3:¬outZ x.h 0 9):Ret1 prog mn 25 [x.val] (.string (lineB x)) v:=by
 obtain⟨k,a,b,n⟩:=x
 simp only at hk h1 h2 h3
 refine A0d tab func25 Y nB (args:=[_]) ?_
 refine sw fun bx=>?_
 refine Q_op fun ho=>A0u ho bod52 Y Y Y Y Y (B2t h3) ?_
 clear ho
 rcases hk with rfl|rfl|rfl
 ·refine su ?_
  refine lexL A1e Y kR ?_
  refine su ?_
  refine A2w bod52 Y Y Y Y Y (B2t h1) ?_
  refine B0o Y Y Y Y (by simp only [ByteArray.size_append,sz1];have:=A1b a;have:=A1b b;have:=A1b n;omega) ?_
  refine su ?_
  refine A2w bod52 Y Y Y Y Y (B2t h2) ?_
  refine B0o Y Y Y Y (by simp only [ByteArray.size_append,sz1];have:=A1b a;have:=A1b b;have:=A1b n;omega) ?_
  refine B0o Y Y Y Y (by simp only [ByteArray.size_append,sz1];have:=A1b a;have:=A1b b;have:=A1b n;omega) ?_
  refine su ?_
  refine B0o Y Y Y Y (by simp only [ByteArray.size_append,sz1];have:=A1b a;have:=A1b b;have:=A1b n;omega) ?_
  refine su ?_
  refine A0f tab [] (by exact .tmp rfl .nil) (Back.here cntL) ?_
  exact⟨Y,Y⟩
 ·refine su ?_
  refine Q_op fun ho=>A_sadd ho Y Y Y Y (by simp only [sz1];have:=A1b n;omega) ?_
  clear ho
  refine su ?_
  refine A0f tab [] (by exact .tmp rfl .nil) (Back.here cntL) ?_
  exact⟨Y,Y⟩
 ·refine su ?_
  refine lexL A1e Y kR ?_
  refine su ?_
  refine A2w bod52 Y Y Y Y Y (B2t h1) ?_
  refine B0o Y Y Y Y (by simp only [ByteArray.size_append,sz1];have:=A1b a;have:=A1b b;have:=A1b n;omega) ?_
  refine su ?_
  refine A2w bod52 Y Y Y Y Y (B2t h2) ?_
  refine B0o Y Y Y Y (by simp only [ByteArray.size_append,sz1];have:=A1b a;have:=A1b b;have:=A1b n;omega) ?_
  refine B0o Y Y Y Y (by simp only [ByteArray.size_append,sz1];have:=A1b a;have:=A1b b;have:=A1b n;omega) ?_
  refine su ?_
  refine B0o Y Y Y Y (by simp only [ByteArray.size_append,sz1];have:=A1b a;have:=A1b b;have:=A1b n;omega) ?_
  refine su ?_
  refine A0f tab [] (by exact .tmp rfl .nil) (Back.here cntL) ?_
  exact⟨Y,Y⟩
def marB(s:ByteArray)(at' how:Int)(b:UInt8):ByteArray:=
 if s.size=0 then⟨#[b]⟩else
  let n:=((at'.tmod s.size+s.size).tmod s.size).toNat
  let k:=(how.tmod 3+3).tmod 3
  if k=0 then s.extract 0 n++⟨#[b]⟩++s.extract (n+1) s.size else if k=1 then s.extract 0 n++s.extract (n+1) s.size else s.extract 0 n++⟨#[b]⟩++s.extract n s.size
theorem B2u(x:Int){n:Int}(h:0<n):-n<x.tmod n∧x.tmod n<n:=by
 refine⟨?_,Int.tmod_lt_of_pos x h⟩
 have:=Int.tmod_lt_of_pos (-x) h
 rw [Int.neg_tmod]at this
 omega
theorem marB_size{s:ByteArray}{at' how:Int}{b:UInt8}:(marB s at' how b).size≤s.size+1:=by
 unfold marB
 by_cases h0:s.size=0
 ·rw [if_pos h0];show 1≤_;omega
 rw [if_neg h0]
 have:=B2u at' (n:=s.size) oM
 have h2:=B2u (at'.tmod s.size+s.size) (n:=s.size) oM
 dsimp only
 generalize ((at'.tmod s.size+s.size).tmod s.size)=z at *
 split
 ·simp only [ByteArray.size_append,ByteArray.size_extract,sz1];omega
 ·split
  ·simp only [ByteArray.size_append,ByteArray.size_extract];omega
  ·simp only [ByteArray.size_append,ByteArray.size_extract,sz1];omega
theorem marK_x{s:ByteArray}{at' how:Int}{b:UInt8}(hs:s.size<2^40):Ret1 prog mn 26 [.string s,intV at',intV how,.int .u8 b.toNat] (.string (marB s at' how b)) v:=by
 refine A0d tab func26 Y nB (args:=[_,_,_,_]) ?_
 refine su ?_
 refine Q_op fun ho=>A3w tab ho Y Y Y Y Y Y Y Y Y (fun b3 c3 hL=>?_)
 clear ho
 refine Q_op fun ho=>A_byteStr tab (c:=b) ho Y Y Y Y Y Y (fun hb=>RowAt.own hb cntL hL) ?_
 clear ho
 refine su ?_
 by_cases h0:s.size=0
 ·obtain rfl:s=⟨#[]⟩:=bytes_eq (by
   have:s.data.toList.length=0:=by simpa using h0
   rw [List.length_eq_zero_iff.1 this])
  rw [beq_self_eq_true]
  refine su ?_
  refine A0f tab [] (by exact .tmp rfl .nil) (Back.here cntL) ?_
  exact⟨Y,Y⟩
 have hne:s≠⟨#[]⟩:=fun e=>h0 (by rw [e];rfl)
 rw [string_ne ⟨#[]⟩ hne]
 have h1:=B2u at' (n:=s.size) oM
 have h2:=B2u (at'.tmod s.size+s.size) (n:=s.size) oM
 have h3:=B2u how (n:=3) dM
 have h4:=Int.tmod_nonneg (3:Int) (show 0≤how.tmod 3+3 by omega)
 have h5:=Int.tmod_lt_of_pos (how.tmod 3+3) (show(0:Int)<3 by decide)
 have h6:=Int.tmod_nonneg (s.size:Int) (show 0≤at'.tmod s.size+s.size by omega)
 refine su ?_
 refine Q_bin tab (.int .i64 (at'.tmod s.size)) Y Y Y Y (by simp only [A6c,if_true];rw [if_neg oM]) ?_
 refine su ?_
 refine Q_bin tab (.int .i64 ((at'.tmod s.size+s.size).tmod s.size)) Y Y Y Y (by simp only [A6c,if_true];rw [if_neg oM]) ?_
 have hm:marB s at' how b=(if(how.tmod 3+3).tmod 3=0 then s.extract 0 ((at'.tmod s.size+s.size).tmod s.size).toNat++⟨#[b]⟩++s.extract (((at'.tmod s.size+s.size).tmod s.size).toNat+1) s.size else if(how.tmod 3+3).tmod 3=1 then s.extract 0 ((at'.tmod s.size+s.size).tmod s.size).toNat++s.extract (((at'.tmod s.size+s.size).tmod s.size).toNat+1) s.size else s.extract 0 ((at'.tmod s.size+s.size).tmod s.size).toNat++⟨#[b]⟩++s.extract ((at'.tmod s.size+s.size).tmod s.size).toNat s.size):=by
  unfold marB
  rw [if_neg h0]
 generalize marB s at' how b=r at hm
 generalize (at'.tmod s.size+s.size).tmod s.size=z at *
 obtain⟨N,rfl⟩:=Int.eq_ofNat_of_zero_le h6
 rw [Int.toNat_natCast]at hm
 refine su ?_
 generalize (how.tmod 3+3).tmod 3=k at *
 rcases (by omega:k=0∨k=1∨k=2)with rfl|rfl|rfl
 ·refine su ?_
  refine lexL A1e Y kR ?_
  refine su ?_
  refine L_sliceS_h tab Y Y Y Y Y oM ?_
  refine su ?_
  refine B0o Y Y Y Y (by simp only [ByteArray.size_append,ByteArray.size_extract,sz1];omega) ?_
  refine su ?_
  refine L_sliceS_l tab Y Y Y Y (show _=some (Value.int .i64 ((N+1:Nat):Int))from Y) oM ?_
  refine su ?_
  refine B0o Y Y Y Y (by simp only [ByteArray.size_append,ByteArray.size_extract,sz1];omega) ?_
  refine su ?_
  refine A0f tab [] (by exact .tmp rfl .nil) (Back.here cntL) ?_
  exact⟨by rw [hm];rfl,Y⟩
 ·refine su ?_
  refine lexL A1e Y kR ?_
  refine su ?_
  refine L_sliceS_h tab Y Y Y Y Y oM ?_
  refine su ?_
  refine L_sliceS_l tab Y Y Y Y (show _=some (Value.int .i64 ((N+1:Nat):Int))from Y) oM ?_
  refine su ?_
  refine B0o Y Y Y Y (by simp only [ByteArray.size_append,ByteArray.size_extract,sz1];omega) ?_
  refine su ?_
  refine A0f tab [] (by exact .tmp rfl .nil) (Back.here cntL) ?_
  exact⟨by rw [hm];rfl,Y⟩
 ·refine su ?_
  refine lexL A1e Y kR ?_
  refine su ?_
  refine L_sliceS_h tab Y Y Y Y Y oM ?_
  refine su ?_
  refine B0o Y Y Y Y (by simp only [ByteArray.size_append,ByteArray.size_extract,sz1];omega) ?_
  refine su ?_
  refine L_sliceS_l tab Y Y Y Y Y oM ?_
  refine su ?_
  refine B0o Y Y Y Y (by simp only [ByteArray.size_append,ByteArray.size_extract,sz1];omega) ?_
  refine su ?_
  refine A0f tab [] (by exact .tmp rfl .nil) (Back.here cntL) ?_
  exact⟨by rw [hm];rfl,Y⟩
theorem actOf_z{g:Bg}{at':Nat}{β:A0e}(hr:g.ok v)(hB:g.at at' β)(hat:at'<2^60){P:Int}{d:List Int}{aD:Option Addr}{cD:Nat}(hd:RowAt v aD (d.map intV))(hm:MOk P d)(hP:2≤P) :
  CallsB prog mn 20 #[g.ptr,moV P aD d.length cD,.slice aD d.length cD] (RetB fun r β'=>∃x:MA,r=x.val∧Ok P d.length x∧∃n,n≤at'+6∧g.at n β') β v:=by
 have h1:=hm.p
 have h2:=hm.len
 obtain⟨p,rfl⟩:∃p:Nat,P=p:=⟨P.toNat,oM⟩
 obtain⟨dn,rfl⟩:=nats_of fun x hx=>(hm.all x hx).1
 rw [List.length_map]at h2⊢
 rw [←nats_to]at hd
 have hall:∀x∈dn,x<p:=fun x hx=>by
  have:=(hm.all x (List.mem_map.2 ⟨x,hx,Y⟩)).2
  omega
 refine CallsB.mono (actOf_x (mn:=mn) (m:=⟨p,dn,aD,cD⟩) hr hB hat ⟨hd,by simp only;omega,h2,hall⟩ hd Y hall) fun e β' h=>?_
 cases e with
 | ret r=>
  obtain⟨x,hx,rfl,n,hn,hB'⟩:=h
  exact⟨x.to,Y,hx.to,n,hn,hB'⟩
 | _=>exact h.elim
theorem ok_dig{P:Int}{N:Nat}{x:MA}(h:Ok P N x)(hP:P≤4)(hN:N≤3):¬outZ x.a 0 9∧¬outZ x.b 0 9∧¬outZ x.h 0 9:=by
 obtain⟨_,h2,h3,h4,_⟩:=h
 unfold outZ
 by_cases hk:x.k=1
 ·have:=h3 hk;omega
 ·have:=h4 hk;omega
theorem lineB_size{x:MA}:(lineB x).size≤14:=by
 have:=A1b x.a
 have:=A1b x.b
 have:=A1b x.h
 unfold lineB
 split
 ·simp only [ByteArray.size_append,sz1];omega
 ·split
  ·simp only [ByteArray.size_append,sz1];omega
  ·simp only [ByteArray.size_append,sz1];omega
end
end Go.Proofs.YtclejblcnfaeaaaGreat
end
section
namespace Go.Proofs.YtclejblcnfaeaaaGreat
open Go Go.Pal Go.Pal.To Go.Conc View
open Go.Proofs.Tryz
set_option maxHeartbeats 4000000
set_option maxRecDepth 20000
theorem putV_ma{x:MA}:(putV (Value.agg (List.toArray [.int .i64 0,.int .i64 0,.int .i64 0,.int .i64 0])).cells.toList 0 x.val.cells.toList).toArray=x.val.cells:=rfl
section
variable{mn:Who}{rd:Option Nat}{n:Nat}{Q:Exit→St→View→Prop}{ds:List Deferred}{ρ:Regs}{β:A0e}{v:View}{K:St→View→Prop}
 {ops:Array Oper}{i:Nat}{d:Nat}{ty:TypeId}{pos:String}{af:Array Edge}{gu:Option (Nat×Bool)}
theorem A_neqlA{y z:Operand}{t2:TypeId}{a b:MA}(ho:ops[i]?=some ⟨some d,.binOp .neq 26 y z t2,ty,pos,af,gu⟩)(hw:A0p ops gu ρ=some true)(hn:Nat.blt d n=true)(hy:ρ.val y=some a.val)(hz:ρ.val z=some b.val)
  (h:K ⟨ds,(d,.bool (!decide (a=b)))::ρ,β⟩ v):XOp prog mn rd n ops i Q K ⟨ds,ρ,β⟩ v:=by
 refine A1w ho (A0j hw) (.inr Y) hn fun ev hev hbk=>?_
 exact sx_neqlA (hev _ _ hy) (hev _ _ hz) ⟨β,v,⟨hbk,Le.refl _⟩,h⟩
end
theorem checks_run{v:View}{P:Int}{aD a0:Option Addr}{cD cap0:Nat}{d:List Int}{s:ByteArray}{x:MA}{at' how:Int}{b:UInt8}{ns:List Int}(hd:RowAt v aD (d.map intV))(hns:RowAt v a0 (ns.map (.int .i64))) :
  Run prog ⟨true,true⟩ (AtTop 3 14) v (G (Frame.enter prog 3 (List.toArray [moV P aD d.length cD,.string s,x.val,intV at',intV how,.int .u8 b.toNat,.slice a0 ns.length cap0]) .normal) []):=by
 refine top_run func3 Y nB ?_
 refine sw fun bx=>?_;refine sw fun bx=>?_
 rename_i b7
 obtain⟨b9,rfl⟩:∃x:Nat,x=bx:=⟨bx,rfl⟩
 by_cases h20:d.length > 20
 ·rw [show decide ((d.length:Int) > 20)=true from decide_eq_true oM]
  refine su ?_
  refine Q_op fun ho=>A0u ho bod17 Y Y Y Y Y held_x ?_
  clear ho
  refine su ?_
  exact⟨Y,Y,Y⟩
 rw [show decide ((d.length:Int) > 20)=false from decide_eq_false oM]
 refine su ?_
 by_cases h60:s.size > 60
 ·rw [show decide ((s.size:Int) > 60)=true from decide_eq_true oM]
  refine su ?_
  refine Q_op fun ho=>A0u ho bod17 Y Y Y Y Y held_x ?_
  clear ho
  refine su ?_
  exact⟨Y,Y,Y⟩
 rw [show decide ((s.size:Int) > 60)=false from decide_eq_false oM]
 refine su ?_
 refine Q_op fun ho=>A0o [] _ ho bod18 Y Y Y Y Y A7s (newBag_x) (fun x β' hR=>?_)
 clear ho
 obtain⟨bg,rfl,hB⟩:=hR
 refine su ?_
 refine Q_op fun ho=>A0o β' [(b9,x.val.cells,26),(b7,(moV P aD d.length cD).cells,24)] ho bod19 Y Y Y Y Y cntA (mornOf_z (hns.le (A0g _ _)) hB dM) (fun x β' hR=>?_)
 clear ho
 obtain⟨P2,d2,a2,c2,n1,βb,seg,rfl,rfl,hB1,hn1,hS,hM,hP2⟩:=hR
 refine A8x (β1:=seg) (β2:=βb++[(b9,x.val.cells,26),(b7,(moV P aD d.length cD).cells,24)]) cntA (fun hbk=>?_)
 have r2:=RowAt.own hbk (by exact cntL) hS
 replace hns:=hns.le (A0g v (A0c seg))
 replace hd:=hd.le (A0g v (A0c seg))
 clear hbk
 generalize v.union (A0c seg)=v1 at *
 clear hS v
 have hd2:=hM.len
 have hp2:=hM.p
 refine sw fun bx=>?_
 obtain⟨b16,rfl⟩:∃x:Nat,x=bx:=⟨bx,rfl⟩
 rw [putV_mo]
 refine Q_op fun ho=>A0o βb [(b16,(moV P2 a2 d2.length c2).cells,24),(b9,x.val.cells,26),(b7,(moV P aD d.length cD).cells,24)] ho bod20 Y Y Y Y Y cntA (actOf_z (g:=Bg.mk bg a0 cap0 ns) (RowAt.le hns (A0g _ _)) hB1 oM (r2.le (A0g _ _)) hM hP2) (fun x β' hR=>?_)
 clear ho
 obtain⟨y,rfl,hOk,n2,hn2,hB2⟩:=hR
 obtain⟨g1,g2,g3⟩:=ok_dig hOk oM oM
 refine sw fun bx=>?_
 obtain⟨b17,rfl⟩:∃x:Nat,x=bx:=⟨bx,rfl⟩
 rw [putV_ma]
 refine su ?_
 refine Q_op fun ho=>A3w tab ho Y Y Y Y Y Y Y Y Y (fun bm cm hLm=>?_)
 clear ho
 refine A8x (β1:=[(bm,cm,24)]) (β2:=(b17,y.val.cells,26)::(β'++[(b16,(moV P2 a2 d2.length c2).cells,24),(b9,x.val.cells,26),(b7,(moV P aD d.length cD).cells,24)])) cntA (fun hbk=>?_)
 have r3:RowAt _ (some ⟨bm,0,none⟩) [[intV P,.slice aD d.length cD],[intV P2,.slice a2 d2.length c2]].flatten:=RowAt.own hbk (by exact cntL) hLm
 replace r2:=r2.le (A0g v1 (A0c [(bm,cm,24)]))
 replace hd:=hd.le (A0g v1 (A0c [(bm,cm,24)]))
 clear hbk hLm hns hB hB1 hB2
 generalize v1.union (A0c [(bm,cm,24)])=v2 at *
 have hcase:∀i,i<2→∃aE cE P' d',[[intV P,.slice aD d.length cD],[intV P2,.slice a2 d2.length c2]][i]?=some [intV P',.slice aE (List.length d') cE]∧RowAt v2 aE (d'.map intV)∧d'.length≤20:=fun i hi=>by
  rcases (by omega:i=0∨i=1)with rfl|rfl
  ·exact⟨aD,cD,P,d,Y,hd,oM⟩
  ·exact⟨a2,c2,P2,d2,Y,r2,oM⟩
 refine su ?_
 refine A1q (α:=Nat) (fun i=>⟨[],[(19,.int .i64 i),(18,.slice (some ⟨bm,0,none⟩) 2 2),(1,.string s),(3,intV at'),(4,intV how),(5,.int .u8 b.toNat),(9,.pointer (some ⟨b9,0,none⟩)),(17,.pointer (some ⟨b17,0,none⟩))],[(b17,y.val.cells,26),(b9,x.val.cells,26)]⟩)
  (fun i u=>v2.Le u∧i≤2) (fun i=>2-i) 0 ⟨Y,rg,cntL⟩ (Le.refl _) ⟨Le.refl _,Nat.zero_le _⟩ ?_
 rintro i u ⟨hvu,hi⟩
 refine su ?_
 refine A1i Y (fun h=>?_) (fun h=>?_)
 ·have hlt:i<2:=by have:=of_decide_eq_true h;omega
  clear h
  obtain⟨aE,cE,P',d',hm,hdE,hl20⟩:=hcase i hlt
  obtain⟨b1',o1,k1,d1,e1,f1,e1',hv1,hc1⟩:=RowAt.recs (k:=2) (xs:=[[intV P,.slice aD d.length cD],[intV P2,.slice a2 d2.length c2]]) (RowAt.le r3 hvu) sM dM (i:=i) hlt
  have hc1':=hc1 i hlt
  rw [show([[intV P,.slice aD d.length cD],[intV P2,.slice a2 d2.length c2]]:List (List Value))[i]'hlt=[intV P',.slice aE d'.length cE]from by
   have:=List.getElem?_eq_getElem (l:=([[intV P,.slice aD d.length cD],[intV P2,.slice a2 d2.length c2]]:List (List Value))) (i:=i) hlt
   rw [this]at hm
   exact Option.some.inj hm]at hc1'
  clear hc1 hm
  cases e1'
  replace hdE:=hdE.le hvu
  refine su ?_
  refine A6d tab i Y Y Y Y Y Y Y hlt ?_
  refine su ?_
  refine A2b tab Y Y Y hv1 (A1g tab (x:=[intV P',.slice aE d'.length cE]) Y Y Y hc1') ?_
  refine Q_op fun ho=>A0o [] _ ho bod21 Y Y Y Y Y A7s (ownMorn_x (hdE.le (A0g _ _)) oM) (fun z β2 hR=>?_)
  clear ho
  obtain⟨a4,c4,rfl,hS4⟩:=hR
  refine sw fun bx=>?_
  obtain⟨b20,rfl⟩:∃x:Nat,x=bx:=⟨bx,rfl⟩
  rw [putV_mo]
  refine XC_retire (β1:=β2) (β2:=[(b20,(moV P' a4 d'.length c4).cells,24),(b17,y.val.cells,26),(b9,x.val.cells,26)]) cntA (fun hbk=>?_)
  have rA:=RowAt.own hbk (by exact cntL) hS4
  have hle:=A0g u (A0c β2)
  replace hvu:=hvu.trans hle
  replace hv1:=hle _ _ hv1
  replace hdE:=hdE.le hle
  clear hbk hle
  generalize u.union (A0c β2)=w at *
  clear hS4
  refine su ?_
  refine XC_lex A1e Y kR ?_
  refine su ?_
  refine A2w bod22 Y Y Y Y Y (morn_x (P:=P') (cap:=c4) rA oM) ?_
  refine su ?_
  refine A1m tab i Y Y Y Y Y Y Y hlt ?_
  refine su ?_
  refine A4l tab Y Y Y hv1 (A1g tab (x:=[intV P',.slice aE d'.length cE]) Y Y Y hc1') ?_
  refine su ?_
  refine A2w bod23 Y Y Y Y Y (checkR_x (P:=P') (cap:=cE) hdE oM) ?_
  refine su ?_
  rw [show(A4b P' d' != A4b P' d')=false from by simp]
  refine su ?_
  refine A1m tab i Y Y Y Y Y Y Y hlt ?_
  refine su ?_
  refine A4l tab Y Y Y hv1 (A1g tab (x:=[intV P',.slice aE d'.length cE]) Y Y Y hc1') ?_
  refine su ?_
  refine A2w bod24 Y Y Y Y Y (sameMorns_x (P:=P') (cD:=c4) (cE:=cE) rA hdE oM) ?_
  refine su ?_
  exact A0b ⟨i+1,_,oM,⟨Y,rg,cntL⟩,Le.refl _,hvu,hlt⟩
 ·clear h hi hcase r2 hd r3 hvu
  refine su ?_
  refine Q_op fun ho=>A0u ho bod25 Y Y Y Y Y (lineK_x hOk.k g1 g2 g3) ?_
  clear ho
  refine su ?_
  refine Q_op fun ho=>A0u ho bod26 Y Y Y Y Y (marK_x (at':=at') (how:=how) (b:=b) (by have:=@lineB_size y;omega)) ?_
  clear ho
  refine Q_op fun ho=>A3w tab ho Y Y Y Y Y Y Y Y Y (fun bt ct hLt=>?_)
  clear ho
  have hT:∀z∈[s,lineB y,marB (lineB y) at' how b],z.size<2^40:=by
   have k1:=@lineB_size y
   have k2:=@marB_size (lineB y) at' how b
   intro z hz
   simp only [List.mem_cons,List.not_mem_nil,or_false]at hz
   rcases hz with rfl|rfl|rfl<;>omega
  refine A8x (β1:=[(bt,ct,9)]) (β2:=[(b17,y.val.cells,26),(b9,x.val.cells,26)]) cntA (fun hbk=>?_)
  have rT:RowAt _ (some ⟨bt,0,none⟩) ([s,lineB y,marB (lineB y) at' how b].map Value.string):=RowAt.own hbk (by exact cntL) hLt
  clear hbk hLt
  generalize u.union (A0c [(bt,ct,9)])=w at *
  generalize hTT:[s,lineB y,marB (lineB y) at' how b]=T at *
  have hTl:T.length=3:=by rw [←hTT];rfl
  clear hTT
  refine su ?_
  refine A1q (α:=Nat) (fun i=>⟨[],[(23,.int .i64 i),(22,.slice (some ⟨bt,0,none⟩) 3 3),(9,.pointer (some ⟨b9,0,none⟩)),(17,.pointer (some ⟨b17,0,none⟩))],[(b17,y.val.cells,26),(b9,x.val.cells,26)]⟩)
   (fun i z=>z=w∧i≤3) (fun i=>3-i) 0 ⟨Y,rg,cntL⟩ (Le.refl _) ⟨Y,Nat.zero_le _⟩ ?_
  rintro i z ⟨rfl,hi⟩
  refine su ?_
  refine A1i Y (fun h=>?_) (fun h=>?_)
  ·have hlt:i<3:=by have:=of_decide_eq_true h;omega
   clear h
   obtain⟨b3',o3,k3,d3,e3,f3,e3',hv3,hc3⟩:=row_cell rT (j:=i) (x:=.string (T[i]' oM)) (by rw [List.getElem?_map,List.getElem?_eq_getElem oM];rfl)
   have hz:=hT _ (List.getElem_mem (show i<T.length by omega))
   generalize T[i]'(show i<T.length by omega)=t at *
   cases e3'
   refine su ?_
   refine A6d tab i Y Y Y Y Y Y Y hlt ?_
   refine A2b tab Y Y Y hv3 (A0l tab Y Y Y (by rw [Nat.mul_one];exact hc3)) ?_
   refine Q_op fun ho=>A0u ho bod27 Y Y Y Y Y (parse_x (s:=t)) ?_
   clear ho
   refine sw fun bx=>?_
   obtain⟨b24,rfl⟩:∃x:Nat,x=bx:=⟨bx,rfl⟩
   refine su ?_
   refine A6d tab i Y Y Y Y Y Y Y hlt ?_
   refine A2b tab Y Y Y hv3 (A0l tab Y Y Y (by rw [Nat.mul_one];exact hc3)) ?_
   refine Q_op fun ho=>A0u ho bod28 Y Y Y Y Y (parseR_x hz) ?_
   clear ho
   refine sw fun bx=>?_
   obtain⟨b26,rfl⟩:∃x:Nat,x=bx:=⟨bx,rfl⟩
   refine su ?_
   refine Q_op fun ho=>A_neqlA (a:=(A4v t.data.toList).1) (b:=(A4v t.data.toList).1) ho Y Y Y Y ?_
   clear ho
   rw [show(!decide ((A4v t.data.toList).1=(A4v t.data.toList).1))=false from by simp]
   refine su ?_
   rw [show((A4v t.data.toList).2 != (A4v t.data.toList).2)=false from by simp]
   refine su ?_
   exact A0b ⟨i+1,_,oM,⟨Y,rg,cntL⟩,Le.refl _,Y,hlt⟩
  ·clear h hi
   refine su ?_
   refine Q_op fun ho=>A3w tab ho Y Y Y Y Y Y Y Y Y (fun ba ca hLa=>?_)
   clear ho
   refine A8x (β1:=[(ba,ca,26)]) (β2:=[(b17,y.val.cells,26),(b9,x.val.cells,26)]) cntA (fun hbk=>?_)
   have rX:ActsAt _ (some ⟨ba,0,none⟩) [x,y]:=RowAt.own hbk (by exact cntL) hLa
   clear hbk hLa
   generalize z.union (A0c [(ba,ca,26)])=w2 at *
   refine su ?_
   refine A1q (α:=Nat) (fun i=>⟨[],[(29,.int .i64 i),(28,.slice (some ⟨ba,0,none⟩) 2 2)],[]⟩)
    (fun i q=>q=w2∧i≤2) (fun i=>2-i) 0 ⟨Y,rg,cntL⟩ (Le.refl _) ⟨Y,Nat.zero_le _⟩ ?_
   rintro i q ⟨rfl,hi⟩
   refine su ?_
   refine A1i Y (fun h=>?_) (fun h=>?_)
   ·have hlt:i<2:=by have:=of_decide_eq_true h;omega
    clear h
    obtain⟨b3',o3,k3,d3,e3,f3,e3',hv3,hc3⟩:=rX.get (i:=i) hlt
    replace hc3:=hc3 i hlt
    generalize ([x,y]:List MA)[i]'hlt=t at *
    cases e3'
    refine su ?_
    refine A6d tab i Y Y Y Y Y Y Y hlt ?_
    refine A2b tab Y Y Y hv3 (A1g tab (x:=t.cells) Y Y Y hc3) ?_
    refine Q_op fun ho=>A0u ho bod29 Y Y Y Y Y (write_x (x:=t)) ?_
    clear ho
    refine su ?_
    refine A6d tab i Y Y Y Y Y Y Y hlt ?_
    refine A2b tab Y Y Y hv3 (A1g tab (x:=t.cells) Y Y Y hc3) ?_
    refine Q_op fun ho=>A0u ho bod30 Y Y Y Y Y (writeR_x (x:=t)) ?_
    clear ho
    refine su ?_
    rw [show((B1c t).2.toList==(B1c t).2.toList)=true from beq_self_eq_true _]
    refine su ?_
    rw [show((B1c t).1 != (B1c t).1)=false from by simp]
    refine su ?_
    exact A0b ⟨i+1,_,oM,⟨Y,rg,cntL⟩,Le.refl _,Y,hlt⟩
   ·clear h
    refine su ?_
    refine Q_op fun ho=>A0u ho bod17 Y Y Y Y Y held_x ?_
    clear ho
    refine su ?_
    exact⟨Y,Y,Y⟩
end Go.Proofs.YtclejblcnfaeaaaGreat
end
section
namespace Go.Proofs.YtclejblcnfaeaaaGreat
open Go Go.Pal Go.Pal.To Go.Conc Go.ConcM Go.RowKit Go.ChangeShapes Go.WideShapes Go.ChangeAt Go.Deep
set_option maxHeartbeats 4000000
set_option maxRecDepth 100000
theorem row9:Tryz.prog.readableRec 9=true:=by kernel_rfl
theorem lt9:9<Tryz.prog.types.size:=of_decide_eq_true kR
theorem row5:Tryz.prog.readableRec 5=true:=by kernel_rfl
theorem lt5:5<Tryz.prog.types.size:=of_decide_eq_true kR
section
variable{H:Type}{enc:TypeId×Value→H}{W:World}{base:Nat}{v0:Value}{d0:DataW H}{p:List MemPlace}
theorem openS(hval:Value.okWide Tryz.prog W .any base 9 v0)(h0:DataW.Trod enc Tryz.prog W 0 (fun _=>true) true 9 v0 d0 p)(hlt:∀x∈p,x.block<W.heap.size):∃s:ByteArray,v0 = .string s∧Still enc W 9 v0 d0 p:=by
 have hargs:Still enc W 9 v0 d0 p:=fun w' hb=>Below.trod laid row9 lt9 h0 hb hlt
 obtain⟨s,rfl⟩:=okWide_string Tryz.underlying9 hval
 exact⟨s,Y,hargs⟩
theorem openY(hval:Value.okWide Tryz.prog W .any base 5 v0)(h0:DataW.Trod enc Tryz.prog W 0 (fun _=>true) true 5 v0 d0 p)(hlt:∀x∈p,x.block<W.heap.size):∃b:UInt8,v0 = .int .u8 b.toNat∧Still enc W 5 v0 d0 p:=by
 have hargs:Still enc W 5 v0 d0 p:=fun w' hb=>Below.trod laid row5 lt5 h0 hb hlt
 obtain⟨n,rfl⟩:=okWide_int Tryz.underlying5 hval
 have hn:0≤n∧n<256:=by
  simp only [Value.okWide,Tryz.underlying5,Cell.okWide,Cell.ok,IntKind.has]at hval
  have h1:IntKind.u8.min=0:=rfl
  have h2:IntKind.u8.max=255:=rfl
  have h3:IntKind.u8.min≤n∧n≤IntKind.u8.max:=by simpa using hval
  omega
 refine⟨UInt8.ofNat n.toNat,?_,hargs⟩
 rw [UInt8.toNat_ofNat',Nat.mod_eq_of_lt oM]
 congr 1;omega
end
theorem trodAll_seven{H:Type}{enc:TypeId×Value→H}{P:Program}{w:World}{base:Nat}{spare:Nat→Bool}{held:Bool}{t t1 t2 t3 t4 t5 t6:TypeId}{args:Array Value}{ds:List (DataW H)}{ps:List MemPlace}(h:DataW.TrodAll enc P w base spare held [t,t1,t2,t3,t4,t5,t6] args.toList ds ps) :
  ∃v v1 v2 v3 v4 v5 v6 d d1 d2 d3 d4 d5 d6 p p1 p2 p3 p4 p5 p6,args=#[v,v1,v2,v3,v4,v5,v6]∧ds=[d,d1,d2,d3,d4,d5,d6]∧ps=p++(p1++(p2++(p3++(p4++(p5++p6)))))∧DataW.Trod enc P w base spare held t v d p∧DataW.Trod enc P w base spare held t1 v1 d1 p1∧DataW.Trod enc P w base spare held t2 v2 d2 p2∧DataW.Trod enc P w base spare held t3 v3 d3 p3∧DataW.Trod enc P w base spare held t4 v4 d4 p4∧DataW.Trod enc P w base spare held t5 v5 d5 p5∧DataW.Trod enc P w base spare held t6 v6 d6 p6:=by
 obtain⟨v,vs,d,ds',p,q,hargs,rfl,rfl,hd,hr⟩:=trodAll_cons h
 obtain⟨v1,vs1,d1,ds1,p1,q1,rfl,rfl,rfl,hd1,hr1⟩:=trodAll_cons hr
 obtain⟨v2,vs2,d2,ds2,p2,q2,rfl,rfl,rfl,hd2,hr2⟩:=trodAll_cons hr1
 obtain⟨v3,vs3,d3,ds3,p3,q3,rfl,rfl,rfl,hd3,hr3⟩:=trodAll_cons hr2
 obtain⟨v4,vs4,d4,ds4,p4,q4,rfl,rfl,rfl,hd4,hr4⟩:=trodAll_cons hr3
 obtain⟨v5,vs5,d5,ds5,p5,q5,rfl,rfl,rfl,hd5,hr5⟩:=trodAll_cons hr4
 obtain⟨v6,vs6,d6,ds6,p6,q6,rfl,rfl,rfl,hd6,hr6⟩:=trodAll_cons hr5
 obtain⟨rfl,rfl,rfl⟩:=trodAll_nil hr6
 exact⟨v,v1,v2,v3,v4,v5,v6,d,d1,d2,d3,d4,d5,d6,p,p1,p2,p3,p4,p5,p6,by cases args;simp_all,Y,by simp,hd,hd1,hd2,hd3,hd4,hd5,hd6⟩
end Go.Proofs.YtclejblcnfaeaaaGreat
end
section
namespace Go.Proofs.YtclejblcnfaeaaaGreat
open Go Go.ChangeShapes
theorem B2v{a b:Bool}(ha:a=true)(hb:b=true):(a&&b)=true:=by rw [ha,hb];rfl
theorem j3_0:(Rows.tollChecksRow.wf (OpenSpec.ofChange Rows.tollChecksSpec))=true:=by kernel_rfl
theorem j3_1:(laidOutB Tryz.prog)=true:=by kernel_rfl
theorem j3_2:(mapsRowed Tryz.prog)=true:=by kernel_rfl
theorem j3_3:(Tryz.f3.params.all (Tryz.prog.readableRec ·))=true:=by kernel_rfl
theorem j3_4:(namedTie Tryz.prog Rows.tollChecksRow.named Rows.tollChecksSpec.vars)=true:=by kernel_rfl
theorem j3_5:((Rows.tollChecksRow.stops == []))=true:=by kernel_rfl
theorem j3_6:((Tryz.prog.stops == []))=true:=by kernel_rfl
theorem j3_7:((Rows.tollChecksRow.knobs == []))=true:=by kernel_rfl
theorem j3_8:((Tryz.prog.stopKnobs == []))=true:=by kernel_rfl
theorem j3_9:((Rows.tollChecksRow.inPlace==Tryz.prog.inPlace 3))=true:=by kernel_rfl
theorem j3_10:((Rows.tollChecksRow.unfollowed==Tryz.prog.unfollowed 3))=true:=by kernel_rfl
theorem j3_11:((Rows.tollChecksRow.recurses==Tryz.prog.recurses 3))=true:=by kernel_rfl
theorem j3_12:((Rows.tollChecksRow.named==Tryz.prog.varsNamed 3))=true:=by kernel_rfl
theorem j3_13:((Rows.tollChecksRow.maps==(Tryz.f3.params.toList++Rows.tollChecksSpec.plain.varTypes Tryz.prog).any (Tryz.prog.mapsRec ·)))=true:=by kernel_rfl
theorem j3_14:((Rows.tollChecksRow.ifaces==(Tryz.f3.params.toList++Rows.tollChecksSpec.plain.varTypes Tryz.prog).any (Tryz.prog.ifacesRec ·)))=true:=by kernel_rfl
theorem j3_15:((Rows.tollChecksRow.mapsOut==Tryz.prog.mapsAmong Tryz.f3.resultTypes.toList))=true:=by kernel_rfl
theorem j3_16:((Rows.tollChecksRow.loops==(Tryz.f3.params.toList++Rows.tollChecksSpec.plain.varTypes Tryz.prog).any (Tryz.prog.loopsFrom ·)))=true:=by kernel_rfl
theorem j3_17:((Rows.tollChecksRow.wideKeys==(Tryz.f3.params.toList++Rows.tollChecksSpec.plain.varTypes Tryz.prog++Tryz.f3.resultTypes.toList).any (Tryz.prog.wideKeysFrom ·)))=true:=by kernel_rfl
theorem j3_18:(Rows.tollChecksSpec.vars.all (Tryz.prog.varReadable ·))=true:=by kernel_rfl
theorem j3_19:(Tryz.f3.resultTypes.all (fun t=>Tryz.prog.readableRec t&&decide (t<Tryz.prog.types.size)))=true:=by kernel_rfl
theorem j3_20:((Rows.tollChecksRow.ifacesOut==Tryz.f3.resultTypes.toList.any (Tryz.prog.ifacesRec ·)))=true:=by kernel_rfl
theorem j3_21:((Rows.tollChecksRow.loopsOut==Tryz.f3.resultTypes.toList.any (Tryz.prog.loopsFrom ·)))=true:=by kernel_rfl
theorem j3_22:((Rows.tollChecksRow.plainKeys==Tryz.prog.plainKeys))=true:=by kernel_rfl
theorem j3_23:(Rows.tollChecksRow.shortTexts.isNone)=true:=by kernel_rfl
theorem j3_24:(Tryz.prog.stopsHeard)=true:=by kernel_rfl
theorem j3_25:(Tryz.prog.mayEnter)=true:=by kernel_rfl
theorem j3_26:((Rows.tollChecksRow.lifted==Tryz.prog.liftsFinal))=true:=by kernel_rfl
theorem j3_27:((Tryz.prog.make==some Rows.tollChecksRow.make))=true:=by kernel_rfl
theorem j3_28:((Rows.tollChecksRow.kinds==(if Rows.tollChecksRow.domain.isEmpty then []else Tryz.f3.params.toList.map fun t=>match Tryz.prog.underlying t with|some (.int k)=>some k|_=>none)))=true:=by kernel_rfl
theorem j3_29:((Rows.tollChecksRow.pinned==Rows.tollChecksRow.pinnedBy))=true:=by kernel_rfl
theorem j3_30:((Rows.tollChecksRow.veiled==(Tryz.f3.params.toList++Rows.tollChecksSpec.plain.varTypes Tryz.prog++Tryz.f3.resultTypes.toList).any (Tryz.prog.veiledRec ·)))=true:=by kernel_rfl
theorem j3_31:(Rows.tollChecksRow.veiledFits Tryz.prog Tryz.f3.params.toList (Tryz.f3.params.toList++Rows.tollChecksSpec.plain.varTypes Tryz.prog++Tryz.f3.resultTypes.toList))=true:=by kernel_rfl
set_option maxRecDepth 100000 in
theorem j3:joinedFacts Tryz.prog 3 Tryz.f3 Rows.tollChecksSpec Rows.tollChecksRow=true:=B2v (B2v (B2v (B2v (B2v (B2v (B2v (B2v (B2v (B2v (B2v (B2v (B2v (B2v (B2v (B2v (B2v (B2v (B2v (B2v (B2v (B2v (B2v (B2v (B2v (B2v (B2v (B2v (B2v (B2v (B2v (j3_0) j3_1) j3_2) j3_3) j3_4) j3_5) j3_6) j3_7) j3_8) j3_9) j3_10) j3_11) j3_12) j3_13) j3_14) j3_15) j3_16) j3_17) j3_18) j3_19) j3_20) j3_21) j3_22) j3_23) j3_24) j3_25) j3_26) j3_27) j3_28) j3_29) j3_30) j3_31
end Go.Proofs.YtclejblcnfaeaaaGreat
end
section
namespace Go.Proofs.YtclejblcnfaeaaaGreat
open Go Go.Pal Go.Pal.To Go.Conc Go.ConcM Go.RowKit Go.ChangeShapes Go.WideShapes Go.ChangeAt
open View
theorem own_knob:ownKnob Tryz.prog.godebug=none:=by kernel_rfl
set_option maxRecDepth 100000 in
set_option maxHeartbeats 4000000 in
theorem checks_lifted(os:Os)(started:os.Started)(H:Type)(enc:TypeId×Value→H) :
  ReturnsInLeavingWide {} Tryz.checked os 3 .any (Rows.tollChecksSpec.pre6 enc Tryz.prog Tryz.f3 Rows.tollChecksRow.domain false) (Rows.tollChecksSpec.post enc Tryz.prog Tryz.f3 false true false false):=by
 refine returnsInLeavingWide_of_change_sized (C:=Tryz.checked) own_knob started Tryz.func3
  (ChangeSpec.witness6 (enc:=enc) (C:=Tryz.checked) false ⟨#[],#[.agg #[.int .i64 0,.slice none 0 0],.string ⟨#[]⟩,.agg #[.int .i64 0,.int .i64 0,.int .i64 0,.int .i64 0],.int .i64 0,.int .i64 0,.int .u8 0,.slice none 0 0],[]⟩ 8 kR kR kR kR) ?_
 intro W base args ds gs before hval0 hW _ _ _
 have hval:∀(j:Nat) t v,Tryz.f3.params[j]?=some t→args[j]?=some v→Value.okWide Tryz.prog W .any base t v:=hval0
 have hW':=hW
 obtain⟨p,q,hA0,hV,rfl,_,_⟩:=hW
 have hA:DataW.TrodAll enc Tryz.prog W 0 (fun _=>true) true Tryz.f3.params.toList args.toList ds p:=hA0
 rw [Tryz.params3]at hA hval
 obtain⟨v0,v1,v2,v3,v4,v5,v6,d0,d1,d2,d3,d4,d5,d6,p0,p1,p2,p3,p4,p5,p6,rfl,rfl,rfl,h0,h1,h2,h3,h4,h5,h6⟩:=trodAll_seven hA
 obtain⟨rfl,rfl⟩:=trodVars_none hV
 clear hA0 hval0
 simp only [List.append_nil,List.append_assoc]at hW'
 have hlt:∀x∈p0++(p1++(p2++(p3++(p4++(p5++(p6)))))),x.block<W.heap.size:=fun x hx=>by simpa using hW'.lt x hx
 obtain⟨P0,a0,m0,c0,u0,rfl,hu0,hm0,hst0⟩:=openM (hval 0 24 v0 rfl rfl) h0 (fun x hx=>hlt x (by simp only [List.mem_append];simp [hx]))
 obtain⟨sw,rfl,hst1⟩:=openS (hval 1 9 v1 rfl rfl) h1 (fun x hx=>hlt x (by simp only [List.mem_append];simp [hx]))
 obtain⟨xw,rfl,hst2⟩:=openA (hval 2 26 v2 rfl rfl) h2 (fun x hx=>hlt x (by simp only [List.mem_append];simp [hx]))
 obtain⟨at3,rfl,hst3⟩:=openI (hval 3 3 v3 rfl rfl) h3 (fun x hx=>hlt x (by simp only [List.mem_append];simp [hx]))
 obtain⟨at4,rfl,hst4⟩:=openI (hval 4 3 v4 rfl rfl) h4 (fun x hx=>hlt x (by simp only [List.mem_append];simp [hx]))
 obtain⟨yw,rfl,hst5⟩:=openY (hval 5 5 v5 rfl rfl) h5 (fun x hx=>hlt x (by simp only [List.mem_append];simp [hx]))
 obtain⟨a0_,cap0,ns,u6,rfl,hu6,hns,hst6⟩:=openL (hval 6 22 v6 rfl rfl) h6 (fun x hx=>hlt x (by simp only [List.mem_append];simp [hx]))
 obtain⟨hO0,la0,lb0⟩:=hu0.both hu6
 obtain⟨M,last,o,w',t',r1,r2,r3,r4⟩:=law_run (P:=Tryz.prog) (W:=W) (v:=(u0.union u6)) (args:=[moV P0 a0 m0.length c0,.string sw,xw.val,.int .i64 at3,.int .i64 at4,.int .u8 yw.toNat,.slice a0_ ns.length cap0]) Tryz.func3 rfl kR hO0.ag hO0.ro (checks_run (hm0.le (la0)) (RowAt.le hns (lb0)))
 refine⟨M,last,o,w',t',r1,r2,r3,r4.mono fun x hp=>?_⟩
 obtain⟨rfl,hbel0,hos⟩:=hp
 have hbel:Below W.heap.size W w':=by
  have e:w'.os=W.os:=hos
  rw [←e]at hbel0
  exact hbel0
 exact⟨_,_,_,[],p0++(p1++(p2++(p3++(p4++(p5++(p6)))))),[],hW',trodAll_mk1 (shut_bool Tryz.underlying4 true),trodAll_cons_mk (hst0 _ hbel) (trodAll_cons_mk (hst1 _ hbel) (trodAll_cons_mk (hst2 _ hbel) (trodAll_cons_mk (hst3 _ hbel) (trodAll_cons_mk (hst4 _ hbel) (trodAll_cons_mk (hst5 _ hbel) (trodAll_mk1 (hst6 _ hbel))))))),Y,hbel.frame _,fun h=>by cases h⟩
theorem checks_said:Rows.TollChecksSaid:=
 OpenClaim.holds_of_wide_leaving 3 Tryz.f3 rfl rfl rfl rfl rfl rfl rfl ⟨rfl,rfl,rfl,rfl,rfl⟩ rfl rfl rfl rfl rfl kR Tryz.func3 j3
  (of_decide_eq_true kR) (by unfold Func.isWrapper;first|(rw [if_pos (by decide +kernel)];kernel_rfl)|(rw [if_neg (by decide +kernel)];exact⟨Y,Y⟩))
  (fun os started H enc _=>checks_lifted os started H enc)
end Go.Proofs.YtclejblcnfaeaaaGreat
end
#print axioms Go.Proofs.YtclejblcnfaeaaaGreat.checks_said
