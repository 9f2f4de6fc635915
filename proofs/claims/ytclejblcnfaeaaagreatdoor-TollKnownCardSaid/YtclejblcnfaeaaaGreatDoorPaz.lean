/- Part 26. -/
import Derived.Test.YtclejblcnfaeaaaGreatDoorPay
set_option linter.all false
section
namespace Go.Proofs.YtclejblcnfaeaaaGreatDoor.W
open Go Go.Pal Go.Conc View
open Go.Proofs.Tryz
open Go.Sort (bitsLen)
set_option maxHeartbeats 4000000
section
variable{mn:Who}{v:View}
theorem wrapU{x:Nat}(h:x<2^64):IntKind.u64.wrap (x:Int)=x:=by
 simp only [IntKind.wrap,IntKind.signed,IntKind.bits]
 simp
 omega
theorem wrapUr(x:Int):0≤IntKind.u64.wrap x∧IntKind.u64.wrap x<2^64:=by
 simp only [IntKind.wrap,IntKind.signed,IntKind.bits]
 simp
 omega
theorem wrap8{x:Nat}(h:x<256):IntKind.u8.wrap (x:Int)=x:=by
 simp only [IntKind.wrap,IntKind.signed,IntKind.bits]
 simp
 omega
noncomputable def lenS:ByteArray:=match f176.body with
 | some (.seq _ (.seq _ (.seq _ (.seq _ (.seq (.region _ ops _) _)))))=>match ops[3]? with
  | some o=>match o.op with
   | .index _ (.const (.string s)) _=>s
   | _=>.empty
  | _=>.empty
 | _=>.empty
theorem len_tab:(List.range 256).all (fun x=>(lenS[x]?).map (·.toNat)==some (bitsLen x)&&decide (bitsLen x≤8))=true:=by decide +kernel
theorem len64_x{x:Nat}(hx:x<256):Ret1 prog mn 176 [.int .u64 x] (.int .i64 (bitsLen x)) v∧bitsLen x≤8:=by
 have hp:=List.all_eq_true.1 len_tab _ (List.mem_range.2 hx)
 rw [Bool.and_eq_true]at hp
 obtain⟨b,hb,hc⟩:=Option.map_eq_some_iff.1 (eq_of_beq hp.1)
 have h8:bitsLen x≤8:=of_decide_eq_true hp.2
 refine⟨?_,h8⟩
 refine A0d tab func176 Y nB (args:=[_]) ?_
 refine su ?_
 rw [show decide ((x:Int)≥4294967296)=false from decide_eq_false oM]
 refine su ?_
 rw [show decide ((x:Int)≥65536)=false from decide_eq_false oM]
 refine su ?_
 rw [show decide ((x:Int)≥256)=false from decide_eq_false oM]
 refine su ?_
 refine Q_op fun ho=>A_byte tab ho Y Y Y Y (wrap8 hx) Y (s:=lenS) hb ?_
 clear ho
 refine su ?_
 rw [show IntKind.i64.wrap (0+IntKind.i64.wrap ((b.toNat:Nat):Int))=((bitsLen x:Nat):Int)from by rw [hc,A2d (x:=((bitsLen x:Nat):Int)) oM oM,Int.zero_add,A2d oM oM]]
 refine A0f tab [] (by exact .tmp rfl .nil) (Back.here cntL) ?_
 exact⟨Y,Y⟩
theorem bitsLen_t:(List.range 8192).all (fun x=>decide (x<256)||bitsLen x==bitsLen (x / 256)+8)=true:=by decide +kernel
theorem bitsLen_8{x:Nat}(h:256≤x)(hx:x<8192):bitsLen x=bitsLen (x / 256)+8:=by
 have:=List.all_eq_true.1 bitsLen_t x (List.mem_range.2 hx)
 rw [Bool.or_eq_true]at this
 rcases this with h'|h'
 ·have:=of_decide_eq_true h';omega
 ·exact eq_of_beq h'
theorem len64_y{x:Nat}(hx:x<8192):Ret1 prog mn 176 [.int .u64 x] (.int .i64 (bitsLen x)) v∧bitsLen x≤16:=by
 by_cases h:x<256
 ·obtain⟨h1,h2⟩:=len64_x (mn:=mn) (v:=v) h
  exact⟨h1,oM⟩
 have hq:x / 256<256:=oM
 have e8:=bitsLen_8 (x:=x) oM hx
 have hp:=List.all_eq_true.1 len_tab _ (List.mem_range.2 hq)
 rw [Bool.and_eq_true]at hp
 obtain⟨b,hb,hc⟩:=Option.map_eq_some_iff.1 (eq_of_beq hp.1)
 have h8:bitsLen (x / 256)≤8:=of_decide_eq_true hp.2
 refine⟨?_,oM⟩
 refine A0d tab func176 Y nB (args:=[_]) ?_
 refine su ?_
 rw [show decide ((x:Int)≥4294967296)=false from decide_eq_false oM]
 refine su ?_
 rw [show decide ((x:Int)≥65536)=false from decide_eq_false oM]
 refine su ?_
 rw [show decide ((x:Int)≥256)=true from decide_eq_true oM]
 refine su ?_
 have hj:IntKind.u8.wrap ((x:Int).fdiv (2 ^ min (Int.toNat 8) IntKind.u64.bits))=((x / 256:Nat):Int):=by
  have e:(x:Int).fdiv (2 ^ min (Int.toNat 8) IntKind.u64.bits)=((x / 256:Nat):Int):=by
   show(x:Int).fdiv 256=_
   rw [Int.fdiv_eq_ediv_of_nonneg _ dM]
   omega
  rw [e]
  exact wrap8 hq
 refine Q_op fun ho=>A_byte tab ho Y Y Y Y hj Y (s:=lenS) hb ?_
 clear ho
 refine su ?_
 rw [show IntKind.i64.wrap (0+8+IntKind.i64.wrap ((b.toNat:Nat):Int))=((bitsLen x:Nat):Int)from by rw [hc,A2d (x:=((bitsLen (x / 256):Nat):Int)) oM oM,A2d oM oM];omega]
 refine A0f tab [] (by exact .tmp rfl .nil) (Back.here cntL) ?_
 exact⟨Y,Y⟩
theorem len_x{x:Nat}(hx:x<8192):Ret1 prog mn 137 [.int .u64 x] (.int .i64 (bitsLen x)) v:=by
 refine A0d tab func137 Y nB (args:=[_]) ?_
 refine su ?_
 refine Q_op fun ho=>A0u ho bod176 Y Y Y Y Y (len64_y hx).1 ?_
 clear ho
 refine su ?_
 refine A0f tab [] (by exact .tmp rfl .nil) (Back.here cntL) ?_
 exact⟨Y,Y⟩
theorem pow2_x{x:Nat}(hx:x<8192):Ret1 prog mn 219 [natV x] (.int .u64 (2 ^ bitsLen x:Nat)) v:=by
 refine A0d tab func219 Y nB (args:=[_]) ?_
 have h8:=(len64_y (mn:=mn) (v:=v) hx).2
 refine su ?_
 rw [wrapU oM]
 refine Q_op fun ho=>A0u ho bod137 Y Y Y Y Y (len_x hx) ?_
 clear ho
 refine su ?_
 refine A0f tab [] (by exact .tmp rfl .nil) (Back.here cntL) ?_
 refine⟨?_,Y⟩
 show Value.int .u64 (IntKind.u64.wrap (1*2 ^ (min ((bitsLen x:Nat):Int).toNat IntKind.u64.bits)))=_
 have h2:min ((bitsLen x:Nat):Int).toNat IntKind.u64.bits=bitsLen x:=by simp [IntKind.bits];omega
 have h3:2 ^ bitsLen x≤2^16:=Nat.pow_le_pow_right dM h8
 rw [h2,show(1:Int)*2 ^ bitsLen x=((2 ^ bitsLen x:Nat):Int) by push_cast;omega,wrapU oM]
theorem next_x{bs:Nat}{s:Int}:CallsB prog mn 220 #[ptV bs] (RetB fun r β'=>∃z:Int,r = .int .u64 z∧β'=[(bs,#[.int .u64 z],326)]) [(bs,#[.int .u64 s],326)] v:=by
 refine A0d tab func220 Y nB (args:=[_]) ?_
 refine su ?_
 refine A1d [9] [0,1,2,3,4,5,6,7,8,9] A1e Y kR ?_
 refine su ?_
 refine A1d [9] [0,1,2,3,4,5,6,7,8,9] A1e Y kR ?_
 refine su ?_
 refine A1d [9] [0,1,2,3,4,5,6,7,8,9] A1e Y kR ?_
 refine su ?_
 refine A0f tab _ (by exact .tmp rfl .nil) (Back.here fun _=>Nat.le_refl _) ?_
 exact⟨_,Y,Y⟩
theorem other{z:Int}{m:Nat}(h0:0<m)(hm:m≤16384):∃o:Nat,o<m∧IntKind.i64.wrap (IntKind.u64.wrap ((BitVec.ofInt IntKind.u64.bits z &&& BitVec.ofInt IntKind.u64.bits (IntKind.u64.wrap (((m:Nat):Int)-1))).toNat:Int))=(o:Int):=by
 rw [show((m:Int)-1)=((m-1:Nat):Int) by omega,wrapU (x:=m-1) oM]
 refine⟨(BitVec.ofInt IntKind.u64.bits z &&& BitVec.ofInt IntKind.u64.bits ((m-1:Nat):Int)).toNat,?_,?_⟩
 ·rw [BitVec.toNat_and]
  refine Nat.lt_of_le_of_lt Nat.and_le_right ?_
  rw [BitVec.toNat_ofInt]
  simp [IntKind.bits]
  omega
 ·have h1:(BitVec.ofInt IntKind.u64.bits z &&& BitVec.ofInt IntKind.u64.bits ((m-1:Nat):Int)).toNat≤16384:=by
   rw [BitVec.toNat_and]
   refine Nat.le_trans Nat.and_le_right ?_
   rw [BitVec.toNat_ofInt]
   simp [IntKind.bits]
   omega
  rw [wrapU oM,A2d oM oM]
end
end Go.Proofs.YtclejblcnfaeaaaGreatDoor.W
end
section
namespace Go.Proofs.YtclejblcnfaeaaaGreatDoor.W
open Go Go.Pal Go.Conc View
open Go.Proofs.Tryz
open Go.Sort (swp PermIn bitsLen)
set_option maxHeartbeats 4000000
section
variable{mn:Who}{v:View}{cap:Nat}{ζ:ZT}{d:Array E}{c:Array Value}
abbrev AS4:=Nat×Int×Array E×Array Value
theorem zki_break_x{p:Prop}(k:p:=by
 refine A0d tab u238 Y nB (args:=[_,_,_,_]) ?_
 have hle:=hD.le
 obtain⟨l,hl⟩:∃l,l=y-x:=⟨_,rfl⟩
 refine su ?_
 rw [show((y:Int)-(x:Int))=(l:Int) by omega]
 by_cases h8:l≥8
 ·rw [show decide ((l:Int)≥8)=true from decide_eq_true oM]
  refine sw fun bx=>?_
  rw [wrapU oM]
  refine Q_op fun ho=>A0u ho w219 Y Y Y Y Y (pow2_x (x:=l) oM) ?_
  clear ho
  obtain⟨m,hm⟩:∃m,m=2 ^ bitsLen l:=⟨_,rfl⟩
  rw [←hm]
  have hm1:0<m:=by rw [hm];exact Nat.two_pow_pos _
  have hm2:m≤2*l:=by rw [hm];exact Go.Sort.two_pow_bitsLen_le oM
  refine su ?_
  rw [show IntKind.i64.wrap (IntKind.i64.wrap ((x:Int)+IntKind.i64.wrap (IntKind.i64.wrap ((l:Int).tdiv 4)*2))-1)=((x+l / 4*2-1:Nat):Int)from by
   rw [show IntKind.i64.wrap ((x:Int)+IntKind.i64.wrap (IntKind.i64.wrap ((l:Int).tdiv 4)*2))=((x+l / 4*2:Nat):Int)from q5 (k:=2) oM oM oM,A2d oM oM]
   omega]
  refine A1q (α:=AS4) (fun z=>⟨[],[(11,natV z.1),(8,natV l),(10,.int .u64 (m:Nat)),(9,ptV bx),(0,slV b d.size cap),(1,natV x)],[(b,z.2.2.2,tE),(bx,#[.int .u64 z.2.1],326)]⟩)
   (fun z u=>u=v∧DBz ζ cap z.2.2.1 z.2.2.2∧z.2.2.1.size=d.size∧PermIn x y d z.2.2.1∧x+l / 4*2-1≤z.1∧z.1≤x+l / 4*2+2) (fun z=>x+l / 4*2+2-z.1) (x+l / 4*2-1,(l:Int),d,c)
   ⟨Y,rg,(show ∀p,_≤Pal.cnt p [(bx,#[.int .u64 l],326),(b,c,tE)]from cntL)⟩ (Le.refl _) ⟨Y,hD,Y,Go.Sort.permIn_refl _ _ _,Nat.le_refl _,by simp only;omega⟩ ?_
  rintro⟨i,s,d1,c1⟩ u ⟨rfl,hD1,hs1,hp1,hi1,hi2⟩
  simp only at hD1 hs1 hp1 hi1 hi2
  dsimp only
  refine su ?_
  rw [show IntKind.i64.wrap (IntKind.i64.wrap ((x:Int)+IntKind.i64.wrap (IntKind.i64.wrap ((l:Int).tdiv 4)*2))+1)=((x+l / 4*2+1:Nat):Int)from by
   rw [show IntKind.i64.wrap ((x:Int)+IntKind.i64.wrap (IntKind.i64.wrap ((l:Int).tdiv 4)*2))=((x+l / 4*2:Nat):Int)from q5 (k:=2) oM oM oM,A2d oM oM]
   omega]
  by_cases hgo:i≤x+l / 4*2+1
  ·rw [show decide ((i:Int)≤((x+l / 4*2+1:Nat):Int))=true from decide_eq_true oM]
   refine su ?_
   refine Q_op fun ho=>A0o [(bx,#[.int .u64 s],326)] [(b,c1,tE)] ho w220 Y Y Y Y Y cntA (next_x) (fun x β' hR=>?_)
   clear ho
   obtain⟨z,rfl,rfl⟩:=hR
   obtain⟨o,ho1,ho2⟩:=other (z:=z) hm1 oM
   refine su ?_
   rw [ho2]
   by_cases hol:o≥l
   ·rw [show decide ((o:Int)≥(l:Int))=true from decide_eq_true oM]
    refine su ?_
    rw [show((o:Int)-(l:Int))=((o-l:Nat):Int) by omega]
    ((refine A1d [17,19] [0,1,2,3,4,5,6,7,8,9,10,11,12,13,14,15,16,17,18,19] A1e Y kR ?_);(repeat (refine ss ?_));(refine A0s tab (x+(o-l)) Y Y Y kR Y Y (by first|rfl|omega) Y Y oM ?_);(refine A1a tab Y Y Y kR Y ib (hD1.rdE oM) ?_);(repeat (refine ss ?_));(refine A0s tab (i) Y Y Y kR Y Y (by first|rfl|omega) Y Y oM ?_);(refine A1a tab Y Y Y kR Y ib (hD1.rdE oM) ?_);(refine A0s tab (i) Y Y Y kR Y Y (by first|rfl|omega) Y Y oM ?_);(refine S_do kR (A1c tab Y Y Y Y Y (by first|exact A1f _|rfl) (by first|exact A1v _|rfl) ib (hD1.off oM Y) sb ⟨Le.refl _,kp,?_⟩));(refine A0s tab (x+(o-l)) Y Y Y kR Y Y (by first|rfl|omega) Y Y oM ?_);(refine S_do kR (A1c tab Y Y Y Y Y (by first|exact A1f _|rfl) (by first|exact A1v _|rfl) ib ((hD1.set oM (hD1.ok oM)).off (by first|simpa using oM|(simp;omega)) Y) sb ⟨Le.refl _,kp,?_⟩));(repeat (refine ss ?_)))
    refine su ?_
    refine A0b ⟨(i+1,z,swp d1 i (x+(o-l)),A0z (A0z c1 (0+(i)*SZ) (eV d1[x+(o-l)]!).cells.toList) (0+(x+(o-l))*SZ) (eV d1[i]!).cells.toList),u,by simp only;omega,⟨Y,rg,by(try simp only [SZ]);exact cntL⟩,Le.refl _,Y,hD1.swp oM oM,by rw [Go.Sort.size_swp,hs1],?_,by simp only;omega,by simp only;omega⟩
    exact Go.Sort.permIn_trans _ _ _ _ _ hp1 (Go.Sort.swp_permIn _ _ _ _ _ oM oM oM oM oM)
   ·rw [show decide ((o:Int)≥(l:Int))=false from decide_eq_false oM]
    refine su ?_
    ((refine A1d [17,19] [0,1,2,3,4,5,6,7,8,9,10,11,12,13,14,15,16,17,18,19] A1e Y kR ?_);(repeat (refine ss ?_));(refine A0s tab (x+o) Y Y Y kR Y Y (by first|rfl|omega) Y Y oM ?_);(refine A1a tab Y Y Y kR Y ib (hD1.rdE oM) ?_);(repeat (refine ss ?_));(refine A0s tab (i) Y Y Y kR Y Y (by first|rfl|omega) Y Y oM ?_);(refine A1a tab Y Y Y kR Y ib (hD1.rdE oM) ?_);(refine A0s tab (i) Y Y Y kR Y Y (by first|rfl|omega) Y Y oM ?_);(refine S_do kR (A1c tab Y Y Y Y Y (by first|exact A1f _|rfl) (by first|exact A1v _|rfl) ib (hD1.off oM Y) sb ⟨Le.refl _,kp,?_⟩));(refine A0s tab (x+o) Y Y Y kR Y Y (by first|rfl|omega) Y Y oM ?_);(refine S_do kR (A1c tab Y Y Y Y Y (by first|exact A1f _|rfl) (by first|exact A1v _|rfl) ib ((hD1.set oM (hD1.ok oM)).off (by first|simpa using oM|(simp;omega)) Y) sb ⟨Le.refl _,kp,?_⟩));(repeat (refine ss ?_)))
    refine su ?_
    refine A0b ⟨(i+1,z,swp d1 i (x+o),A0z (A0z c1 (0+(i)*SZ) (eV d1[x+o]!).cells.toList) (0+(x+o)*SZ) (eV d1[i]!).cells.toList),u,by simp only;omega,⟨Y,rg,by(try simp only [SZ]);exact cntL⟩,Le.refl _,Y,hD1.swp oM oM,by rw [Go.Sort.size_swp,hs1],?_,by simp only;omega,by simp only;omega⟩
    exact Go.Sort.permIn_trans _ _ _ _ _ hp1 (Go.Sort.swp_permIn _ _ _ _ _ oM oM oM oM oM)
  ·rw [show decide ((i:Int)≤((x+l / 4*2+1:Nat):Int))=false from decide_eq_false oM]
   refine su ?_
   refine A1o tab [(b,c1,tE)] .nil (Back.here cntL) ?_
   exact⟨Y,d1,c1,Y,hD1,hs1,hp1⟩
 ·rw [show decide ((l:Int)≥8)=false from decide_eq_false oM]
  refine su ?_
  refine A1o tab [(b,c,tE)] .nil (Back.here cntL) ?_
  exact⟨Y,d,c,Y,hD,Y,Go.Sort.permIn_refl _ _ _⟩):p:=k
theorem break_x{b x y:Nat}{f:Value}(hD:DBz ζ cap d c)(hcap:d.size<2^30)(h256:y-x<8192)(hxy:x≤y)(hy:y≤d.size) :
  CallsB prog mn 238 #[slV b d.size cap,natV x,natV y,f] (RetB fun r β'=>r = .tuple #[]∧SBox ζ cap b (fun d'=>d'.size=d.size∧PermIn x y d d') β') [(b,c,tE)] v:=zki_break_x
end
end Go.Proofs.YtclejblcnfaeaaaGreatDoor.W
end
