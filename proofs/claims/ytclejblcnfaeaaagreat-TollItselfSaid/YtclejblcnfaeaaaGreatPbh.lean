/- Part 34. -/
import Derived.Test.YtclejblcnfaeaaaGreatPbg
set_option linter.all false
section
namespace Go.Proofs.YtclejblcnfaeaaaGreat.S
open Go Go.Pal Go.Conc View
open Go.Proofs.Tryz
open Go.Proofs.YtclejblcnfaeaaaGreat.W (wrapU wrapUr wrap8 len64_y len_x pow2_x next_x other)
open Go.Sort (swp PermIn bitsLen)
set_option maxHeartbeats 4000000
section
variable{mn:Who}{v:View}{cap:Nat}{ζ:ZT}{d:Array E}{c:Array Value}
abbrev AS4:=Nat×Int×Array E×Array Value
theorem break_x{b x y:Nat}{f:Value}(hD:DBz ζ cap d c)(hcap:d.size<2^30)(h256:y-x<8192)(hxy:x≤y)(hy:y≤d.size) :
  CallsB prog mn 155 #[slV b d.size cap,natV x,natV y,f] (RetB fun r β'=>r = .tuple #[]∧SBox ζ cap b (fun d'=>d'.size=d.size∧PermIn x y d d') β') [(b,c,142)] v:=by
 refine A0d tab func155 Y nB (args:=[_,_,_,_]) ?_
 have hle:=hD.le
 obtain⟨l,hl⟩:∃l,l=y-x:=⟨_,rfl⟩
 repeat (first|refine st ?_|refine qb fun bx=>?_)
 rw [show((y:Int)-(x:Int))=(l:Int) by omega]
 by_cases h8:l≥8
 ·rw [show decide ((l:Int)≥8)=true from decide_eq_true oM]
  repeat (first|refine st ?_|refine qb fun bx=>?_)
  rw [wrapU oM]
  refine Q_op fun ho=>A0y ho bod198 Y Y Y Y Y (pow2_x (x:=l) oM) ?_
  clear ho
  obtain⟨m,hm⟩:∃m,m=2 ^ bitsLen l:=⟨_,rfl⟩
  rw [←hm]
  have hm1:0<m:=by rw [hm];exact Nat.two_pow_pos _
  have hm2:m≤2*l:=by rw [hm];exact Go.Sort.two_pow_bitsLen_le oM
  repeat (first|refine st ?_|refine qb fun bx=>?_)
  rw [show IntKind.i64.wrap (IntKind.i64.wrap ((x:Int)+IntKind.i64.wrap (IntKind.i64.wrap ((l:Int).tdiv 4)*2))-1)=((x+l / 4*2-1:Nat):Int)from by
   rw [show IntKind.i64.wrap ((x:Int)+IntKind.i64.wrap (IntKind.i64.wrap ((l:Int).tdiv 4)*2))=((x+l / 4*2:Nat):Int)from q5 (k:=2) oM oM oM,A2i oM oM]
   omega]
  refine A1l (α:=AS4) (fun z=>⟨[],[(11,natV z.1),(8,natV l),(10,.int .u64 (m:Nat)),(9,ptV bx),(0,slV b d.size cap),(1,natV x)],[(b,z.2.2.2,142),(bx,#[.int .u64 z.2.1],261)]⟩)
   (fun z u=>u=v∧DBz ζ cap z.2.2.1 z.2.2.2∧z.2.2.1.size=d.size∧PermIn x y d z.2.2.1∧x+l / 4*2-1≤z.1∧z.1≤x+l / 4*2+2) (fun z=>x+l / 4*2+2-z.1) (x+l / 4*2-1,(l:Int),d,c)
   ⟨Y,rg,(show ∀p,_≤Pal.cnt p [(bx,#[.int .u64 l],261),(b,c,142)]from cntL)⟩ (Le.refl _) ⟨Y,hD,Y,Go.Sort.permIn_refl _ _ _,Nat.le_refl _,by simp only;omega⟩ ?_
  rintro⟨i,s,d1,c1⟩ u ⟨rfl,hD1,hs1,hp1,hi1,hi2⟩
  simp only at hD1 hs1 hp1 hi1 hi2
  dsimp only
  repeat (first|refine st ?_|refine qb fun bx=>?_)
  rw [show IntKind.i64.wrap (IntKind.i64.wrap ((x:Int)+IntKind.i64.wrap (IntKind.i64.wrap ((l:Int).tdiv 4)*2))+1)=((x+l / 4*2+1:Nat):Int)from by
   rw [show IntKind.i64.wrap ((x:Int)+IntKind.i64.wrap (IntKind.i64.wrap ((l:Int).tdiv 4)*2))=((x+l / 4*2:Nat):Int)from q5 (k:=2) oM oM oM,A2i oM oM]
   omega]
  by_cases hgo:i≤x+l / 4*2+1
  ·rw [show decide ((i:Int)≤((x+l / 4*2+1:Nat):Int))=true from decide_eq_true oM]
   repeat (first|refine st ?_|refine qb fun bx=>?_)
   refine Q_op fun ho=>A0k [(bx,#[.int .u64 s],261)] [(b,c1,142)] ho bod199 Y Y Y Y Y cntA (next_x) (fun x β' hR=>?_)
   clear ho
   obtain⟨z,rfl,rfl⟩:=hR
   obtain⟨o,ho1,ho2⟩:=other (z:=z) hm1 oM
   repeat (first|refine st ?_|refine qb fun bx=>?_)
   rw [ho2]
   by_cases hol:o≥l
   ·rw [show decide ((o:Int)≥(l:Int))=true from decide_eq_true oM]
    repeat (first|refine st ?_|refine qb fun bx=>?_)
    rw [show((o:Int)-(l:Int))=((o-l:Nat):Int) by omega]
    ((refine A1f [17,19] [0,1,2,3,4,5,6,7,8,9,10,11,12,13,14,15,16,17,18,19] A1c Y kR ?_);(repeat (refine ss ?_));(refine A0h tab (x+(o-l)) Y Y Y kR Y Y (by first|rfl|omega) Y Y oM ?_);(refine A0p tab Y Y Y kR Y ib (hD1.rdE oM) ?_);(repeat (refine ss ?_));(refine A0h tab (i) Y Y Y kR Y Y (by first|rfl|omega) Y Y oM ?_);(refine A0p tab Y Y Y kR Y ib (hD1.rdE oM) ?_);(refine A0h tab (i) Y Y Y kR Y Y (by first|rfl|omega) Y Y oM ?_);(refine S_do kR (A0q tab Y Y Y Y Y (by first|exact A0r _|rfl) (by first|exact A1d _|rfl) ib (hD1.off oM Y) sb ⟨Le.refl _,kp,?_⟩));(refine A0h tab (x+(o-l)) Y Y Y kR Y Y (by first|rfl|omega) Y Y oM ?_);(refine S_do kR (A0q tab Y Y Y Y Y (by first|exact A0r _|rfl) (by first|exact A1d _|rfl) ib ((hD1.set oM (hD1.ok oM)).off (by first|simpa using oM|(simp;omega)) Y) sb ⟨Le.refl _,kp,?_⟩));(repeat (refine ss ?_)))
    repeat (first|refine st ?_|refine qb fun bx=>?_)
    refine A0a ⟨(i+1,z,swp d1 i (x+(o-l)),A1b (A1b c1 (0+(i)*1) (eV d1[x+(o-l)]!).cells.toList) (0+(x+(o-l))*1) (eV d1[i]!).cells.toList),u,by simp only;omega,⟨Y,rg,cntL⟩,Le.refl _,Y,hD1.swp oM oM,by rw [Go.Sort.size_swp,hs1],?_,by simp only;omega,by simp only;omega⟩
    exact Go.Sort.permIn_trans _ _ _ _ _ hp1 (Go.Sort.swp_permIn _ _ _ _ _ oM oM oM oM oM)
   ·rw [show decide ((o:Int)≥(l:Int))=false from decide_eq_false oM]
    repeat (first|refine st ?_|refine qb fun bx=>?_)
    ((refine A1f [17,19] [0,1,2,3,4,5,6,7,8,9,10,11,12,13,14,15,16,17,18,19] A1c Y kR ?_);(repeat (refine ss ?_));(refine A0h tab (x+o) Y Y Y kR Y Y (by first|rfl|omega) Y Y oM ?_);(refine A0p tab Y Y Y kR Y ib (hD1.rdE oM) ?_);(repeat (refine ss ?_));(refine A0h tab (i) Y Y Y kR Y Y (by first|rfl|omega) Y Y oM ?_);(refine A0p tab Y Y Y kR Y ib (hD1.rdE oM) ?_);(refine A0h tab (i) Y Y Y kR Y Y (by first|rfl|omega) Y Y oM ?_);(refine S_do kR (A0q tab Y Y Y Y Y (by first|exact A0r _|rfl) (by first|exact A1d _|rfl) ib (hD1.off oM Y) sb ⟨Le.refl _,kp,?_⟩));(refine A0h tab (x+o) Y Y Y kR Y Y (by first|rfl|omega) Y Y oM ?_);(refine S_do kR (A0q tab Y Y Y Y Y (by first|exact A0r _|rfl) (by first|exact A1d _|rfl) ib ((hD1.set oM (hD1.ok oM)).off (by first|simpa using oM|(simp;omega)) Y) sb ⟨Le.refl _,kp,?_⟩));(repeat (refine ss ?_)))
    repeat (first|refine st ?_|refine qb fun bx=>?_)
    refine A0a ⟨(i+1,z,swp d1 i (x+o),A1b (A1b c1 (0+(i)*1) (eV d1[x+o]!).cells.toList) (0+(x+o)*1) (eV d1[i]!).cells.toList),u,by simp only;omega,⟨Y,rg,cntL⟩,Le.refl _,Y,hD1.swp oM oM,by rw [Go.Sort.size_swp,hs1],?_,by simp only;omega,by simp only;omega⟩
    exact Go.Sort.permIn_trans _ _ _ _ _ hp1 (Go.Sort.swp_permIn _ _ _ _ _ oM oM oM oM oM)
  ·rw [show decide ((i:Int)≤((x+l / 4*2+1:Nat):Int))=false from decide_eq_false oM]
   repeat (first|refine st ?_|refine qb fun bx=>?_)
   refine A1n tab [(b,c1,142)] .nil (Back.here cntL) ?_
   exact⟨Y,d1,c1,Y,hD1,hs1,hp1⟩
 ·rw [show decide ((l:Int)≥8)=false from decide_eq_false oM]
  repeat (first|refine st ?_|refine qb fun bx=>?_)
  refine A1n tab [(b,c,142)] .nil (Back.here cntL) ?_
  exact⟨Y,d,c,Y,hD,Y,Go.Sort.permIn_refl _ _ _⟩
end
end Go.Proofs.YtclejblcnfaeaaaGreat.S
end
