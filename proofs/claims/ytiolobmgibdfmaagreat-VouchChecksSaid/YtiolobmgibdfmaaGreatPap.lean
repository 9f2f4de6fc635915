/- Part 16. -/
import Derived.Test.YtiolobmgibdfmaaGreatPal
set_option linter.all false
section
namespace Go.Proofs.YtiolobmgibdfmaaGreat
open Go Go.Pal Go.Pal.Mu Go.Conc View
open Go.Proofs.Tryz
set_option maxHeartbeats 4000000
section
variable{A:Par}{base:Nat}{K:View→Goroutine→Prop}{j a:Nat}{L:List Nat}{v:View}{cf:Frame}{cs:List Frame}
theorem round2{body:Code}(hbody:body=A5y)(D:Dist A)(hb0:0<base)(hj:j<A.J){b:Frame}(hbn:b.kind = .normal)(hbr:b.roundOf=none)(hbf:b.fn=181){k:List Item}{n' it wst:Nat}{xn:Nat}(hx:xn≤201)(hit:it≤4)
  (IH:∀m',m'≤n'→∀q' ρ',A8e A a q' ρ'→JX prog A base K m' j q' f181.ntmps b (.inLoop body::.inBlock 0::k) cs [] ρ' v)
  (hle:∀m',m'≤n'→JX prog A base K m' j (.mx a [] .le) f181.ntmps b k cs [] [(0,muP A)] v) :
  XF prog false (proto A base).Wd (AtW prog A base K n' j (.mx a [] (hd ⟨false,true,false,xn⟩ true true it))) f181.ntmps b (.code body::.inLoop body::.inBlock 0::k) cs [] [(0,muP A),(2,.int .i64 (wst:Nat)),(3,.bool true),(4,.bool true),(5,.int .i64 (it:Nat)),(6,.int .i32 (encW ⟨false,true,false,xn⟩))] v:=by
 subst hbody
 have hbk:b.kind≠.early:=by rw [hbn];simp
 have hx6:xn<256:=oM
 have hx7:xn+1<256:=oM
 rw [show hd ⟨false,true,false,xn⟩ true true it = .cas ⟨false,true,false,xn⟩ true true it from rfl]
 refine A4a (id:=1) ?_
 refine gb ?_
 refine fP R4 (vB (b5 (x:=⟨false,true,false,xn⟩) hx6) Z) ?_
 refine gs ?_
 refine gb ?_
 refine fP R4 (vB (b4z bo) Z) ?_
 refine gs ?_
 refine fP R4 (vI (o1 bo) Z) ?_
 refine gb ?_
 refine fP R4 (vB (b5n bo) Z) ?_
 refine gb ?_
 refine fP R4 (vB (b1n bo) Z) ?_
 refine gb ?_
 refine fP R4 (vB (b2z bo) Z) ?_
 refine gs ?_
 refine fP R4 (vI (n2 bo) Z) ?_
 refine gs ?_
 refine A3c (o:=⟨false,true,false,xn⟩) (o':=A2j ⟨false,true,false,xn⟩ true true) (pY:=.le) (pN:=.rd true true it) D hb0 hj hbk hbr Z Z Z e180 sM sM sM sM Z Z Z Z Z (by simp [A2j]) (fun m _=>.casL Z Z) Z (fun _ _ h=>.casN h) Z ?_ (A0h hb0 Z fun m4 hm4=>?_)
 ·haveI:=sJ A K n' j (.mx a [] .le) v hb0 Z
  refine gb ?_
  refine fP R4 (vB (b5z bo) Z) ?_
  refine gs ?_
  exact F_i0 (hle _ oM)
 ·refine gs ?_
  refine ldL D hb0 hj hbf R6 (fun y m hkn=>⟨_,.rd,(A0z _ _ _ _).symm,?_⟩)
  haveI:=sJ A K m4 j (.mx a [] (hd y true true it)) (v) hb0 Z
  refine gs ?_
  exact F_iL A wst true true it y (IH _ oM _ _ ⟨y,true,true,it,wst,Z,Z,hkn.n,hit,(fun e=>hkn.awk (by first|rfl|cases e)),sM⟩)
theorem round7{body:Code}(hbody:body=A5y)(D:Dist A)(hb0:0<base)(hj:j<A.J){b:Frame}(hbn:b.kind = .normal)(hbr:b.roundOf=none)(hbf:b.fn=181){k:List Item}{n' it wst:Nat}{xn:Nat}(hx:xn≤201)(hit:it≤4)
  (IH:∀m',m'≤n'→∀q' ρ',A8e A a q' ρ'→JX prog A base K m' j q' f181.ntmps b (.inLoop body::.inBlock 0::k) cs [] ρ' v)
  (hle:∀m',m'≤n'→JX prog A base K m' j (.mx a [] .le) f181.ntmps b k cs [] [(0,muP A)] v) :
  XF prog false (proto A base).Wd (AtW prog A base K n' j (.mx a [] (hd ⟨true,true,true,xn⟩ true false it))) f181.ntmps b (.code body::.inLoop body::.inBlock 0::k) cs [] [(0,muP A),(2,.int .i64 (wst:Nat)),(3,.bool false),(4,.bool true),(5,.int .i64 (it:Nat)),(6,.int .i32 (encW ⟨true,true,true,xn⟩))] v:=by
 subst hbody
 have hbk:b.kind≠.early:=by rw [hbn];simp
 have hx6:xn<256:=oM
 have hx7:xn+1<256:=oM
 rw [show hd ⟨true,true,true,xn⟩ true false it = .cas ⟨true,true,true,xn⟩ true false it from rfl]
 refine A4a (id:=1) ?_
 refine gb ?_
 refine fP R4 (vB (b5 (x:=⟨true,true,true,xn⟩) hx6) Z) ?_
 refine gs ?_
 refine gb ?_
 refine fP R4 (vB (b4z bo) Z) ?_
 refine gb ?_
 refine fP R4 (vB (b5n bo) Z) ?_
 refine gs ?_
 refine fP R4 (vI (p8 bo) Z) ?_
 refine gb ?_
 refine fP R4 (vB (b2z bo) Z) ?_
 refine gs ?_
 refine fP R4 (vI (n2 bo) Z) ?_
 refine gs ?_
 cases wst with
 | zero=>
  refine A3c (o:=⟨true,true,true,xn⟩) (o':=A2j ⟨true,true,true,xn⟩ true false) (pY:=.t1 false) (pN:=.rd true false it) D hb0 hj hbk hbr Z Z Z e180 sM sM sM sM Z Z Z Z Z (by simp [A2j]) (fun m _=>.casQ true Z) Z (fun _ _ h=>.casN h) Z (A0h hb0 Z fun m3 hm3=>?_) (A0h hb0 Z fun m4 hm4=>?_)
  ·refine gb ?_
   refine fP R4 (vB (b5z bo) Z) ?_
   refine gb ?_
   refine gb ?_
   refine gs ?_
   refine A2l D hb0 hj hbk hbr Z Z Z e199 A4v sM sM sM sM Z (fun t1=>⟨.wait false,fun _ _=>.t1,Z,A0h hb0 Z fun m9 hm9=>?_⟩)
   refine gs ?_
   refine A1x (o1:=.tmp 91) D hb0 hj hbk hbr Z Z Z Z e200 Z (A0h hb0 Z fun m5 hm5=>?_)
   refine gs ?_
   refine A2l D hb0 hj hbk hbr Z Z Z e199 A4v sM sM sM sM Z (fun t2=>?_)
   cases hsv:decide (IntKind.i64.wrap ((t2:Int)-((t1:Nat):Int)) > 1000000)with
   | true=>
    refine⟨.got true,fun _ _=>.t2 true,Z,A0h hb0 Z fun m8 hm8=>?_⟩
    refine gb ?_
    refine fP R4 (vB hsv Z) ?_
    refine gs ?_
    refine ldL D hb0 hj hbf R6 (fun y m hkn=>?_)
    obtain⟨yl,yw,ys,yn⟩:=y
    cases ys with
    | false=>
     refine⟨_,.gotR Z,(A0z _ _ _ _).symm,?_⟩
     have hy6:yn<256:=Nat.lt_of_le_of_lt hkn.n oM
     haveI:=sJ A K m8 j (.mx a [] (hd ⟨yl,yw,false,yn⟩ true true 0)) (v) hb0 Z
     refine gb ?_
     refine fP R4 (vB (b4n bo) Z) ?_
     refine gs ?_
     exact F_iL A t1 true true 0 (⟨yl,yw,false,yn⟩) (IH _ oM _ _ ⟨⟨yl,yw,false,yn⟩,true,true,0,t1,Z,Z,hkn.n,oM,(fun _=>hkn.gotR Z Z),(fun _=>rfl)⟩)
    | true=>
     obtain⟨hyl,hyw,hyn⟩:=hkn.got rfl rfl
     have hy6:yn<256:=Nat.lt_of_le_of_lt hkn.n oM
     simp only at hyl hyw hyn
     subst hyl hyw
     obtain⟨yk,rfl⟩:∃yk,yn=yk+1:=⟨yn-1,oM⟩
     refine⟨_,.gotH Z,Z,A0h hb0 Z fun m6 hm6=>?_⟩
     refine gb ?_
     refine fP R4 (vB (b4n bo) Z) ?_
     refine gb ?_
     refine fP R4 (vB (b3n bo) Z) ?_
     refine gb ?_
     refine fP R4 (vB (s3z bo) Z) ?_
     refine gs ?_
     cases yk with
     | zero=>
      refine bi ?_
      refine fP R4 (vB (s31 bo) Z) ?_
      refine gb ?_
      refine gs ?_
      refine adL D hb0 hj R6 (fun z m hkn=>⟨.le,⟨true,z.w,z.s && !true,z.n-1⟩,?_,.hand,Z,?_⟩)
      ·obtain⟨h1,h2,h3⟩:=hkn.hand rfl
       have hz6:z.n<256:=Nat.lt_of_le_of_lt hkn.n oM
       refine(m11 hz6 h1 h2 h3).trans ?_;rw [h2];rfl
      haveI:=sJ A K m6 j (.mx a [] .le) v hb0 Z
      refine gs ?_
      exact F_i0 (hle _ oM)
     | succ yk=>
      refine bi ?_
      refine fP R4 (vB (s31 bo) Z) ?_
      refine gs ?_
      refine adL D hb0 hj R6 (fun z m hkn=>⟨.le,⟨true,z.w,z.s && !false,z.n-1⟩,?_,.hand,Z,?_⟩)
      ·obtain⟨h1,h2,h3⟩:=hkn.hand rfl
       have hz6:z.n<256:=Nat.lt_of_le_of_lt hkn.n oM
       refine(m7 hz6 h1 h3).trans ?_;rw [h2];rfl
      haveI:=sJ A K m6 j (.mx a [] .le) v hb0 Z
      refine gs ?_
      exact F_i0 (hle _ oM)
   | false=>
    refine⟨.got false,fun _ _=>.t2 false,Z,A0h hb0 Z fun m8 hm8=>?_⟩
    refine gb ?_
    refine fP R4 (vB hsv Z) ?_
    refine gs ?_
    refine ldL D hb0 hj hbf R6 (fun y m hkn=>?_)
    obtain⟨yl,yw,ys,yn⟩:=y
    cases ys with
    | false=>
     refine⟨_,.gotR Z,(A0z _ _ _ _).symm,?_⟩
     have hy6:yn<256:=Nat.lt_of_le_of_lt hkn.n oM
     haveI:=sJ A K m8 j (.mx a [] (hd ⟨yl,yw,false,yn⟩ true false 0)) (v) hb0 Z
     refine gb ?_
     refine fP R4 (vB (b4n bo) Z) ?_
     refine gs ?_
     exact F_iL A t1 false true 0 (⟨yl,yw,false,yn⟩) (IH _ oM _ _ ⟨⟨yl,yw,false,yn⟩,true,false,0,t1,Z,Z,hkn.n,oM,(fun _=>hkn.gotR Z Z),(fun _=>rfl)⟩)
    | true=>
     obtain⟨hyl,hyw,hyn⟩:=hkn.got rfl rfl
     have hy6:yn<256:=Nat.lt_of_le_of_lt hkn.n oM
     simp only at hyl hyw hyn
     subst hyl hyw
     obtain⟨yk,rfl⟩:∃yk,yn=yk+1:=⟨yn-1,oM⟩
     refine⟨_,.gotH Z,Z,A0h hb0 Z fun m6 hm6=>?_⟩
     refine gb ?_
     refine fP R4 (vB (b4n bo) Z) ?_
     refine gb ?_
     refine fP R4 (vB (b3n bo) Z) ?_
     refine gb ?_
     refine fP R4 (vB (s3z bo) Z) ?_
     refine gb ?_
     refine gs ?_
     refine adL D hb0 hj R6 (fun z m hkn=>⟨.le,⟨true,z.w,z.s && !true,z.n-1⟩,?_,.hand,Z,?_⟩)
     ·obtain⟨h1,h2,h3⟩:=hkn.hand rfl
      have hz6:z.n<256:=Nat.lt_of_le_of_lt hkn.n oM
      refine(m11 hz6 h1 h2 h3).trans ?_;rw [h2];rfl
     haveI:=sJ A K m6 j (.mx a [] .le) v hb0 Z
     refine gs ?_
     exact F_i0 (hle _ oM)
  ·refine gs ?_
   refine ldL D hb0 hj hbf R6 (fun y m hkn=>⟨_,.rd,(A0z _ _ _ _).symm,?_⟩)
   haveI:=sJ A K m4 j (.mx a [] (hd y true false it)) (v) hb0 Z
   refine gs ?_
   exact F_iL A 0 false true it y (IH _ oM _ _ ⟨y,true,false,it,0,Z,Z,hkn.n,hit,(fun e=>hkn.awk (by first|rfl|cases e)),sM⟩)
 | succ wst=>
  refine A3c (o:=⟨true,true,true,xn⟩) (o':=A2j ⟨true,true,true,xn⟩ true false) (pY:=.wait false) (pN:=.rd true false it) D hb0 hj hbk hbr Z Z Z e180 sM sM sM sM Z Z Z Z Z (by simp [A2j]) (fun m _=>.casQ false Z) Z (fun _ _ h=>.casN h) Z (A0h hb0 Z fun m3 hm3=>?_) (A0h hb0 Z fun m4 hm4=>?_)
  ·refine gb ?_
   refine fP R4 (vB (b5z bo) Z) ?_
   refine gb ?_
   refine gb ?_
   refine gs ?_
   refine gs ?_
   refine A1x (o1:=.tmp 91) D hb0 hj hbk hbr Z Z Z Z e200 Z (A0h hb0 Z fun m5 hm5=>?_)
   refine gs ?_
   refine A2l D hb0 hj hbk hbr Z Z Z e199 A4v sM sM sM sM Z (fun t2=>?_)
   cases hsv:decide (IntKind.i64.wrap ((t2:Int)-(((wst+1):Nat):Int)) > 1000000)with
   | true=>
    refine⟨.got true,fun _ _=>.t2 true,Z,A0h hb0 Z fun m8 hm8=>?_⟩
    refine gb ?_
    refine fP R4 (vB hsv Z) ?_
    refine gs ?_
    refine ldL D hb0 hj hbf R6 (fun y m hkn=>?_)
    obtain⟨yl,yw,ys,yn⟩:=y
    cases ys with
    | false=>
     refine⟨_,.gotR Z,(A0z _ _ _ _).symm,?_⟩
     have hy6:yn<256:=Nat.lt_of_le_of_lt hkn.n oM
     haveI:=sJ A K m8 j (.mx a [] (hd ⟨yl,yw,false,yn⟩ true true 0)) (v) hb0 Z
     refine gb ?_
     refine fP R4 (vB (b4n bo) Z) ?_
     refine gs ?_
     exact F_iL A (wst+1) true true 0 (⟨yl,yw,false,yn⟩) (IH _ oM _ _ ⟨⟨yl,yw,false,yn⟩,true,true,0,(wst+1),Z,Z,hkn.n,oM,(fun _=>hkn.gotR Z Z),(fun _=>rfl)⟩)
    | true=>
     obtain⟨hyl,hyw,hyn⟩:=hkn.got rfl rfl
     have hy6:yn<256:=Nat.lt_of_le_of_lt hkn.n oM
     simp only at hyl hyw hyn
     subst hyl hyw
     obtain⟨yk,rfl⟩:∃yk,yn=yk+1:=⟨yn-1,oM⟩
     refine⟨_,.gotH Z,Z,A0h hb0 Z fun m6 hm6=>?_⟩
     refine gb ?_
     refine fP R4 (vB (b4n bo) Z) ?_
     refine gb ?_
     refine fP R4 (vB (b3n bo) Z) ?_
     refine gb ?_
     refine fP R4 (vB (s3z bo) Z) ?_
     refine gs ?_
     cases yk with
     | zero=>
      refine bi ?_
      refine fP R4 (vB (s31 bo) Z) ?_
      refine gb ?_
      refine gs ?_
      refine adL D hb0 hj R6 (fun z m hkn=>⟨.le,⟨true,z.w,z.s && !true,z.n-1⟩,?_,.hand,Z,?_⟩)
      ·obtain⟨h1,h2,h3⟩:=hkn.hand rfl
       have hz6:z.n<256:=Nat.lt_of_le_of_lt hkn.n oM
       refine(m11 hz6 h1 h2 h3).trans ?_;rw [h2];rfl
      haveI:=sJ A K m6 j (.mx a [] .le) v hb0 Z
      refine gs ?_
      exact F_i0 (hle _ oM)
     | succ yk=>
      refine bi ?_
      refine fP R4 (vB (s31 bo) Z) ?_
      refine gs ?_
      refine adL D hb0 hj R6 (fun z m hkn=>⟨.le,⟨true,z.w,z.s && !false,z.n-1⟩,?_,.hand,Z,?_⟩)
      ·obtain⟨h1,h2,h3⟩:=hkn.hand rfl
       have hz6:z.n<256:=Nat.lt_of_le_of_lt hkn.n oM
       refine(m7 hz6 h1 h3).trans ?_;rw [h2];rfl
      haveI:=sJ A K m6 j (.mx a [] .le) v hb0 Z
      refine gs ?_
      exact F_i0 (hle _ oM)
   | false=>
    refine⟨.got false,fun _ _=>.t2 false,Z,A0h hb0 Z fun m8 hm8=>?_⟩
    refine gb ?_
    refine fP R4 (vB hsv Z) ?_
    refine gs ?_
    refine ldL D hb0 hj hbf R6 (fun y m hkn=>?_)
    obtain⟨yl,yw,ys,yn⟩:=y
    cases ys with
    | false=>
     refine⟨_,.gotR Z,(A0z _ _ _ _).symm,?_⟩
     have hy6:yn<256:=Nat.lt_of_le_of_lt hkn.n oM
     haveI:=sJ A K m8 j (.mx a [] (hd ⟨yl,yw,false,yn⟩ true false 0)) (v) hb0 Z
     refine gb ?_
     refine fP R4 (vB (b4n bo) Z) ?_
     refine gs ?_
     exact F_iL A (wst+1) false true 0 (⟨yl,yw,false,yn⟩) (IH _ oM _ _ ⟨⟨yl,yw,false,yn⟩,true,false,0,(wst+1),Z,Z,hkn.n,oM,(fun _=>hkn.gotR Z Z),(fun _=>rfl)⟩)
    | true=>
     obtain⟨hyl,hyw,hyn⟩:=hkn.got rfl rfl
     have hy6:yn<256:=Nat.lt_of_le_of_lt hkn.n oM
     simp only at hyl hyw hyn
     subst hyl hyw
     obtain⟨yk,rfl⟩:∃yk,yn=yk+1:=⟨yn-1,oM⟩
     refine⟨_,.gotH Z,Z,A0h hb0 Z fun m6 hm6=>?_⟩
     refine gb ?_
     refine fP R4 (vB (b4n bo) Z) ?_
     refine gb ?_
     refine fP R4 (vB (b3n bo) Z) ?_
     refine gb ?_
     refine fP R4 (vB (s3z bo) Z) ?_
     refine gb ?_
     refine gs ?_
     refine adL D hb0 hj R6 (fun z m hkn=>⟨.le,⟨true,z.w,z.s && !true,z.n-1⟩,?_,.hand,Z,?_⟩)
     ·obtain⟨h1,h2,h3⟩:=hkn.hand rfl
      have hz6:z.n<256:=Nat.lt_of_le_of_lt hkn.n oM
      refine(m11 hz6 h1 h2 h3).trans ?_;rw [h2];rfl
     haveI:=sJ A K m6 j (.mx a [] .le) v hb0 Z
     refine gs ?_
     exact F_i0 (hle _ oM)
  ·refine gs ?_
   refine ldL D hb0 hj hbf R6 (fun y m hkn=>⟨_,.rd,(A0z _ _ _ _).symm,?_⟩)
   haveI:=sJ A K m4 j (.mx a [] (hd y true false it)) (v) hb0 Z
   refine gs ?_
   exact F_iL A (wst+1) false true it y (IH _ oM _ _ ⟨y,true,false,it,(wst+1),Z,Z,hkn.n,hit,(fun e=>hkn.awk (by first|rfl|cases e)),sM⟩)
theorem round12{body:Code}(hbody:body=A5y)(D:Dist A)(hb0:0<base)(hj:j<A.J){b:Frame}(hbn:b.kind = .normal)(hbr:b.roundOf=none)(hbf:b.fn=181){k:List Item}{n' it wst:Nat}  (hx:0≤201)(hit:it≤4)
  (IH:∀m',m'≤n'→∀q' ρ',A8e A a q' ρ'→JX prog A base K m' j q' f181.ntmps b (.inLoop body::.inBlock 0::k) cs [] ρ' v)
  (hle:∀m',m'≤n'→JX prog A base K m' j (.mx a [] .le) f181.ntmps b k cs [] [(0,muP A)] v) :
  XF prog false (proto A base).Wd (AtW prog A base K n' j (.mx a [] (hd ⟨true,false,false,0⟩ false false it))) f181.ntmps b (.code body::.inLoop body::.inBlock 0::k) cs [] [(0,muP A),(2,.int .i64 (wst:Nat)),(3,.bool false),(4,.bool false),(5,.int .i64 (it:Nat)),(6,.int .i32 (encW ⟨true,false,false,0⟩))] v:=by
 subst hbody
 have hbk:b.kind≠.early:=by rw [hbn];simp
 have hx6:0<256:=oM
 have hx7:0+1<256:=oM
 rw [show hd ⟨true,false,false,0⟩ false false it = .spin ⟨true,false,false,0⟩ false false it from rfl]
 refine A4a (id:=1) ?_
 refine gb ?_
 refine fP R4 (vB (b5 (x:=⟨true,false,false,0⟩) hx6) Z) ?_
 refine gs ?_
 refine A7b (t:=it) (pY:=.rd false false (it+1)) (pN:=.cas ⟨true,false,false,0⟩ false false it) D hb0 hj hbk hbr Z Z Z e196 sM sM sM sM Z Z (fun h _ _=>.spinY h) (fun _ _=>.spinN) Z Z (fun h4=>A0h hb0 Z fun m1 hm1=>?_) (A0h hb0 Z fun m1 hm1=>?_)
 ·refine gb ?_
  refine fP R4 (vB (b2z bo) Z) ?_
  refine gb ?_
  refine fP R4 (vB (s3n bo) Z) ?_
  refine gs ?_
  refine F_ext hbk hbr Z Z Z e197 A5p ?_
  refine gs ?_
  refine fP R4 (vI (wr_it h4) Z) ?_
  refine gs ?_
  refine ldL D hb0 hj hbf R6 (fun y m hkn=>⟨_,.rd,(A0z _ _ _ _).symm,?_⟩)
  haveI:=sJ A K m1 j (.mx a [] (hd y false false (it+1))) (v) hb0 Z
  refine gs ?_
  exact F_iL A wst false false (it+1) y (IH _ oM _ _ ⟨y,false,false,(it+1),wst,Z,Z,hkn.n,oM,(fun e=>hkn.awk (by first|rfl|cases e)),sM⟩)
 ·refine gs ?_
  refine gb ?_
  refine fP R4 (vB (b4z bo) Z) ?_
  refine gs ?_
  refine fP R4 (vI (o1 bo) Z) ?_
  refine gb ?_
  refine fP R4 (vB (b5n bo) Z) ?_
  refine gs ?_
  refine fP R4 (vI (p8 bo) Z) ?_
  refine gs ?_
  cases wst with
  | zero=>
   refine A3c (o:=⟨true,false,false,0⟩) (o':=A2j ⟨true,false,false,0⟩ false false) (pY:=.t1 false) (pN:=.rd false false it) D hb0 hj hbk hbr Z Z Z e180 sM sM sM sM Z Z Z Z Z (by simp [A2j]) (fun m _=>.casQ true Z) Z (fun _ _ h=>.casN h) Z (A0h hb0 Z fun m3 hm3=>?_) (A0h hb0 Z fun m4 hm4=>?_)
   ·refine gb ?_
    refine fP R4 (vB (b5z bo) Z) ?_
    refine gb ?_
    refine gb ?_
    refine gs ?_
    refine A2l D hb0 hj hbk hbr Z Z Z e199 A4v sM sM sM sM Z (fun t1=>⟨.wait false,fun _ _=>.t1,Z,A0h hb0 Z fun m9 hm9=>?_⟩)
    refine gs ?_
    refine A1x (o1:=.tmp 91) D hb0 hj hbk hbr Z Z Z Z e200 Z (A0h hb0 Z fun m5 hm5=>?_)
    refine gs ?_
    refine A2l D hb0 hj hbk hbr Z Z Z e199 A4v sM sM sM sM Z (fun t2=>?_)
    cases hsv:decide (IntKind.i64.wrap ((t2:Int)-((t1:Nat):Int)) > 1000000)with
    | true=>
     refine⟨.got true,fun _ _=>.t2 true,Z,A0h hb0 Z fun m8 hm8=>?_⟩
     refine gb ?_
     refine fP R4 (vB hsv Z) ?_
     refine gs ?_
     refine ldL D hb0 hj hbf R6 (fun y m hkn=>?_)
     obtain⟨yl,yw,ys,yn⟩:=y
     cases ys with
     | false=>
      refine⟨_,.gotR Z,(A0z _ _ _ _).symm,?_⟩
      have hy6:yn<256:=Nat.lt_of_le_of_lt hkn.n oM
      haveI:=sJ A K m8 j (.mx a [] (hd ⟨yl,yw,false,yn⟩ true true 0)) (v) hb0 Z
      refine gb ?_
      refine fP R4 (vB (b4n bo) Z) ?_
      refine gs ?_
      exact F_iL A t1 true true 0 (⟨yl,yw,false,yn⟩) (IH _ oM _ _ ⟨⟨yl,yw,false,yn⟩,true,true,0,t1,Z,Z,hkn.n,oM,(fun _=>hkn.gotR Z Z),(fun _=>rfl)⟩)
     | true=>
      obtain⟨hyl,hyw,hyn⟩:=hkn.got rfl rfl
      have hy6:yn<256:=Nat.lt_of_le_of_lt hkn.n oM
      simp only at hyl hyw hyn
      subst hyl hyw
      obtain⟨yk,rfl⟩:∃yk,yn=yk+1:=⟨yn-1,oM⟩
      refine⟨_,.gotH Z,Z,A0h hb0 Z fun m6 hm6=>?_⟩
      refine gb ?_
      refine fP R4 (vB (b4n bo) Z) ?_
      refine gb ?_
      refine fP R4 (vB (b3n bo) Z) ?_
      refine gb ?_
      refine fP R4 (vB (s3z bo) Z) ?_
      refine gs ?_
      cases yk with
      | zero=>
       refine bi ?_
       refine fP R4 (vB (s31 bo) Z) ?_
       refine gb ?_
       refine gs ?_
       refine adL D hb0 hj R6 (fun z m hkn=>⟨.le,⟨true,z.w,z.s && !true,z.n-1⟩,?_,.hand,Z,?_⟩)
       ·obtain⟨h1,h2,h3⟩:=hkn.hand rfl
        have hz6:z.n<256:=Nat.lt_of_le_of_lt hkn.n oM
        refine(m11 hz6 h1 h2 h3).trans ?_;rw [h2];rfl
       haveI:=sJ A K m6 j (.mx a [] .le) v hb0 Z
       refine gs ?_
       exact F_i0 (hle _ oM)
      | succ yk=>
       refine bi ?_
       refine fP R4 (vB (s31 bo) Z) ?_
       refine gs ?_
       refine adL D hb0 hj R6 (fun z m hkn=>⟨.le,⟨true,z.w,z.s && !false,z.n-1⟩,?_,.hand,Z,?_⟩)
       ·obtain⟨h1,h2,h3⟩:=hkn.hand rfl
        have hz6:z.n<256:=Nat.lt_of_le_of_lt hkn.n oM
        refine(m7 hz6 h1 h3).trans ?_;rw [h2];rfl
       haveI:=sJ A K m6 j (.mx a [] .le) v hb0 Z
       refine gs ?_
       exact F_i0 (hle _ oM)
    | false=>
     refine⟨.got false,fun _ _=>.t2 false,Z,A0h hb0 Z fun m8 hm8=>?_⟩
     refine gb ?_
     refine fP R4 (vB hsv Z) ?_
     refine gs ?_
     refine ldL D hb0 hj hbf R6 (fun y m hkn=>?_)
     obtain⟨yl,yw,ys,yn⟩:=y
     cases ys with
     | false=>
      refine⟨_,.gotR Z,(A0z _ _ _ _).symm,?_⟩
      have hy6:yn<256:=Nat.lt_of_le_of_lt hkn.n oM
      haveI:=sJ A K m8 j (.mx a [] (hd ⟨yl,yw,false,yn⟩ true false 0)) (v) hb0 Z
      refine gb ?_
      refine fP R4 (vB (b4n bo) Z) ?_
      refine gs ?_
      exact F_iL A t1 false true 0 (⟨yl,yw,false,yn⟩) (IH _ oM _ _ ⟨⟨yl,yw,false,yn⟩,true,false,0,t1,Z,Z,hkn.n,oM,(fun _=>hkn.gotR Z Z),(fun _=>rfl)⟩)
     | true=>
      obtain⟨hyl,hyw,hyn⟩:=hkn.got rfl rfl
      have hy6:yn<256:=Nat.lt_of_le_of_lt hkn.n oM
      simp only at hyl hyw hyn
      subst hyl hyw
      obtain⟨yk,rfl⟩:∃yk,yn=yk+1:=⟨yn-1,oM⟩
      refine⟨_,.gotH Z,Z,A0h hb0 Z fun m6 hm6=>?_⟩
      refine gb ?_
      refine fP R4 (vB (b4n bo) Z) ?_
      refine gb ?_
      refine fP R4 (vB (b3n bo) Z) ?_
      refine gb ?_
      refine fP R4 (vB (s3z bo) Z) ?_
      refine gb ?_
      refine gs ?_
      refine adL D hb0 hj R6 (fun z m hkn=>⟨.le,⟨true,z.w,z.s && !true,z.n-1⟩,?_,.hand,Z,?_⟩)
      ·obtain⟨h1,h2,h3⟩:=hkn.hand rfl
       have hz6:z.n<256:=Nat.lt_of_le_of_lt hkn.n oM
       refine(m11 hz6 h1 h2 h3).trans ?_;rw [h2];rfl
      haveI:=sJ A K m6 j (.mx a [] .le) v hb0 Z
      refine gs ?_
      exact F_i0 (hle _ oM)
   ·refine gs ?_
    refine ldL D hb0 hj hbf R6 (fun y m hkn=>⟨_,.rd,(A0z _ _ _ _).symm,?_⟩)
    haveI:=sJ A K m4 j (.mx a [] (hd y false false it)) (v) hb0 Z
    refine gs ?_
    exact F_iL A 0 false false it y (IH _ oM _ _ ⟨y,false,false,it,0,Z,Z,hkn.n,hit,(fun e=>hkn.awk (by first|rfl|cases e)),sM⟩)
  | succ wst=>
   refine A3c (o:=⟨true,false,false,0⟩) (o':=A2j ⟨true,false,false,0⟩ false false) (pY:=.wait false) (pN:=.rd false false it) D hb0 hj hbk hbr Z Z Z e180 sM sM sM sM Z Z Z Z Z (by simp [A2j]) (fun m _=>.casQ false Z) Z (fun _ _ h=>.casN h) Z (A0h hb0 Z fun m3 hm3=>?_) (A0h hb0 Z fun m4 hm4=>?_)
   ·refine gb ?_
    refine fP R4 (vB (b5z bo) Z) ?_
    refine gb ?_
    refine gb ?_
    refine gs ?_
    refine gs ?_
    refine A1x (o1:=.tmp 91) D hb0 hj hbk hbr Z Z Z Z e200 Z (A0h hb0 Z fun m5 hm5=>?_)
    refine gs ?_
    refine A2l D hb0 hj hbk hbr Z Z Z e199 A4v sM sM sM sM Z (fun t2=>?_)
    cases hsv:decide (IntKind.i64.wrap ((t2:Int)-(((wst+1):Nat):Int)) > 1000000)with
    | true=>
     refine⟨.got true,fun _ _=>.t2 true,Z,A0h hb0 Z fun m8 hm8=>?_⟩
     refine gb ?_
     refine fP R4 (vB hsv Z) ?_
     refine gs ?_
     refine ldL D hb0 hj hbf R6 (fun y m hkn=>?_)
     obtain⟨yl,yw,ys,yn⟩:=y
     cases ys with
     | false=>
      refine⟨_,.gotR Z,(A0z _ _ _ _).symm,?_⟩
      have hy6:yn<256:=Nat.lt_of_le_of_lt hkn.n oM
      haveI:=sJ A K m8 j (.mx a [] (hd ⟨yl,yw,false,yn⟩ true true 0)) (v) hb0 Z
      refine gb ?_
      refine fP R4 (vB (b4n bo) Z) ?_
      refine gs ?_
      exact F_iL A (wst+1) true true 0 (⟨yl,yw,false,yn⟩) (IH _ oM _ _ ⟨⟨yl,yw,false,yn⟩,true,true,0,(wst+1),Z,Z,hkn.n,oM,(fun _=>hkn.gotR Z Z),(fun _=>rfl)⟩)
     | true=>
      obtain⟨hyl,hyw,hyn⟩:=hkn.got rfl rfl
      have hy6:yn<256:=Nat.lt_of_le_of_lt hkn.n oM
      simp only at hyl hyw hyn
      subst hyl hyw
      obtain⟨yk,rfl⟩:∃yk,yn=yk+1:=⟨yn-1,oM⟩
      refine⟨_,.gotH Z,Z,A0h hb0 Z fun m6 hm6=>?_⟩
      refine gb ?_
      refine fP R4 (vB (b4n bo) Z) ?_
      refine gb ?_
      refine fP R4 (vB (b3n bo) Z) ?_
      refine gb ?_
      refine fP R4 (vB (s3z bo) Z) ?_
      refine gs ?_
      cases yk with
      | zero=>
       refine bi ?_
       refine fP R4 (vB (s31 bo) Z) ?_
       refine gb ?_
       refine gs ?_
       refine adL D hb0 hj R6 (fun z m hkn=>⟨.le,⟨true,z.w,z.s && !true,z.n-1⟩,?_,.hand,Z,?_⟩)
       ·obtain⟨h1,h2,h3⟩:=hkn.hand rfl
        have hz6:z.n<256:=Nat.lt_of_le_of_lt hkn.n oM
        refine(m11 hz6 h1 h2 h3).trans ?_;rw [h2];rfl
       haveI:=sJ A K m6 j (.mx a [] .le) v hb0 Z
       refine gs ?_
       exact F_i0 (hle _ oM)
      | succ yk=>
       refine bi ?_
       refine fP R4 (vB (s31 bo) Z) ?_
       refine gs ?_
       refine adL D hb0 hj R6 (fun z m hkn=>⟨.le,⟨true,z.w,z.s && !false,z.n-1⟩,?_,.hand,Z,?_⟩)
       ·obtain⟨h1,h2,h3⟩:=hkn.hand rfl
        have hz6:z.n<256:=Nat.lt_of_le_of_lt hkn.n oM
        refine(m7 hz6 h1 h3).trans ?_;rw [h2];rfl
       haveI:=sJ A K m6 j (.mx a [] .le) v hb0 Z
       refine gs ?_
       exact F_i0 (hle _ oM)
    | false=>
     refine⟨.got false,fun _ _=>.t2 false,Z,A0h hb0 Z fun m8 hm8=>?_⟩
     refine gb ?_
     refine fP R4 (vB hsv Z) ?_
     refine gs ?_
     refine ldL D hb0 hj hbf R6 (fun y m hkn=>?_)
     obtain⟨yl,yw,ys,yn⟩:=y
     cases ys with
     | false=>
      refine⟨_,.gotR Z,(A0z _ _ _ _).symm,?_⟩
      have hy6:yn<256:=Nat.lt_of_le_of_lt hkn.n oM
      haveI:=sJ A K m8 j (.mx a [] (hd ⟨yl,yw,false,yn⟩ true false 0)) (v) hb0 Z
      refine gb ?_
      refine fP R4 (vB (b4n bo) Z) ?_
      refine gs ?_
      exact F_iL A (wst+1) false true 0 (⟨yl,yw,false,yn⟩) (IH _ oM _ _ ⟨⟨yl,yw,false,yn⟩,true,false,0,(wst+1),Z,Z,hkn.n,oM,(fun _=>hkn.gotR Z Z),(fun _=>rfl)⟩)
     | true=>
      obtain⟨hyl,hyw,hyn⟩:=hkn.got rfl rfl
      have hy6:yn<256:=Nat.lt_of_le_of_lt hkn.n oM
      simp only at hyl hyw hyn
      subst hyl hyw
      obtain⟨yk,rfl⟩:∃yk,yn=yk+1:=⟨yn-1,oM⟩
      refine⟨_,.gotH Z,Z,A0h hb0 Z fun m6 hm6=>?_⟩
      refine gb ?_
      refine fP R4 (vB (b4n bo) Z) ?_
      refine gb ?_
      refine fP R4 (vB (b3n bo) Z) ?_
      refine gb ?_
      refine fP R4 (vB (s3z bo) Z) ?_
      refine gb ?_
      refine gs ?_
      refine adL D hb0 hj R6 (fun z m hkn=>⟨.le,⟨true,z.w,z.s && !true,z.n-1⟩,?_,.hand,Z,?_⟩)
      ·obtain⟨h1,h2,h3⟩:=hkn.hand rfl
       have hz6:z.n<256:=Nat.lt_of_le_of_lt hkn.n oM
       refine(m11 hz6 h1 h2 h3).trans ?_;rw [h2];rfl
      haveI:=sJ A K m6 j (.mx a [] .le) v hb0 Z
      refine gs ?_
      exact F_i0 (hle _ oM)
   ·refine gs ?_
    refine ldL D hb0 hj hbf R6 (fun y m hkn=>⟨_,.rd,(A0z _ _ _ _).symm,?_⟩)
    haveI:=sJ A K m4 j (.mx a [] (hd y false false it)) (v) hb0 Z
    refine gs ?_
    exact F_iL A (wst+1) false false it y (IH _ oM _ _ ⟨y,false,false,it,(wst+1),Z,Z,hkn.n,hit,(fun e=>hkn.awk (by first|rfl|cases e)),sM⟩)
end
end Go.Proofs.YtiolobmgibdfmaaGreat
end
