/- Part 18. -/
import Derived.Test.YtiolobmgibdfmaaGreatPal
set_option linter.all false
section
namespace Go.Proofs.YtiolobmgibdfmaaGreat
open Go Go.Pal Go.Pal.Mu Go.Conc View
open Go.Proofs.Tryz
set_option maxHeartbeats 4000000
section
variable{A:Par}{base:Nat}{K:View→Goroutine→Prop}{j a:Nat}{L:List Nat}{v:View}{cf:Frame}{cs:List Frame}
theorem round4{body:Code}(hbody:body=A5y)(D:Dist A)(hb0:0<base)(hj:j<A.J){b:Frame}(hbn:b.kind = .normal)(hbr:b.roundOf=none)(hbf:b.fn=181){k:List Item}{n' it wst:Nat}{xn:Nat}(hx:xn≤201)(hit:it≤4)
  (IH:∀m',m'≤n'→∀q' ρ',A8e A a q' ρ'→JX prog A base K m' j q' f181.ntmps b (.inLoop body::.inBlock 0::k) cs [] ρ' v)
  (hle:∀m',m'≤n'→JX prog A base K m' j (.mx a [] .le) f181.ntmps b k cs [] [(0,muP A)] v) :
  XF prog false (proto A base).Wd (AtW prog A base K n' j (.mx a [] (hd ⟨false,true,true,xn⟩ true false it))) f181.ntmps b (.code body::.inLoop body::.inBlock 0::k) cs [] [(0,muP A),(2,.int .i64 (wst:Nat)),(3,.bool false),(4,.bool true),(5,.int .i64 (it:Nat)),(6,.int .i32 (encW ⟨false,true,true,xn⟩))] v:=by
 subst hbody
 have hbk:b.kind≠.early:=by rw [hbn];simp
 have hx6:xn<256:=oM
 have hx7:xn+1<256:=oM
 rw [show hd ⟨false,true,true,xn⟩ true false it = .cas ⟨false,true,true,xn⟩ true false it from rfl]
 refine A4a (id:=1) ?_
 refine gb ?_
 refine A0a tab hbk hbr rfl rfl rfl rfl (vB (b5 (x:=⟨false,true,true,xn⟩) hx6) rfl) ?_
 refine gs ?_
 refine gb ?_
 refine A0a tab hbk hbr rfl rfl rfl rfl (vB (b4z bo) rfl) ?_
 refine gb ?_
 refine A0a tab hbk hbr rfl rfl rfl rfl (vB (b5n bo) rfl) ?_
 refine gs ?_
 refine A0a tab hbk hbr rfl rfl rfl rfl (vI (p8 bo) rfl) ?_
 refine gb ?_
 refine A0a tab hbk hbr rfl rfl rfl rfl (vB (b2z bo) rfl) ?_
 refine gs ?_
 refine A0a tab hbk hbr rfl rfl rfl rfl (vI (n2 bo) rfl) ?_
 refine gs ?_
 cases wst with
 | zero=>
  refine A3c (o:=⟨false,true,true,xn⟩) (o':=A2j ⟨false,true,true,xn⟩ true false) (pY:=.t1 false) (pN:=.rd true false it) D hb0 hj hbk hbr rfl rfl rfl e180 sM sM sM sM rfl rfl rfl rfl rfl (by simp [A2j]) (fun m _=>.casQ true rfl) rfl (fun _ _ h=>.casN h) rfl (A0h hb0 rfl fun m3 hm3=>?_) (A0h hb0 rfl fun m4 hm4=>?_)
  ·refine gb ?_
   refine A0a tab hbk hbr rfl rfl rfl rfl (vB (b5z bo) rfl) ?_
   refine gb ?_
   refine gb ?_
   refine gs ?_
   refine A2l D hb0 hj hbk hbr rfl rfl rfl e199 A4v sM sM sM sM rfl (fun t1=>⟨.wait false,fun _ _=>.t1,rfl,A0h hb0 rfl fun m9 hm9=>?_⟩)
   refine gs ?_
   refine A1x (o1:=.tmp 91) D hb0 hj hbk hbr rfl rfl rfl rfl e200 rfl (A0h hb0 rfl fun m5 hm5=>?_)
   refine gs ?_
   refine A2l D hb0 hj hbk hbr rfl rfl rfl e199 A4v sM sM sM sM rfl (fun t2=>?_)
   cases hsv:decide (IntKind.i64.wrap ((t2:Int)-((t1:Nat):Int)) > 1000000)with
   | true=>
    refine⟨.got true,fun _ _=>.t2 true,rfl,A0h hb0 rfl fun m8 hm8=>?_⟩
    refine gb ?_
    refine A0a tab hbk hbr rfl rfl rfl rfl (vB hsv rfl) ?_
    refine gs ?_
    refine A0r D hb0 hj hbk hbr rfl rfl rfl (by rw [hbf];exact func181) A1v (tab.und_ok _ _ rfl) sM sM sM sM rfl rfl (fun y m hkn=>?_)
    obtain⟨yl,yw,ys,yn⟩:=y
    cases ys with
    | false=>
     refine⟨_,.gotR rfl,(A0z _ _ _ _).symm,?_⟩
     have hy6:yn<256:=Nat.lt_of_le_of_lt hkn.n oM
     haveI:=sJ A K m8 j (.mx a [] (hd ⟨yl,yw,false,yn⟩ true true 0)) (v) hb0 rfl
     refine gb ?_
     refine A0a tab hbk hbr rfl rfl rfl rfl (vB (b4n bo) rfl) ?_
     refine gs ?_
     exact F_in [(0,muP A),(2,.int .i64 ((t1:Nat):Int)),(3,.bool true),(4,.bool true),(5,.int .i64 ((0:Nat):Int)),(6,.int .i32 (encW ⟨yl,yw,false,yn⟩))] (IH _ oM _ _ ⟨⟨yl,yw,false,yn⟩,true,true,0,t1,rfl,rfl,hkn.n,oM,(fun _=>hkn.gotR rfl rfl),(fun _=>rfl)⟩) ⟨rfl,rfl,rfl,rfl,rfl,rfl,trivial⟩
    | true=>
     obtain⟨hyl,hyw,hyn⟩:=hkn.got rfl rfl
     have hy6:yn<256:=Nat.lt_of_le_of_lt hkn.n oM
     simp only at hyl hyw hyn
     subst hyl hyw
     obtain⟨yk,rfl⟩:∃yk,yn=yk+1:=⟨yn-1,oM⟩
     refine⟨_,.gotH rfl,rfl,A0h hb0 rfl fun m6 hm6=>?_⟩
     refine gb ?_
     refine A0a tab hbk hbr rfl rfl rfl rfl (vB (b4n bo) rfl) ?_
     refine gb ?_
     refine A0a tab hbk hbr rfl rfl rfl rfl (vB (b3n bo) rfl) ?_
     refine gb ?_
     refine A0a tab hbk hbr rfl rfl rfl rfl (vB (s3z bo) rfl) ?_
     refine gs ?_
     cases yk with
     | zero=>
      refine bi ?_
      refine A0a tab hbk hbr rfl rfl rfl rfl (vB (s31 bo) rfl) ?_
      refine gb ?_
      refine gs ?_
      refine A1d D hb0 hj hbk hbr rfl rfl rfl e182 sM sM sM sM rfl rfl rfl (fun z m hkn=>⟨.le,⟨true,z.w,z.s && !true,z.n-1⟩,?_,.hand,rfl,?_⟩)
      ·obtain⟨h1,h2,h3⟩:=hkn.hand rfl
       have hz6:z.n<256:=Nat.lt_of_le_of_lt hkn.n oM
       refine(m11 hz6 h1 h2 h3).trans ?_;rw [h2];rfl
      haveI:=sJ A K m6 j (.mx a [] .le) v hb0 rfl
      refine gs ?_
      exact F_in [(0,muP A)] (hle _ oM) ⟨rfl,trivial⟩
     | succ yk=>
      refine bi ?_
      refine A0a tab hbk hbr rfl rfl rfl rfl (vB (s31 bo) rfl) ?_
      refine gs ?_
      refine A1d D hb0 hj hbk hbr rfl rfl rfl e182 sM sM sM sM rfl rfl rfl (fun z m hkn=>⟨.le,⟨true,z.w,z.s && !false,z.n-1⟩,?_,.hand,rfl,?_⟩)
      ·obtain⟨h1,h2,h3⟩:=hkn.hand rfl
       have hz6:z.n<256:=Nat.lt_of_le_of_lt hkn.n oM
       refine(m7 hz6 h1 h3).trans ?_;rw [h2];rfl
      haveI:=sJ A K m6 j (.mx a [] .le) v hb0 rfl
      refine gs ?_
      exact F_in [(0,muP A)] (hle _ oM) ⟨rfl,trivial⟩
   | false=>
    refine⟨.got false,fun _ _=>.t2 false,rfl,A0h hb0 rfl fun m8 hm8=>?_⟩
    refine gb ?_
    refine A0a tab hbk hbr rfl rfl rfl rfl (vB hsv rfl) ?_
    refine gs ?_
    refine A0r D hb0 hj hbk hbr rfl rfl rfl (by rw [hbf];exact func181) A1v (tab.und_ok _ _ rfl) sM sM sM sM rfl rfl (fun y m hkn=>?_)
    obtain⟨yl,yw,ys,yn⟩:=y
    cases ys with
    | false=>
     refine⟨_,.gotR rfl,(A0z _ _ _ _).symm,?_⟩
     have hy6:yn<256:=Nat.lt_of_le_of_lt hkn.n oM
     haveI:=sJ A K m8 j (.mx a [] (hd ⟨yl,yw,false,yn⟩ true false 0)) (v) hb0 rfl
     refine gb ?_
     refine A0a tab hbk hbr rfl rfl rfl rfl (vB (b4n bo) rfl) ?_
     refine gs ?_
     exact F_in [(0,muP A),(2,.int .i64 ((t1:Nat):Int)),(3,.bool false),(4,.bool true),(5,.int .i64 ((0:Nat):Int)),(6,.int .i32 (encW ⟨yl,yw,false,yn⟩))] (IH _ oM _ _ ⟨⟨yl,yw,false,yn⟩,true,false,0,t1,rfl,rfl,hkn.n,oM,(fun _=>hkn.gotR rfl rfl),(fun _=>rfl)⟩) ⟨rfl,rfl,rfl,rfl,rfl,rfl,trivial⟩
    | true=>
     obtain⟨hyl,hyw,hyn⟩:=hkn.got rfl rfl
     have hy6:yn<256:=Nat.lt_of_le_of_lt hkn.n oM
     simp only at hyl hyw hyn
     subst hyl hyw
     obtain⟨yk,rfl⟩:∃yk,yn=yk+1:=⟨yn-1,oM⟩
     refine⟨_,.gotH rfl,rfl,A0h hb0 rfl fun m6 hm6=>?_⟩
     refine gb ?_
     refine A0a tab hbk hbr rfl rfl rfl rfl (vB (b4n bo) rfl) ?_
     refine gb ?_
     refine A0a tab hbk hbr rfl rfl rfl rfl (vB (b3n bo) rfl) ?_
     refine gb ?_
     refine A0a tab hbk hbr rfl rfl rfl rfl (vB (s3z bo) rfl) ?_
     refine gb ?_
     refine gs ?_
     refine A1d D hb0 hj hbk hbr rfl rfl rfl e182 sM sM sM sM rfl rfl rfl (fun z m hkn=>⟨.le,⟨true,z.w,z.s && !true,z.n-1⟩,?_,.hand,rfl,?_⟩)
     ·obtain⟨h1,h2,h3⟩:=hkn.hand rfl
      have hz6:z.n<256:=Nat.lt_of_le_of_lt hkn.n oM
      refine(m11 hz6 h1 h2 h3).trans ?_;rw [h2];rfl
     haveI:=sJ A K m6 j (.mx a [] .le) v hb0 rfl
     refine gs ?_
     exact F_in [(0,muP A)] (hle _ oM) ⟨rfl,trivial⟩
  ·refine gs ?_
   refine A0r D hb0 hj hbk hbr rfl rfl rfl (by rw [hbf];exact func181) A1v (tab.und_ok _ _ rfl) sM sM sM sM rfl rfl (fun y m hkn=>⟨_,.rd,(A0z _ _ _ _).symm,?_⟩)
   haveI:=sJ A K m4 j (.mx a [] (hd y true false it)) (v) hb0 rfl
   refine gs ?_
   exact F_in [(0,muP A),(2,.int .i64 ((0:Nat):Int)),(3,.bool false),(4,.bool true),(5,.int .i64 ((it:Nat):Int)),(6,.int .i32 (encW y))] (IH _ oM _ _ ⟨y,true,false,it,0,rfl,rfl,hkn.n,hit,(fun e=>hkn.awk (by first|rfl|cases e)),sM⟩) ⟨rfl,rfl,rfl,rfl,rfl,rfl,trivial⟩
 | succ wst=>
  refine A3c (o:=⟨false,true,true,xn⟩) (o':=A2j ⟨false,true,true,xn⟩ true false) (pY:=.wait false) (pN:=.rd true false it) D hb0 hj hbk hbr rfl rfl rfl e180 sM sM sM sM rfl rfl rfl rfl rfl (by simp [A2j]) (fun m _=>.casQ false rfl) rfl (fun _ _ h=>.casN h) rfl (A0h hb0 rfl fun m3 hm3=>?_) (A0h hb0 rfl fun m4 hm4=>?_)
  ·refine gb ?_
   refine A0a tab hbk hbr rfl rfl rfl rfl (vB (b5z bo) rfl) ?_
   refine gb ?_
   refine gb ?_
   refine gs ?_
   refine gs ?_
   refine A1x (o1:=.tmp 91) D hb0 hj hbk hbr rfl rfl rfl rfl e200 rfl (A0h hb0 rfl fun m5 hm5=>?_)
   refine gs ?_
   refine A2l D hb0 hj hbk hbr rfl rfl rfl e199 A4v sM sM sM sM rfl (fun t2=>?_)
   cases hsv:decide (IntKind.i64.wrap ((t2:Int)-(((wst+1):Nat):Int)) > 1000000)with
   | true=>
    refine⟨.got true,fun _ _=>.t2 true,rfl,A0h hb0 rfl fun m8 hm8=>?_⟩
    refine gb ?_
    refine A0a tab hbk hbr rfl rfl rfl rfl (vB hsv rfl) ?_
    refine gs ?_
    refine A0r D hb0 hj hbk hbr rfl rfl rfl (by rw [hbf];exact func181) A1v (tab.und_ok _ _ rfl) sM sM sM sM rfl rfl (fun y m hkn=>?_)
    obtain⟨yl,yw,ys,yn⟩:=y
    cases ys with
    | false=>
     refine⟨_,.gotR rfl,(A0z _ _ _ _).symm,?_⟩
     have hy6:yn<256:=Nat.lt_of_le_of_lt hkn.n oM
     haveI:=sJ A K m8 j (.mx a [] (hd ⟨yl,yw,false,yn⟩ true true 0)) (v) hb0 rfl
     refine gb ?_
     refine A0a tab hbk hbr rfl rfl rfl rfl (vB (b4n bo) rfl) ?_
     refine gs ?_
     exact F_in [(0,muP A),(2,.int .i64 (((wst+1):Nat):Int)),(3,.bool true),(4,.bool true),(5,.int .i64 ((0:Nat):Int)),(6,.int .i32 (encW ⟨yl,yw,false,yn⟩))] (IH _ oM _ _ ⟨⟨yl,yw,false,yn⟩,true,true,0,(wst+1),rfl,rfl,hkn.n,oM,(fun _=>hkn.gotR rfl rfl),(fun _=>rfl)⟩) ⟨rfl,rfl,rfl,rfl,rfl,rfl,trivial⟩
    | true=>
     obtain⟨hyl,hyw,hyn⟩:=hkn.got rfl rfl
     have hy6:yn<256:=Nat.lt_of_le_of_lt hkn.n oM
     simp only at hyl hyw hyn
     subst hyl hyw
     obtain⟨yk,rfl⟩:∃yk,yn=yk+1:=⟨yn-1,oM⟩
     refine⟨_,.gotH rfl,rfl,A0h hb0 rfl fun m6 hm6=>?_⟩
     refine gb ?_
     refine A0a tab hbk hbr rfl rfl rfl rfl (vB (b4n bo) rfl) ?_
     refine gb ?_
     refine A0a tab hbk hbr rfl rfl rfl rfl (vB (b3n bo) rfl) ?_
     refine gb ?_
     refine A0a tab hbk hbr rfl rfl rfl rfl (vB (s3z bo) rfl) ?_
     refine gs ?_
     cases yk with
     | zero=>
      refine bi ?_
      refine A0a tab hbk hbr rfl rfl rfl rfl (vB (s31 bo) rfl) ?_
      refine gb ?_
      refine gs ?_
      refine A1d D hb0 hj hbk hbr rfl rfl rfl e182 sM sM sM sM rfl rfl rfl (fun z m hkn=>⟨.le,⟨true,z.w,z.s && !true,z.n-1⟩,?_,.hand,rfl,?_⟩)
      ·obtain⟨h1,h2,h3⟩:=hkn.hand rfl
       have hz6:z.n<256:=Nat.lt_of_le_of_lt hkn.n oM
       refine(m11 hz6 h1 h2 h3).trans ?_;rw [h2];rfl
      haveI:=sJ A K m6 j (.mx a [] .le) v hb0 rfl
      refine gs ?_
      exact F_in [(0,muP A)] (hle _ oM) ⟨rfl,trivial⟩
     | succ yk=>
      refine bi ?_
      refine A0a tab hbk hbr rfl rfl rfl rfl (vB (s31 bo) rfl) ?_
      refine gs ?_
      refine A1d D hb0 hj hbk hbr rfl rfl rfl e182 sM sM sM sM rfl rfl rfl (fun z m hkn=>⟨.le,⟨true,z.w,z.s && !false,z.n-1⟩,?_,.hand,rfl,?_⟩)
      ·obtain⟨h1,h2,h3⟩:=hkn.hand rfl
       have hz6:z.n<256:=Nat.lt_of_le_of_lt hkn.n oM
       refine(m7 hz6 h1 h3).trans ?_;rw [h2];rfl
      haveI:=sJ A K m6 j (.mx a [] .le) v hb0 rfl
      refine gs ?_
      exact F_in [(0,muP A)] (hle _ oM) ⟨rfl,trivial⟩
   | false=>
    refine⟨.got false,fun _ _=>.t2 false,rfl,A0h hb0 rfl fun m8 hm8=>?_⟩
    refine gb ?_
    refine A0a tab hbk hbr rfl rfl rfl rfl (vB hsv rfl) ?_
    refine gs ?_
    refine A0r D hb0 hj hbk hbr rfl rfl rfl (by rw [hbf];exact func181) A1v (tab.und_ok _ _ rfl) sM sM sM sM rfl rfl (fun y m hkn=>?_)
    obtain⟨yl,yw,ys,yn⟩:=y
    cases ys with
    | false=>
     refine⟨_,.gotR rfl,(A0z _ _ _ _).symm,?_⟩
     have hy6:yn<256:=Nat.lt_of_le_of_lt hkn.n oM
     haveI:=sJ A K m8 j (.mx a [] (hd ⟨yl,yw,false,yn⟩ true false 0)) (v) hb0 rfl
     refine gb ?_
     refine A0a tab hbk hbr rfl rfl rfl rfl (vB (b4n bo) rfl) ?_
     refine gs ?_
     exact F_in [(0,muP A),(2,.int .i64 (((wst+1):Nat):Int)),(3,.bool false),(4,.bool true),(5,.int .i64 ((0:Nat):Int)),(6,.int .i32 (encW ⟨yl,yw,false,yn⟩))] (IH _ oM _ _ ⟨⟨yl,yw,false,yn⟩,true,false,0,(wst+1),rfl,rfl,hkn.n,oM,(fun _=>hkn.gotR rfl rfl),(fun _=>rfl)⟩) ⟨rfl,rfl,rfl,rfl,rfl,rfl,trivial⟩
    | true=>
     obtain⟨hyl,hyw,hyn⟩:=hkn.got rfl rfl
     have hy6:yn<256:=Nat.lt_of_le_of_lt hkn.n oM
     simp only at hyl hyw hyn
     subst hyl hyw
     obtain⟨yk,rfl⟩:∃yk,yn=yk+1:=⟨yn-1,oM⟩
     refine⟨_,.gotH rfl,rfl,A0h hb0 rfl fun m6 hm6=>?_⟩
     refine gb ?_
     refine A0a tab hbk hbr rfl rfl rfl rfl (vB (b4n bo) rfl) ?_
     refine gb ?_
     refine A0a tab hbk hbr rfl rfl rfl rfl (vB (b3n bo) rfl) ?_
     refine gb ?_
     refine A0a tab hbk hbr rfl rfl rfl rfl (vB (s3z bo) rfl) ?_
     refine gb ?_
     refine gs ?_
     refine A1d D hb0 hj hbk hbr rfl rfl rfl e182 sM sM sM sM rfl rfl rfl (fun z m hkn=>⟨.le,⟨true,z.w,z.s && !true,z.n-1⟩,?_,.hand,rfl,?_⟩)
     ·obtain⟨h1,h2,h3⟩:=hkn.hand rfl
      have hz6:z.n<256:=Nat.lt_of_le_of_lt hkn.n oM
      refine(m11 hz6 h1 h2 h3).trans ?_;rw [h2];rfl
     haveI:=sJ A K m6 j (.mx a [] .le) v hb0 rfl
     refine gs ?_
     exact F_in [(0,muP A)] (hle _ oM) ⟨rfl,trivial⟩
  ·refine gs ?_
   refine A0r D hb0 hj hbk hbr rfl rfl rfl (by rw [hbf];exact func181) A1v (tab.und_ok _ _ rfl) sM sM sM sM rfl rfl (fun y m hkn=>⟨_,.rd,(A0z _ _ _ _).symm,?_⟩)
   haveI:=sJ A K m4 j (.mx a [] (hd y true false it)) (v) hb0 rfl
   refine gs ?_
   exact F_in [(0,muP A),(2,.int .i64 (((wst+1):Nat):Int)),(3,.bool false),(4,.bool true),(5,.int .i64 ((it:Nat):Int)),(6,.int .i32 (encW y))] (IH _ oM _ _ ⟨y,true,false,it,(wst+1),rfl,rfl,hkn.n,hit,(fun e=>hkn.awk (by first|rfl|cases e)),sM⟩) ⟨rfl,rfl,rfl,rfl,rfl,rfl,trivial⟩
theorem round9{body:Code}(hbody:body=A5y)(D:Dist A)(hb0:0<base)(hj:j<A.J){b:Frame}(hbn:b.kind = .normal)(hbr:b.roundOf=none)(hbf:b.fn=181){k:List Item}{n' it wst:Nat}{xn:Nat}(hx:xn≤201)(hit:it≤4)
  (IH:∀m',m'≤n'→∀q' ρ',A8e A a q' ρ'→JX prog A base K m' j q' f181.ntmps b (.inLoop body::.inBlock 0::k) cs [] ρ' v)
  (hle:∀m',m'≤n'→JX prog A base K m' j (.mx a [] .le) f181.ntmps b k cs [] [(0,muP A)] v) :
  XF prog false (proto A base).Wd (AtW prog A base K n' j (.mx a [] (hd ⟨true,true,false,xn⟩ true false it))) f181.ntmps b (.code body::.inLoop body::.inBlock 0::k) cs [] [(0,muP A),(2,.int .i64 (wst:Nat)),(3,.bool false),(4,.bool true),(5,.int .i64 (it:Nat)),(6,.int .i32 (encW ⟨true,true,false,xn⟩))] v:=by
 subst hbody
 have hbk:b.kind≠.early:=by rw [hbn];simp
 have hx6:xn<256:=oM
 have hx7:xn+1<256:=oM
 rw [show hd ⟨true,true,false,xn⟩ true false it = .spin ⟨true,true,false,xn⟩ true false it from rfl]
 refine A4a (id:=1) ?_
 refine gb ?_
 refine A0a tab hbk hbr rfl rfl rfl rfl (vB (b5 (x:=⟨true,true,false,xn⟩) hx6) rfl) ?_
 refine gs ?_
 refine A7b (t:=it) (pY:=.rd true false (it+1)) (pN:=.cas ⟨true,true,false,xn⟩ true false it) D hb0 hj hbk hbr rfl rfl rfl e196 sM sM sM sM rfl rfl (fun h _ _=>.spinY h) (fun _ _=>.spinN) rfl rfl (fun h4=>A0h hb0 rfl fun m1 hm1=>?_) (A0h hb0 rfl fun m1 hm1=>?_)
 ·refine gs ?_
  refine F_ext hbk hbr rfl rfl rfl e197 A5p ?_
  refine gs ?_
  refine A0a tab hbk hbr rfl rfl rfl rfl (vI (wr_it h4) rfl) ?_
  refine gs ?_
  refine A0r D hb0 hj hbk hbr rfl rfl rfl (by rw [hbf];exact func181) A1v (tab.und_ok _ _ rfl) sM sM sM sM rfl rfl (fun y m hkn=>⟨_,.rd,(A0z _ _ _ _).symm,?_⟩)
  haveI:=sJ A K m1 j (.mx a [] (hd y true false (it+1))) (v) hb0 rfl
  refine gs ?_
  exact F_in [(0,muP A),(2,.int .i64 ((wst:Nat):Int)),(3,.bool false),(4,.bool true),(5,.int .i64 (((it+1):Nat):Int)),(6,.int .i32 (encW y))] (IH _ oM _ _ ⟨y,true,false,(it+1),wst,rfl,rfl,hkn.n,oM,(fun e=>hkn.awk (by first|rfl|cases e)),sM⟩) ⟨rfl,rfl,rfl,rfl,rfl,rfl,trivial⟩
 ·refine gs ?_
  refine gb ?_
  refine A0a tab hbk hbr rfl rfl rfl rfl (vB (b4z bo) rfl) ?_
  refine gs ?_
  refine A0a tab hbk hbr rfl rfl rfl rfl (vI (o1 bo) rfl) ?_
  refine gb ?_
  refine A0a tab hbk hbr rfl rfl rfl rfl (vB (b5n bo) rfl) ?_
  refine gs ?_
  refine A0a tab hbk hbr rfl rfl rfl rfl (vI (p8 bo) rfl) ?_
  refine gb ?_
  refine A0a tab hbk hbr rfl rfl rfl rfl (vB (b2z bo) rfl) ?_
  refine gs ?_
  refine A0a tab hbk hbr rfl rfl rfl rfl (vI (n2 bo) rfl) ?_
  refine gs ?_
  cases wst with
  | zero=>
   refine A3c (o:=⟨true,true,false,xn⟩) (o':=A2j ⟨true,true,false,xn⟩ true false) (pY:=.t1 false) (pN:=.rd true false it) D hb0 hj hbk hbr rfl rfl rfl e180 sM sM sM sM rfl rfl rfl rfl rfl (by simp [A2j]) (fun m _=>.casQ true rfl) rfl (fun _ _ h=>.casN h) rfl (A0h hb0 rfl fun m3 hm3=>?_) (A0h hb0 rfl fun m4 hm4=>?_)
   ·refine gb ?_
    refine A0a tab hbk hbr rfl rfl rfl rfl (vB (b5z bo) rfl) ?_
    refine gb ?_
    refine gb ?_
    refine gs ?_
    refine A2l D hb0 hj hbk hbr rfl rfl rfl e199 A4v sM sM sM sM rfl (fun t1=>⟨.wait false,fun _ _=>.t1,rfl,A0h hb0 rfl fun m9 hm9=>?_⟩)
    refine gs ?_
    refine A1x (o1:=.tmp 91) D hb0 hj hbk hbr rfl rfl rfl rfl e200 rfl (A0h hb0 rfl fun m5 hm5=>?_)
    refine gs ?_
    refine A2l D hb0 hj hbk hbr rfl rfl rfl e199 A4v sM sM sM sM rfl (fun t2=>?_)
    cases hsv:decide (IntKind.i64.wrap ((t2:Int)-((t1:Nat):Int)) > 1000000)with
    | true=>
     refine⟨.got true,fun _ _=>.t2 true,rfl,A0h hb0 rfl fun m8 hm8=>?_⟩
     refine gb ?_
     refine A0a tab hbk hbr rfl rfl rfl rfl (vB hsv rfl) ?_
     refine gs ?_
     refine A0r D hb0 hj hbk hbr rfl rfl rfl (by rw [hbf];exact func181) A1v (tab.und_ok _ _ rfl) sM sM sM sM rfl rfl (fun y m hkn=>?_)
     obtain⟨yl,yw,ys,yn⟩:=y
     cases ys with
     | false=>
      refine⟨_,.gotR rfl,(A0z _ _ _ _).symm,?_⟩
      have hy6:yn<256:=Nat.lt_of_le_of_lt hkn.n oM
      haveI:=sJ A K m8 j (.mx a [] (hd ⟨yl,yw,false,yn⟩ true true 0)) (v) hb0 rfl
      refine gb ?_
      refine A0a tab hbk hbr rfl rfl rfl rfl (vB (b4n bo) rfl) ?_
      refine gs ?_
      exact F_in [(0,muP A),(2,.int .i64 ((t1:Nat):Int)),(3,.bool true),(4,.bool true),(5,.int .i64 ((0:Nat):Int)),(6,.int .i32 (encW ⟨yl,yw,false,yn⟩))] (IH _ oM _ _ ⟨⟨yl,yw,false,yn⟩,true,true,0,t1,rfl,rfl,hkn.n,oM,(fun _=>hkn.gotR rfl rfl),(fun _=>rfl)⟩) ⟨rfl,rfl,rfl,rfl,rfl,rfl,trivial⟩
     | true=>
      obtain⟨hyl,hyw,hyn⟩:=hkn.got rfl rfl
      have hy6:yn<256:=Nat.lt_of_le_of_lt hkn.n oM
      simp only at hyl hyw hyn
      subst hyl hyw
      obtain⟨yk,rfl⟩:∃yk,yn=yk+1:=⟨yn-1,oM⟩
      refine⟨_,.gotH rfl,rfl,A0h hb0 rfl fun m6 hm6=>?_⟩
      refine gb ?_
      refine A0a tab hbk hbr rfl rfl rfl rfl (vB (b4n bo) rfl) ?_
      refine gb ?_
      refine A0a tab hbk hbr rfl rfl rfl rfl (vB (b3n bo) rfl) ?_
      refine gb ?_
      refine A0a tab hbk hbr rfl rfl rfl rfl (vB (s3z bo) rfl) ?_
      refine gs ?_
      cases yk with
      | zero=>
       refine bi ?_
       refine A0a tab hbk hbr rfl rfl rfl rfl (vB (s31 bo) rfl) ?_
       refine gb ?_
       refine gs ?_
       refine A1d D hb0 hj hbk hbr rfl rfl rfl e182 sM sM sM sM rfl rfl rfl (fun z m hkn=>⟨.le,⟨true,z.w,z.s && !true,z.n-1⟩,?_,.hand,rfl,?_⟩)
       ·obtain⟨h1,h2,h3⟩:=hkn.hand rfl
        have hz6:z.n<256:=Nat.lt_of_le_of_lt hkn.n oM
        refine(m11 hz6 h1 h2 h3).trans ?_;rw [h2];rfl
       haveI:=sJ A K m6 j (.mx a [] .le) v hb0 rfl
       refine gs ?_
       exact F_in [(0,muP A)] (hle _ oM) ⟨rfl,trivial⟩
      | succ yk=>
       refine bi ?_
       refine A0a tab hbk hbr rfl rfl rfl rfl (vB (s31 bo) rfl) ?_
       refine gs ?_
       refine A1d D hb0 hj hbk hbr rfl rfl rfl e182 sM sM sM sM rfl rfl rfl (fun z m hkn=>⟨.le,⟨true,z.w,z.s && !false,z.n-1⟩,?_,.hand,rfl,?_⟩)
       ·obtain⟨h1,h2,h3⟩:=hkn.hand rfl
        have hz6:z.n<256:=Nat.lt_of_le_of_lt hkn.n oM
        refine(m7 hz6 h1 h3).trans ?_;rw [h2];rfl
       haveI:=sJ A K m6 j (.mx a [] .le) v hb0 rfl
       refine gs ?_
       exact F_in [(0,muP A)] (hle _ oM) ⟨rfl,trivial⟩
    | false=>
     refine⟨.got false,fun _ _=>.t2 false,rfl,A0h hb0 rfl fun m8 hm8=>?_⟩
     refine gb ?_
     refine A0a tab hbk hbr rfl rfl rfl rfl (vB hsv rfl) ?_
     refine gs ?_
     refine A0r D hb0 hj hbk hbr rfl rfl rfl (by rw [hbf];exact func181) A1v (tab.und_ok _ _ rfl) sM sM sM sM rfl rfl (fun y m hkn=>?_)
     obtain⟨yl,yw,ys,yn⟩:=y
     cases ys with
     | false=>
      refine⟨_,.gotR rfl,(A0z _ _ _ _).symm,?_⟩
      have hy6:yn<256:=Nat.lt_of_le_of_lt hkn.n oM
      haveI:=sJ A K m8 j (.mx a [] (hd ⟨yl,yw,false,yn⟩ true false 0)) (v) hb0 rfl
      refine gb ?_
      refine A0a tab hbk hbr rfl rfl rfl rfl (vB (b4n bo) rfl) ?_
      refine gs ?_
      exact F_in [(0,muP A),(2,.int .i64 ((t1:Nat):Int)),(3,.bool false),(4,.bool true),(5,.int .i64 ((0:Nat):Int)),(6,.int .i32 (encW ⟨yl,yw,false,yn⟩))] (IH _ oM _ _ ⟨⟨yl,yw,false,yn⟩,true,false,0,t1,rfl,rfl,hkn.n,oM,(fun _=>hkn.gotR rfl rfl),(fun _=>rfl)⟩) ⟨rfl,rfl,rfl,rfl,rfl,rfl,trivial⟩
     | true=>
      obtain⟨hyl,hyw,hyn⟩:=hkn.got rfl rfl
      have hy6:yn<256:=Nat.lt_of_le_of_lt hkn.n oM
      simp only at hyl hyw hyn
      subst hyl hyw
      obtain⟨yk,rfl⟩:∃yk,yn=yk+1:=⟨yn-1,oM⟩
      refine⟨_,.gotH rfl,rfl,A0h hb0 rfl fun m6 hm6=>?_⟩
      refine gb ?_
      refine A0a tab hbk hbr rfl rfl rfl rfl (vB (b4n bo) rfl) ?_
      refine gb ?_
      refine A0a tab hbk hbr rfl rfl rfl rfl (vB (b3n bo) rfl) ?_
      refine gb ?_
      refine A0a tab hbk hbr rfl rfl rfl rfl (vB (s3z bo) rfl) ?_
      refine gb ?_
      refine gs ?_
      refine A1d D hb0 hj hbk hbr rfl rfl rfl e182 sM sM sM sM rfl rfl rfl (fun z m hkn=>⟨.le,⟨true,z.w,z.s && !true,z.n-1⟩,?_,.hand,rfl,?_⟩)
      ·obtain⟨h1,h2,h3⟩:=hkn.hand rfl
       have hz6:z.n<256:=Nat.lt_of_le_of_lt hkn.n oM
       refine(m11 hz6 h1 h2 h3).trans ?_;rw [h2];rfl
      haveI:=sJ A K m6 j (.mx a [] .le) v hb0 rfl
      refine gs ?_
      exact F_in [(0,muP A)] (hle _ oM) ⟨rfl,trivial⟩
   ·refine gs ?_
    refine A0r D hb0 hj hbk hbr rfl rfl rfl (by rw [hbf];exact func181) A1v (tab.und_ok _ _ rfl) sM sM sM sM rfl rfl (fun y m hkn=>⟨_,.rd,(A0z _ _ _ _).symm,?_⟩)
    haveI:=sJ A K m4 j (.mx a [] (hd y true false it)) (v) hb0 rfl
    refine gs ?_
    exact F_in [(0,muP A),(2,.int .i64 ((0:Nat):Int)),(3,.bool false),(4,.bool true),(5,.int .i64 ((it:Nat):Int)),(6,.int .i32 (encW y))] (IH _ oM _ _ ⟨y,true,false,it,0,rfl,rfl,hkn.n,hit,(fun e=>hkn.awk (by first|rfl|cases e)),sM⟩) ⟨rfl,rfl,rfl,rfl,rfl,rfl,trivial⟩
  | succ wst=>
   refine A3c (o:=⟨true,true,false,xn⟩) (o':=A2j ⟨true,true,false,xn⟩ true false) (pY:=.wait false) (pN:=.rd true false it) D hb0 hj hbk hbr rfl rfl rfl e180 sM sM sM sM rfl rfl rfl rfl rfl (by simp [A2j]) (fun m _=>.casQ false rfl) rfl (fun _ _ h=>.casN h) rfl (A0h hb0 rfl fun m3 hm3=>?_) (A0h hb0 rfl fun m4 hm4=>?_)
   ·refine gb ?_
    refine A0a tab hbk hbr rfl rfl rfl rfl (vB (b5z bo) rfl) ?_
    refine gb ?_
    refine gb ?_
    refine gs ?_
    refine gs ?_
    refine A1x (o1:=.tmp 91) D hb0 hj hbk hbr rfl rfl rfl rfl e200 rfl (A0h hb0 rfl fun m5 hm5=>?_)
    refine gs ?_
    refine A2l D hb0 hj hbk hbr rfl rfl rfl e199 A4v sM sM sM sM rfl (fun t2=>?_)
    cases hsv:decide (IntKind.i64.wrap ((t2:Int)-(((wst+1):Nat):Int)) > 1000000)with
    | true=>
     refine⟨.got true,fun _ _=>.t2 true,rfl,A0h hb0 rfl fun m8 hm8=>?_⟩
     refine gb ?_
     refine A0a tab hbk hbr rfl rfl rfl rfl (vB hsv rfl) ?_
     refine gs ?_
     refine A0r D hb0 hj hbk hbr rfl rfl rfl (by rw [hbf];exact func181) A1v (tab.und_ok _ _ rfl) sM sM sM sM rfl rfl (fun y m hkn=>?_)
     obtain⟨yl,yw,ys,yn⟩:=y
     cases ys with
     | false=>
      refine⟨_,.gotR rfl,(A0z _ _ _ _).symm,?_⟩
      have hy6:yn<256:=Nat.lt_of_le_of_lt hkn.n oM
      haveI:=sJ A K m8 j (.mx a [] (hd ⟨yl,yw,false,yn⟩ true true 0)) (v) hb0 rfl
      refine gb ?_
      refine A0a tab hbk hbr rfl rfl rfl rfl (vB (b4n bo) rfl) ?_
      refine gs ?_
      exact F_in [(0,muP A),(2,.int .i64 (((wst+1):Nat):Int)),(3,.bool true),(4,.bool true),(5,.int .i64 ((0:Nat):Int)),(6,.int .i32 (encW ⟨yl,yw,false,yn⟩))] (IH _ oM _ _ ⟨⟨yl,yw,false,yn⟩,true,true,0,(wst+1),rfl,rfl,hkn.n,oM,(fun _=>hkn.gotR rfl rfl),(fun _=>rfl)⟩) ⟨rfl,rfl,rfl,rfl,rfl,rfl,trivial⟩
     | true=>
      obtain⟨hyl,hyw,hyn⟩:=hkn.got rfl rfl
      have hy6:yn<256:=Nat.lt_of_le_of_lt hkn.n oM
      simp only at hyl hyw hyn
      subst hyl hyw
      obtain⟨yk,rfl⟩:∃yk,yn=yk+1:=⟨yn-1,oM⟩
      refine⟨_,.gotH rfl,rfl,A0h hb0 rfl fun m6 hm6=>?_⟩
      refine gb ?_
      refine A0a tab hbk hbr rfl rfl rfl rfl (vB (b4n bo) rfl) ?_
      refine gb ?_
      refine A0a tab hbk hbr rfl rfl rfl rfl (vB (b3n bo) rfl) ?_
      refine gb ?_
      refine A0a tab hbk hbr rfl rfl rfl rfl (vB (s3z bo) rfl) ?_
      refine gs ?_
      cases yk with
      | zero=>
       refine bi ?_
       refine A0a tab hbk hbr rfl rfl rfl rfl (vB (s31 bo) rfl) ?_
       refine gb ?_
       refine gs ?_
       refine A1d D hb0 hj hbk hbr rfl rfl rfl e182 sM sM sM sM rfl rfl rfl (fun z m hkn=>⟨.le,⟨true,z.w,z.s && !true,z.n-1⟩,?_,.hand,rfl,?_⟩)
       ·obtain⟨h1,h2,h3⟩:=hkn.hand rfl
        have hz6:z.n<256:=Nat.lt_of_le_of_lt hkn.n oM
        refine(m11 hz6 h1 h2 h3).trans ?_;rw [h2];rfl
       haveI:=sJ A K m6 j (.mx a [] .le) v hb0 rfl
       refine gs ?_
       exact F_in [(0,muP A)] (hle _ oM) ⟨rfl,trivial⟩
      | succ yk=>
       refine bi ?_
       refine A0a tab hbk hbr rfl rfl rfl rfl (vB (s31 bo) rfl) ?_
       refine gs ?_
       refine A1d D hb0 hj hbk hbr rfl rfl rfl e182 sM sM sM sM rfl rfl rfl (fun z m hkn=>⟨.le,⟨true,z.w,z.s && !false,z.n-1⟩,?_,.hand,rfl,?_⟩)
       ·obtain⟨h1,h2,h3⟩:=hkn.hand rfl
        have hz6:z.n<256:=Nat.lt_of_le_of_lt hkn.n oM
        refine(m7 hz6 h1 h3).trans ?_;rw [h2];rfl
       haveI:=sJ A K m6 j (.mx a [] .le) v hb0 rfl
       refine gs ?_
       exact F_in [(0,muP A)] (hle _ oM) ⟨rfl,trivial⟩
    | false=>
     refine⟨.got false,fun _ _=>.t2 false,rfl,A0h hb0 rfl fun m8 hm8=>?_⟩
     refine gb ?_
     refine A0a tab hbk hbr rfl rfl rfl rfl (vB hsv rfl) ?_
     refine gs ?_
     refine A0r D hb0 hj hbk hbr rfl rfl rfl (by rw [hbf];exact func181) A1v (tab.und_ok _ _ rfl) sM sM sM sM rfl rfl (fun y m hkn=>?_)
     obtain⟨yl,yw,ys,yn⟩:=y
     cases ys with
     | false=>
      refine⟨_,.gotR rfl,(A0z _ _ _ _).symm,?_⟩
      have hy6:yn<256:=Nat.lt_of_le_of_lt hkn.n oM
      haveI:=sJ A K m8 j (.mx a [] (hd ⟨yl,yw,false,yn⟩ true false 0)) (v) hb0 rfl
      refine gb ?_
      refine A0a tab hbk hbr rfl rfl rfl rfl (vB (b4n bo) rfl) ?_
      refine gs ?_
      exact F_in [(0,muP A),(2,.int .i64 (((wst+1):Nat):Int)),(3,.bool false),(4,.bool true),(5,.int .i64 ((0:Nat):Int)),(6,.int .i32 (encW ⟨yl,yw,false,yn⟩))] (IH _ oM _ _ ⟨⟨yl,yw,false,yn⟩,true,false,0,(wst+1),rfl,rfl,hkn.n,oM,(fun _=>hkn.gotR rfl rfl),(fun _=>rfl)⟩) ⟨rfl,rfl,rfl,rfl,rfl,rfl,trivial⟩
     | true=>
      obtain⟨hyl,hyw,hyn⟩:=hkn.got rfl rfl
      have hy6:yn<256:=Nat.lt_of_le_of_lt hkn.n oM
      simp only at hyl hyw hyn
      subst hyl hyw
      obtain⟨yk,rfl⟩:∃yk,yn=yk+1:=⟨yn-1,oM⟩
      refine⟨_,.gotH rfl,rfl,A0h hb0 rfl fun m6 hm6=>?_⟩
      refine gb ?_
      refine A0a tab hbk hbr rfl rfl rfl rfl (vB (b4n bo) rfl) ?_
      refine gb ?_
      refine A0a tab hbk hbr rfl rfl rfl rfl (vB (b3n bo) rfl) ?_
      refine gb ?_
      refine A0a tab hbk hbr rfl rfl rfl rfl (vB (s3z bo) rfl) ?_
      refine gb ?_
      refine gs ?_
      refine A1d D hb0 hj hbk hbr rfl rfl rfl e182 sM sM sM sM rfl rfl rfl (fun z m hkn=>⟨.le,⟨true,z.w,z.s && !true,z.n-1⟩,?_,.hand,rfl,?_⟩)
      ·obtain⟨h1,h2,h3⟩:=hkn.hand rfl
       have hz6:z.n<256:=Nat.lt_of_le_of_lt hkn.n oM
       refine(m11 hz6 h1 h2 h3).trans ?_;rw [h2];rfl
      haveI:=sJ A K m6 j (.mx a [] .le) v hb0 rfl
      refine gs ?_
      exact F_in [(0,muP A)] (hle _ oM) ⟨rfl,trivial⟩
   ·refine gs ?_
    refine A0r D hb0 hj hbk hbr rfl rfl rfl (by rw [hbf];exact func181) A1v (tab.und_ok _ _ rfl) sM sM sM sM rfl rfl (fun y m hkn=>⟨_,.rd,(A0z _ _ _ _).symm,?_⟩)
    haveI:=sJ A K m4 j (.mx a [] (hd y true false it)) (v) hb0 rfl
    refine gs ?_
    exact F_in [(0,muP A),(2,.int .i64 (((wst+1):Nat):Int)),(3,.bool false),(4,.bool true),(5,.int .i64 ((it:Nat):Int)),(6,.int .i32 (encW y))] (IH _ oM _ _ ⟨y,true,false,it,(wst+1),rfl,rfl,hkn.n,hit,(fun e=>hkn.awk (by first|rfl|cases e)),sM⟩) ⟨rfl,rfl,rfl,rfl,rfl,rfl,trivial⟩
end
end Go.Proofs.YtiolobmgibdfmaaGreat
end
