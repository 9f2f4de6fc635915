/- Part 18. -/
import Derived.Test.YtclejblcnfaeaaaGreatDoorPaq
set_option linter.all false
section
namespace Go.Proofs.YtclejblcnfaeaaaGreatDoor
open Go Go.Pal Go.Pal.Fan Go.Conc View
open Go.Pal.Mu (wgV wgB vB vI g_bub g_v g_w B_enable)
open Go.Proofs.Tryz
set_option maxHeartbeats 4000000
section
variable{A:Par}{base:Nat}{Z:View→Goroutine→Prop}{j:Nat}{v:View}{cf:Frame}{cs:List Frame}
abbrev wgP(A:Par):Value:=.pointer (some ⟨A.Wg,0,none⟩)
theorem gs{p q:Prop}(h:q)(k:Hold q→p:=by(intro h;(repeat (first|(with_reducible apply A3i)|(with_reducible apply B0b)|(with_reducible apply F_inBlock)|(with_reducible apply F_scope)|(with_reducible apply F_inScope)|(with_reducible apply B2p)|(with_reducible apply F_label)|(with_reducible apply F_nil)|((with_reducible apply F_mv tab);(focus (assumption));(focus (assumption));(focus (exact Y));(focus (exact Y));(focus (exact Y));(focus (exact Y));(focus (exact Y));(focus (exact Y)))|((with_reducible apply F_skipop);(focus (exact Y));(focus (exact Y));(focus (exact Y)))|(first|((with_reducible apply A0r (l:=[0]));(focus (exact Y)))|((with_reducible apply A0r (l:=[0,1]));(focus (exact Y)))|((with_reducible apply A0r (l:=[0,1,2]));(focus (exact Y)))|((with_reducible apply A0r (l:=[0,1,2,3]));(focus (exact Y)))|((with_reducible apply A0r (l:=[0,1,2,3,4]));(focus (exact Y)))|((with_reducible apply A0r (l:=[0,1,2,3,4,5]));(focus (exact Y)))|((with_reducible apply A0r (l:=[0,1,2,3,4,5,6]));(focus (exact Y)))|((with_reducible apply A0r (l:=[0,1,2,3,4,5,6,7]));(focus (exact Y)))|((with_reducible apply A0r (l:=[0,1,2,3,4,5,6,7,8]));(focus (exact Y)))|((with_reducible apply A0r (l:=[0,1,2,3,4,5,6,7,8,9]));(focus (exact Y)))|((with_reducible apply A0r (l:=[0,1,2,3,4,5,6,7,8,9,10]));(focus (exact Y)))|((with_reducible apply A0r (l:=[0,1,2,3,4,5,6,7,8,9,10,11]));(focus (exact Y)))|((with_reducible apply A0r (l:=[0,1,2,3,4,5,6,7,8,9,10,11,12]));(focus (exact Y)))|((with_reducible apply A0r (l:=[0,1,2,3,4,5,6,7,8,9,10,11,12,13]));(focus (exact Y)))|((with_reducible apply A0r (l:=[0,1,2,3,4,5,6,7,8,9,10,11,12,13,14]));(focus (exact Y)))|((with_reducible apply A0r (l:=[0,1,2,3,4,5,6,7,8,9,10,11,12,13,14,15]));(focus (exact Y)))|((with_reducible apply A0r (l:=[0,1,2,3,4,5,6,7,8,9,10,11,12,13,14,15,16]));(focus (exact Y)))|((with_reducible apply A0r (l:=[0,1,2,3,4,5,6,7,8,9,10,11,12,13,14,15,16,17]));(focus (exact Y)))|((with_reducible apply A0r (l:=[0,1,2,3,4,5,6,7,8,9,10,11,12,13,14,15,16,17,18]));(focus (exact Y)))|((with_reducible apply A0r (l:=[0,1,2,3,4,5,6,7,8,9,10,11,12,13,14,15,16,17,18,19]));(focus (exact Y)))|((with_reducible apply A0r (l:=[0,1,2,3,4,5,6,7,8,9,10,11,12,13,14,15,16,17,18,19,20]));(focus (exact Y))))|((with_reducible apply A7x);(focus (exact Y)))|((with_reducible apply B0a);(focus (exact Y)))|((with_reducible apply F_exit);(focus (exact Y)))));exact h.h)):p:=k ⟨h⟩
theorem add185_x(hb0:0<base)(hj:j<A.J){n:Nat}(hq:∀v wt:Nat,v≤201→wt≤1→(v≠0∨wt=0)→A8w prog 1 (G (cf.finish (.int .u64 (wgV v wt))) cs))
  (hL:K.Job prog (A0w A base) base Z n (base+j) (.inr (.inl .d3)) Go.Pal.noView (G (cf.finish (.int .u64 (wgV 0 1))) cs)) :
  MRun prog (AtR prog A base Z n (base+j) (.inr (.inl .d2))) (G (Frame.enter prog 206 #[wgP A,.int .u64 18446744069414584320] .normal) (cf::cs)):=by
 refine A2y (ys:=[_,_]) func206 Y nB fun b hbn hbr hbf=>?_
 have hbk:b.kind≠.early:=by rw [hbn];simp
 refine gs ?_
 refine s_d2 hb0 hj hbk hbr Y Y Y e210 Y Y (fun v wt h1 h2 h3=>?_) ?_
 ·refine gs ?_
  refine A6p hbr ?_
  refine A7e hbn (by rw [hbf];exact func206) Y Y ?_
  exact(hq v wt h1 h2 h3)
 ·haveI:=B0t (P:=prog) (A:=A) (base:=base) (Z:=Z) (n:=n) (i:=base+j) (τ:=.inr (.inl .d3)) Y
  refine gs ?_
  refine A6p hbr ?_
  refine A7e hbn (by rw [hbf];exact func206) Y Y ?_
  exact hL
theorem load187_x(hb0:0<base)(hj:j<A.J){n:Nat}(hL:K.Job prog (A0w A base) base Z n (base+j) (.inr (.inl .d4)) Go.Pal.noView (G (cf.finish (.int .u64 (wgV 0 1))) cs)) :
  MRun prog (AtR prog A base Z n (base+j) (.inr (.inl .d3))) (G (Frame.enter prog 208 #[wgP A] .normal) (cf::cs)):=by
 refine A2y (ys:=[_]) func208 Y nB fun b hbn hbr hbf=>?_
 have hbk:b.kind≠.early:=by rw [hbn];simp
 refine gs ?_
 refine s_d3 hb0 hj hbk hbr Y Y Y e211 Y ?_
 haveI:=B0t (P:=prog) (A:=A) (base:=base) (Z:=Z) (n:=n) (i:=base+j) (τ:=.inr (.inl .d4)) Y
 refine gs ?_
 refine A6p hbr ?_
 refine A7e hbn (by rw [hbf];exact func208) Y Y ?_
 exact hL
theorem store188_x(hb0:0<base)(hj:j<A.J){n:Nat}(hL:K.Job prog (A0w A base) base Z n (base+j) (.inr (.inl .d5)) Go.Pal.noView (G (cf.finish (.tuple #[])) cs)) :
  MRun prog (AtR prog A base Z n (base+j) (.inr (.inl .d4))) (G (Frame.enter prog 209 #[wgP A,.int .u64 0] .normal) (cf::cs)):=by
 refine A2y (ys:=[_,_]) func209 Y nB fun b hbn hbr hbf=>?_
 have hbk:b.kind≠.early:=by rw [hbn];simp
 refine gs ?_
 refine s_d4 hb0 hj hbk hbr Y Y Y e212 Y Y ?_
 haveI:=B0t (P:=prog) (A:=A) (base:=base) (Z:=Z) (n:=n) (i:=base+j) (τ:=.inr (.inl .d5)) Y
 refine gs ?_
 exact F_end hbr (B_ret hbn (by rw [hbf];exact func209) Y hL)
theorem addneg_x(hb0:0<base)(hj:j<A.J){n:Nat}(hq:A8w prog 0 (G (cf.finish (.tuple #[])) cs)) :
  RunW prog false (K.Proto.Wd (A0w A base)) (AtK prog A base Z n (base+j) (.inr (.inl (.sd [])))) v (G (Frame.enter prog 159 #[wgP A,.int .i64 (-1)] .normal) (cf::cs)):=by
 refine A2y (ys:=[_,_]) func159 Y nB fun b hbn hbr hbf=>?_
 have hbk:b.kind≠.early:=by rw [hbn];simp
 refine gs ?_
 (refine A0t tab hbk hbr Y Y Y Y Y ?_)
 refine gs ?_
 refine F_conv hbk hbr Y Y Y (tab.und_ok _ _ Y) (tab.und_ok _ _ Y) (B1n Y) Y oM ?_
 refine s_d0 hb0 hj hbk hbr Y Y Y e178 Y (jr_run Y fun m1 hm1=>?_)
 refine gs ?_
 refine s_d1 hb0 hj hbk hbr Y Y Y e179 (jr_run Y fun m2 hm2=>?_)
 refine gs ?_
 refine F_defer (xs:=[]) hbk hbr Y Y Y ?_
 refine gs ?_
 refine F_ext hbk hbr Y Y Y e181 (x:=.bool false) (fun _=>Pu.pure _) ?_
 refine gs ?_
 (refine A0t tab hbk hbr Y Y Y Y Y ?_)
 (refine A0t tab hbk hbr Y Y Y Y Y ?_)
 refine A6o (ys:=[wgP A,.int .u64 18446744069414584320]) hbk hbr Y Y Y Y Y func206 Y dM Y fun cf1 _ hcf1=>add185_x hb0 hj (fun v wt h1 h2 h3=>hcf1 _ _ ?_) (hcf1 _ _ ?_)
 ·have hv6:v<256:=oM
  refine gs ?_
  (refine A0t tab hbk hbr Y Y Y Y Y ?_)
  (refine A0t tab hbk hbr Y Y Y Y (vB (g_bub hv6 h2) Y) ?_)
  refine gs ?_
  (refine A0t tab hbk hbr Y Y Y Y Y ?_)
  (refine A0t tab hbk hbr Y Y Y Y (vI (g_v hv6 h2) Y) ?_)
  refine gs ?_
  (refine A0t tab hbk hbr Y Y Y Y Y ?_)
  (refine A0t tab hbk hbr Y Y Y Y (vI (g_w hv6 h2) Y) ?_)
  refine gs ?_
  (refine A0t tab hbk hbr Y Y Y Y Y ?_)
  refine gs ?_
  cases v with
  | zero=>
   obtain rfl:wt=0:=oM
   (refine A0t tab hbk hbr Y Y Y Y Y ?_)
   refine gs ?_
   (refine A0t tab hbk hbr Y Y Y Y Y ?_)
   refine gs ?_
   (refine A0t tab hbk hbr Y Y Y Y Y ?_)
   refine gs ?_
   (refine A0t tab hbk hbr Y Y Y Y Y ?_)
   refine gs ?_
   exact A6p hbr (B_enable hbr e180 (B_ret hbn (by rw [hbf];exact func159) Y hq))
  | succ v=>
   have hlt:decide (((v+1:Nat):Int)<0)=false:=by simp;omega
   have hgt:decide (((v+1:Nat):Int) > 0)=true:=by simp
   (refine A0t tab hbk hbr Y Y Y Y (vB hlt Y) ?_)
   refine gs ?_
   cases wt with
   | zero=>
    (refine A0t tab hbk hbr Y Y Y Y Y ?_)
    refine gs ?_
    (refine A0t tab hbk hbr Y Y Y Y (vB hgt Y) ?_)
    refine gs ?_
    exact A6p hbr (B_enable hbr e180 (B_ret hbn (by rw [hbf];exact func159) Y hq))
   | succ wt=>
    obtain rfl:wt=0:=oM
    (refine A0t tab hbk hbr Y Y Y Y Y ?_)
    refine gs ?_
    (refine A0t tab hbk hbr Y Y Y Y Y ?_)
    refine gs ?_
    (refine A0t tab hbk hbr Y Y Y Y (vB hgt Y) ?_)
    refine gs ?_
    exact A6p hbr (B_enable hbr e180 (B_ret hbn (by rw [hbf];exact func159) Y hq))
 ·haveI:=B0t (P:=prog) (A:=A) (base:=base) (Z:=Z) (n:=m2) (i:=base+j) (τ:=.inr (.inl .d3)) Y
  refine gs ?_
  (refine A0t tab hbk hbr Y Y Y Y Y ?_)
  (refine A0t tab hbk hbr Y Y Y Y (vB (g_bub (v:=0) (wt:=1) oM oM) Y) ?_)
  refine gs ?_
  (refine A0t tab hbk hbr Y Y Y Y Y ?_)
  (refine A0t tab hbk hbr Y Y Y Y (vI (g_v (v:=0) (wt:=1) oM oM) Y) ?_)
  refine gs ?_
  (refine A0t tab hbk hbr Y Y Y Y Y ?_)
  (refine A0t tab hbk hbr Y Y Y Y (vI (g_w (v:=0) (wt:=1) oM oM) Y) ?_)
  refine gs ?_
  (refine A0t tab hbk hbr Y Y Y Y Y ?_)
  refine gs ?_
  (refine A0t tab hbk hbr Y Y Y Y Y ?_)
  refine gs ?_
  (refine A0t tab hbk hbr Y Y Y Y Y ?_)
  refine gs ?_
  (refine A0t tab hbk hbr Y Y Y Y Y ?_)
  refine gs ?_
  (refine A0t tab hbk hbr Y Y Y Y Y ?_)
  refine gs ?_
  (refine A0t tab hbk hbr Y Y Y Y Y ?_)
  refine gs ?_
  refine jr_run Y fun m3 hm3=>?_
  refine A6o (ys:=[wgP A]) hbk hbr Y Y Y Y Y func208 Y dM Y fun cf2 _ hcf2=>load187_x hb0 hj (hcf2 _ _ (jr_run Y fun m4 hm4=>?_))
  refine gs ?_
  (refine A0t tab hbk hbr Y Y Y Y Y ?_)
  refine gs ?_
  refine A6o (ys:=[wgP A,.int .u64 0]) hbk hbr Y Y Y Y Y func209 Y dM Y fun cf3 _ hcf3=>store188_x hb0 hj (hcf3 _ _ (jr_run Y fun m5 hm5=>?_))
  refine gs ?_
  refine F_loop ?_
  refine gs ?_
  (refine A0t tab hbk hbr Y Y Y Y Y ?_)
  refine gs ?_
  refine s_d5 (o1:=.tmp 115) hb0 hj hbk hbr Y Y Y Y e190 Y ?_
  refine gs ?_
  (refine A0t tab hbk hbr Y Y Y Y Y ?_)
  refine gs ?_
  refine A5q ?_
  refine gs ?_
  (refine A0t tab hbk hbr Y Y Y Y Y ?_)
  refine gs ?_
  exact F_end hbr (B_enable hbr e180 (B_ret hbn (by rw [hbf];exact func159) Y hq))
theorem done_x(hb0:0<base)(hj:j<A.J){n:Nat}(hc:cf.mode = .returning)(hq:A8w prog 0 (G cf cs)) :
  RunW prog false (K.Proto.Wd (A0w A base)) (AtK prog A base Z n (base+j) (.inr (.inl (.sd [])))) v (G (Frame.enter prog 161 #[wgP A] .deferred) (cf::cs)):=by
 refine A2y (ys:=[_]) func161 Y nB fun b hbn hbr hbf=>?_
 have hbk:b.kind≠.early:=by rw [hbn];simp
 refine gs ?_
 refine A6o (ys:=[wgP A,.int .i64 (-1)]) hbk hbr Y Y Y Y Y func159 Y dM Y fun cf1 _ hcf1=>addneg_x hb0 hj (hcf1 _ _ ?_)
 refine gs ?_
 exact F_end hbr (B_retD hbn (by rw [hbf];exact func161) Y hc hq)
end
end Go.Proofs.YtclejblcnfaeaaaGreatDoor
end
