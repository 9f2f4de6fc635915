/- Part 19. -/
import Derived.Test.YtclejblcnfaeaaaGreatDoorPar
set_option linter.all false
section
namespace Go.Proofs.YtclejblcnfaeaaaGreatDoor
open Go Go.Pal Go.Pal.Fan Go.Conc View
open Go.Pal.Mu (wgV wgB vB vI g_bub g_v g_w g_p1 B_enable)
open Go.Proofs.Tryz
set_option maxHeartbeats 4000000
section
variable{A:Par}{base:Nat}{Z:View→Goroutine→Prop}{v:View}{cf:Frame}{cs:List Frame}{kk:Nat}
theorem deaf_en1:deafBehind 1 #[mkE .enable]=0:=by simp [deafBehind]
theorem add185m_x(hb0:0<base){n:Nat}(h:∀v':Nat,v'≤201→K.Job prog (A0w A base) base Z n 0 (.inl (if v'=0 then .ar kk else .a2 kk)) v (G (cf.finish (.int .u64 (wgV (v'+1) 0))) cs)) :
  RunW prog true (K.Proto.Wd (A0w A base)) (AtK prog A base Z n 0 (.inl (.a1 kk))) v (G (Frame.enter prog 206 #[wgP A,.int .u64 4294967296] .normal) (cf::cs)):=by
 refine A2y (ys:=[_,_]) func206 Y nB fun b hbn hbr hbf=>?_
 have hbk:b.kind≠.early:=by rw [hbn];simp
 refine gs ?_
 refine s_a1 hb0 hbk hbr Y Y Y e210 Y Y (fun v' hv'=>?_)
 haveI:=A3s (P:=prog) (A:=A) (base:=base) (Z:=Z) (n:=n) (i:=0) (τ:=.inl (if v'=0 then .ar kk else .a2 kk)) (v:=v) (main:=true) Y (by split<;>rfl)
 refine gs ?_
 refine A6p hbr ?_
 refine A7e hbn (by rw [hbf];exact func206) Y Y ?_
 exact h v' hv'
theorem addpos_x(hb0:0<base){n:Nat}(hend:∀m,m≤n→K.Job prog (A0w A base) base Z m 0 (.inl (.go kk)) v (G (cf.finish (.tuple #[])) cs)) :
  RunW prog true (K.Proto.Wd (A0w A base)) (AtK prog A base Z n 0 (.inl (.a0 kk))) v (G (Frame.enter prog 159 #[wgP A,.int .i64 1] .normal) (cf::cs)):=by
 refine A2y (ys:=[_,_]) func159 Y nB fun b hbn hbr hbf=>?_
 have hbk:b.kind≠.early:=by rw [hbn];simp
 refine gs ?_
 (refine A0t tab hbk hbr Y Y Y Y Y ?_)
 refine gs ?_
 refine s_a0 hb0 hbk hbr Y Y Y e179 (A5z (main:=true) Y Y fun m1 hm1=>?_)
 refine gs ?_
 refine F_defer (xs:=[]) hbk hbr Y Y Y ?_
 refine gs ?_
 refine F_ext hbk hbr Y Y Y e181 (x:=.bool false) (fun _=>Pu.pure _) ?_
 refine gs ?_
 (refine A0t tab hbk hbr Y Y Y Y Y ?_)
 (refine A0t tab hbk hbr Y Y Y Y Y ?_)
 refine A6o (ys:=[wgP A,.int .u64 4294967296]) hbk hbr Y Y Y Y Y func206 Y dM Y fun cf1 _ hcf1=>add185m_x hb0 fun v' hv'=>hcf1 _ _ (A5z (main:=true) Y Y fun m2 hm2=>?_)
 have hv6:v'+1<256:=oM
 refine gs ?_
 (refine A0t tab hbk hbr Y Y Y Y Y ?_)
 (refine A0t tab hbk hbr Y Y Y Y (vB (g_bub hv6 (Nat.zero_le 1)) Y) ?_)
 refine gs ?_
 (refine A0t tab hbk hbr Y Y Y Y Y ?_)
 (refine A0t tab hbk hbr Y Y Y Y (vI (g_v hv6 (Nat.zero_le 1)) Y) ?_)
 refine gs ?_
 (refine A0t tab hbk hbr Y Y Y Y Y ?_)
 (refine A0t tab hbk hbr Y Y Y Y (vI (g_w hv6 (Nat.zero_le 1)) Y) ?_)
 refine gs ?_
 (refine A0t tab hbk hbr Y Y Y Y Y ?_)
 refine gs ?_
 (refine A0t tab hbk hbr Y Y Y Y Y ?_)
 have hlt:decide (((v'+1:Nat):Int)<0)=false:=by simp;omega
 have hgt:decide (((v'+1:Nat):Int) > 0)=true:=by simp
 cases v' with
 | zero=>
  (refine A0t tab hbk hbr Y Y Y Y Y ?_)
  refine gs ?_
  refine F_conv hbk hbr Y Y Y (tab.und_ok _ _ Y) (tab.und_ok _ _ Y) (B1n Y) Y (Nat.le_refl 2) ?_
  refine s_ar hb0 hbk hbr Y Y Y e186 Y (A5z (main:=true) Y Y fun m3 hm3=>?_)
  refine gs ?_
  (refine A0t tab hbk hbr Y Y Y Y (vB hlt Y) ?_)
  refine gs ?_
  (refine A0t tab hbk hbr Y Y Y Y Y ?_)
  refine gs ?_
  (refine A0t tab hbk hbr Y Y Y Y (vB hgt Y) ?_)
  refine gs ?_
  refine A6p hbr (s_a2 hb0 hbr e180 ?_)
  haveI:=A3s (P:=prog) (A:=A) (base:=base) (Z:=Z) (n:=m3) (i:=0) (τ:=.inl (.go kk)) (v:=v) (main:=true) Y Y
  exact B_ret hbn (by rw [hbf];exact func159) Y (hend _ oM)
 | succ v'=>
  have hne:(((v'+1+1:Nat):Int)==IntKind.i32.wrap 1)=false:=by
   have:IntKind.i32.wrap 1=1:=rfl
   rw [this];simp;omega
  (refine A0t tab hbk hbr Y Y Y Y (vB hne Y) ?_)
  refine gs ?_
  (refine A0t tab hbk hbr Y Y Y Y (vB hlt Y) ?_)
  refine gs ?_
  (refine A0t tab hbk hbr Y Y Y Y Y ?_)
  refine gs ?_
  (refine A0t tab hbk hbr Y Y Y Y (vB hgt Y) ?_)
  refine gs ?_
  refine A6p hbr (s_a2 hb0 hbr e180 ?_)
  haveI:=A3s (P:=prog) (A:=A) (base:=base) (Z:=Z) (n:=m2) (i:=0) (τ:=.inl (.go kk)) (v:=v) (main:=true) Y Y
  exact B_ret hbn (by rw [hbf];exact func159) Y (hend _ oM)
theorem load187m1_x(hb0:0<base){n:Nat}(h:∀v':Nat,v'≤201→K.Job prog (A0w A base) base Z n (base+A.J) (.inr (.inr (if v'=0 then .w5 else .wc v'))) v (G (cf.finish (.int .u64 (wgV v' 0))) cs)) :
  RunW prog false (K.Proto.Wd (A0w A base)) (AtK prog A base Z n (base+A.J) (.inr (.inr .w1))) v (G (Frame.enter prog 208 #[wgP A] .normal) (cf::cs)):=by
 refine A2y (ys:=[_]) func208 Y nB fun b hbn hbr hbf=>?_
 have hbk:b.kind≠.early:=by rw [hbn];simp
 refine gs ?_
 refine s_w1 hb0 hbk hbr Y Y Y e211 Y (fun v' hv'=>?_)
 haveI:=A3s (P:=prog) (A:=A) (base:=base) (Z:=Z) (n:=n) (i:=(base+A.J)) (τ:=.inr (.inr (if v'=0 then .w5 else .wc v'))) (v:=v) (main:=false) (by simp;omega) Y
 refine gs ?_
 refine A6p hbr ?_
 refine A7e hbn (by rw [hbf];exact func208) Y Y ?_
 exact h v' hv'
theorem load187m4_x(hb0:0<base){n:Nat}(h:K.Job prog (A0w A base) base Z n (base+A.J) (.inr (.inr .w5)) v (G (cf.finish (.int .u64 (wgV 0 0))) cs)) :
  RunW prog false (K.Proto.Wd (A0w A base)) (AtK prog A base Z n (base+A.J) (.inr (.inr .w4))) v (G (Frame.enter prog 208 #[wgP A] .normal) (cf::cs)):=by
 refine A2y (ys:=[_]) func208 Y nB fun b hbn hbr hbf=>?_
 have hbk:b.kind≠.early:=by rw [hbn];simp
 refine gs ?_
 refine s_w4 hb0 hbk hbr Y Y Y e211 Y ?_
 haveI:=A3s (P:=prog) (A:=A) (base:=base) (Z:=Z) (n:=n) (i:=(base+A.J)) (τ:=.inr (.inr (.w5))) (v:=v) (main:=false) (by simp;omega) Y
 refine gs ?_
 refine A6p hbr ?_
 refine A7e hbn (by rw [hbf];exact func208) Y Y ?_
 exact h
theorem cas193_x(hb0:0<base){n o:Nat}(hY:K.Job prog (A0w A base) base Z n (base+A.J) (.inr (.inr .ww)) v (G (cf.finish (.bool true)) cs))(hN:K.Job prog (A0w A base) base Z n (base+A.J) (.inr (.inr .w1)) v (G (cf.finish (.bool false)) cs)) :
  RunW prog false (K.Proto.Wd (A0w A base)) (AtK prog A base Z n (base+A.J) (.inr (.inr (.wc o)))) v (G (Frame.enter prog 214 #[wgP A,.int .u64 (wgV o 0),.int .u64 (wgV o 1)] .normal) (cf::cs)):=by
 refine A2y (ys:=[_,_,_]) func214 Y nB fun b hbn hbr hbf=>?_
 have hbk:b.kind≠.early:=by rw [hbn];simp
 refine gs ?_
 refine s_wc hb0 hbk hbr Y Y Y e213 Y Y Y Y Y ?_ ?_
 ·haveI:=A3s (P:=prog) (A:=A) (base:=base) (Z:=Z) (n:=n) (i:=(base+A.J)) (τ:=.inr (.inr (.ww))) (v:=v) (main:=false) (by simp;omega) Y
  refine gs ?_
  refine A6p hbr ?_
  refine A7e hbn (by rw [hbf];exact func214) Y Y ?_
  exact hY
 ·haveI:=A3s (P:=prog) (A:=A) (base:=base) (Z:=Z) (n:=n) (i:=(base+A.J)) (τ:=.inr (.inr (.w1))) (v:=v) (main:=false) (by simp;omega) Y
  refine gs ?_
  refine A6p hbr ?_
  refine A7e hbn (by rw [hbf];exact func214) Y Y ?_
  exact hN
theorem wait_x(hb0:0<base){n:Nat}(hend:∀m,m≤n→K.Job prog (A0w A base) base Z m (base+A.J) (.inr (.inr .cl)) v (G (cf.finish (.tuple #[])) cs)) :
  RunW prog false (K.Proto.Wd (A0w A base)) (AtK prog A base Z n (base+A.J) (.inr (.inr .w0))) v (G (Frame.enter prog 163 #[wgP A] .normal) (cf::cs)):=by
 refine A2y (ys:=[_]) func163 Y nB fun b hbn hbr hbf=>?_
 have hbk:b.kind≠.early:=by rw [hbn];simp
 refine gs ?_
 refine s_cmark0 .disable (.inl Y) hb0 (q:=.w0) (q':=.w1) Y sM Y hbk hbr Y Y Y e179 (fun γ h=>.w0 h) deaf_dis0 ?_
 haveI:=A3s (P:=prog) (A:=A) (base:=base) (Z:=Z) (n:=n) (i:=(base+A.J)) (τ:=.inr (.inr (.w1))) (v:=v) (main:=false) (by simp;omega) Y
 refine gs ?_
 refine Mu.F_in [(0,wgP A)] (loop_jk (main:=false) (I:=fun τ ρ=>τ = .inr (.inr .w1)∧ρ=[(0,wgP A)]) (by simp;omega) n (fun τ ρ h=>by rw [h.1]) ?_ ⟨Y,Y⟩) ⟨Y,trivial⟩
 clear this
 rintro n' hn' τ ρ ⟨rfl,rfl⟩ IH
 refine gs ?_
 refine A6o (ys:=[wgP A]) hbk hbr Y Y Y Y Y func208 Y dM Y fun cf1 _ hcf1=>load187m1_x hb0 fun v' hv'=>hcf1 _ _ (A5z (main:=false) (by simp;omega) Y fun m1 hm1=>?_)
 have hv6:v'<256:=oM
 refine gs ?_
 (refine A0t tab hbk hbr Y Y Y Y Y ?_)
 (refine A0t tab hbk hbr Y Y Y Y (vI (g_v hv6 (Nat.zero_le 1)) Y) ?_)
 refine gs ?_
 (refine A0t tab hbk hbr Y Y Y Y Y ?_)
 (refine A0t tab hbk hbr Y Y Y Y (vI (g_w hv6 (Nat.zero_le 1)) Y) ?_)
 refine gs ?_
 cases v' with
 | zero=>
  (refine A0t tab hbk hbr Y Y Y Y Y ?_)
  refine gs ?_
  refine s_cmark0 .enable (.inr Y) hb0 (q:=.w5) (q':=.w6) Y sM Y hbk hbr Y Y Y e180 (fun γ h=>.w5 h) deaf_en1 (A5z (main:=false) (by simp;omega) Y fun m2 hm2=>?_)
  refine gs ?_
  refine F_conv hbk hbr Y Y Y (tab.und_ok _ _ Y) (tab.und_ok _ _ Y) (B1n Y) Y oM ?_
  refine s_w6 hb0 hbk hbr Y Y Y e191 Y ?_
  haveI:=A3s (P:=prog) (A:=A) (base:=base) (Z:=Z) (n:=m2) (i:=(base+A.J)) (τ:=.inr (.inr (.cl))) (v:=v) (main:=false) (by simp;omega) Y
  refine gs ?_
  (refine A0t tab hbk hbr Y Y Y Y Y ?_)
  refine gs ?_
  (refine A0t tab hbk hbr Y Y Y Y Y ?_)
  (refine A0t tab hbk hbr Y Y Y Y (vB (g_bub (v:=0) (wt:=0) oM oM) Y) ?_)
  refine gs ?_
  exact A6p hbr (B_ret hbn (by rw [hbf];exact func163) Y (hend _ oM))
 | succ v'=>
  have hne:(((v'+1:Nat):Int)==0)=false:=by simp;omega
  (refine A0t tab hbk hbr Y Y Y Y (vB hne Y) ?_)
  refine gs ?_
  (refine A0t tab hbk hbr Y Y Y Y (vI (g_p1 hv6 (Nat.zero_le 1)) Y) ?_)
  refine gs ?_
  refine A6o (ys:=[wgP A,.int .u64 (wgV (v'+1) 0),.int .u64 (wgV (v'+1) 1)]) hbk hbr Y Y Y Y Y func214 Y dM Y fun cf2 _ hcf2=>cas193_x hb0 (hcf2 _ _ (A5z (main:=false) (by simp;omega) Y fun m2 hm2=>?_)) (hcf2 _ _ ?_)
  ·refine gs ?_
   (refine A0t tab hbk hbr Y Y Y Y Y ?_)
   refine gs ?_
   refine F_conv hbk hbr Y Y Y (tab.und_ok _ _ Y) (tab.und_ok _ _ Y) (B1n Y) Y (Nat.le_refl 2) ?_
   refine s_cww hb0 hbk hbr Y Y Y e194 Y (A5z (main:=false) (by simp;omega) Y fun m3 hm3=>?_)
   refine gs ?_
   (refine A0t tab hbk hbr Y Y Y Y Y ?_)
   (refine A0t tab hbk hbr Y Y Y Y (vB (g_bub hv6 (Nat.zero_le 1)) Y) ?_)
   refine gs ?_
   refine s_w3 (o1:=.tmp 70) hb0 hbk hbr Y Y Y Y e195 Y (A5z (main:=false) (by simp;omega) Y fun m4 hm4=>?_)
   refine gs ?_
   refine A6o (ys:=[wgP A]) hbk hbr Y Y Y Y Y func208 Y dM Y fun cf3 _ hcf3=>load187m4_x hb0 (hcf3 _ _ (A5z (main:=false) (by simp;omega) Y fun m5 hm5=>?_))
   refine gs ?_
   (refine A0t tab hbk hbr Y Y Y Y Y ?_)
   refine gs ?_
   refine s_cmark0 .enable (.inr Y) hb0 (q:=.w5) (q':=.w6) Y sM Y hbk hbr Y Y Y e180 (fun γ h=>.w5 h) deaf_en1 (A5z (main:=false) (by simp;omega) Y fun m6 hm6=>?_)
   refine gs ?_
   refine F_conv hbk hbr Y Y Y (tab.und_ok _ _ Y) (tab.und_ok _ _ Y) (B1n Y) Y oM ?_
   refine s_w6 hb0 hbk hbr Y Y Y e191 Y ?_
   haveI:=A3s (P:=prog) (A:=A) (base:=base) (Z:=Z) (n:=m6) (i:=(base+A.J)) (τ:=.inr (.inr (.cl))) (v:=v) (main:=false) (by simp;omega) Y
   refine gs ?_
   exact A6p hbr (B_ret hbn (by rw [hbf];exact func163) Y (hend _ oM))
  ·haveI:=A3s (P:=prog) (A:=A) (base:=base) (Z:=Z) (n:=m1) (i:=(base+A.J)) (τ:=.inr (.inr (.w1))) (v:=v) (main:=false) (by simp;omega) Y
   refine gs ?_
   exact Mu.F_in [(0,wgP A)] (IH _ oM _ _ ⟨Y,Y⟩) ⟨Y,trivial⟩
end
end Go.Proofs.YtclejblcnfaeaaaGreatDoor
end
