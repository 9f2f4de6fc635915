/- Part 19. -/
import Derived.Test.YtiolobmgibdfmaaGreatPam
import Derived.Test.YtiolobmgibdfmaaGreatPan
import Derived.Test.YtiolobmgibdfmaaGreatPao
import Derived.Test.YtiolobmgibdfmaaGreatPap
import Derived.Test.YtiolobmgibdfmaaGreatPaq
import Derived.Test.YtiolobmgibdfmaaGreatPar
set_option linter.all false
section
namespace Go.Proofs.YtiolobmgibdfmaaGreat
open Go Go.Pal Go.Pal.Mu Go.Conc View
open Go.Proofs.Tryz
set_option maxHeartbeats 4000000
section
variable{A:Par}{base:Nat}{K:View→Goroutine→Prop}{j a:Nat}{L:List Nat}{v:View}{cf:Frame}{cs:List Frame}
theorem rounds{body:Code}(hbody:body=A5y)(D:Dist A)(hb0:0<base)(hj:j<A.J){b:Frame}(hbn:b.kind = .normal)(hbr:b.roundOf=none)(hbf:b.fn=181){k:List Item}{n':Nat}{q:Wk}{ρ:Regs}(hI:A8e A a q ρ)
  (IH:∀m',m'≤n'→∀q' ρ',A8e A a q' ρ'→JX prog A base K m' j q' f181.ntmps b (.inLoop body::.inBlock 0::k) cs [] ρ' v)
  (hle:∀m',m'≤n'→JX prog A base K m' j (.mx a [] .le) f181.ntmps b k cs [] [(0,muP A)] v) :
  XF prog false (proto A base).Wd (AtW prog A base K n' j q) f181.ntmps b (.code body::.inLoop body::.inBlock 0::k) cs [] ρ v:=by
 obtain⟨⟨l,w,s,xn⟩,aw,sv,it,wst,rfl,rfl,hx,hit,hw,hs⟩:=hI
 simp only at hx hw
 cases l with
 | false=>
  cases s with
  | false=>
   cases sv with
   | false=>
    cases aw with
    | false=>exact round0 hbody D hb0 hj hbn hbr hbf hx hit IH hle
    | true=>
     obtain rfl:=hw rfl
     exact round1 hbody D hb0 hj hbn hbr hbf hx hit IH hle
   | true=>
    obtain rfl:=hs rfl
    obtain rfl:=hw rfl
    exact round2 hbody D hb0 hj hbn hbr hbf hx hit IH hle
  | true=>
   cases sv with
   | false=>
    cases aw with
    | false=>exact round3 hbody D hb0 hj hbn hbr hbf hx hit IH hle
    | true=>
     obtain rfl:=hw rfl
     exact round4 hbody D hb0 hj hbn hbr hbf hx hit IH hle
   | true=>
    obtain rfl:=hs rfl
    obtain rfl:=hw rfl
    exact round5 hbody D hb0 hj hbn hbr hbf hx hit IH hle
 | true=>
  cases s with
  | false=>
   cases sv with
   | false=>
    cases aw with
    | false=>
     cases w with
     | true=>exact round11 hbody D hb0 hj hbn hbr hbf hx hit IH hle
     | false=>
      cases xn with
      | zero=>exact round12 hbody D hb0 hj hbn hbr hbf hx hit IH hle
      | succ xn=>exact round13 hbody D hb0 hj hbn hbr hbf hx hit IH hle
    | true=>
     obtain rfl:=hw rfl
     exact round9 hbody D hb0 hj hbn hbr hbf hx hit IH hle
   | true=>
    obtain rfl:=hs rfl
    obtain rfl:=hw rfl
    exact round10 hbody D hb0 hj hbn hbr hbf hx hit IH hle
  | true=>
   cases sv with
   | false=>
    cases aw with
    | false=>exact round6 hbody D hb0 hj hbn hbr hbf hx hit IH hle
    | true=>
     obtain rfl:=hw rfl
     exact round7 hbody D hb0 hj hbn hbr hbf hx hit IH hle
   | true=>
    obtain rfl:=hs rfl
    obtain rfl:=hw rfl
    exact round8 hbody D hb0 hj hbn hbr hbf hx hit IH hle
theorem slow_x(D:Dist A)(hb0:0<base)(hj:j<A.J){n:Nat}(hend:∀m,m≤n→∀L',Job prog (proto A base) K m (base+j) (.inr (.mx a L' .u0)) (v.set A.Cm true (A.con L')) (G (cf.finish (.tuple #[])) cs)) :
  RunW prog false (proto A base).Wd (AtW prog A base K n j (.mx a [] (.rd false false 0))) v (G (Frame.enter prog 181 #[muP A] .normal) (cf::cs)):=by
 refine A3b (ys:=[_]) func181 Z nB fun b hbn hbr hbf=>?_
 have hbk:b.kind≠.early:=by rw [hbn];simp
 refine gs ?_
 refine ldL D hb0 hj hbf R6 (fun x m hkn=>⟨_,.rd,(A0z _ _ _ _).symm,?_⟩)
 haveI:=sJ A K n j (.mx a [] (hd x false false 0)) (v) hb0 Z
 refine gs ?_
 refine F_in [(0,muP A),(2,.int .i64 ((0:Nat):Int)),(3,.bool false),(4,.bool false),(5,.int .i64 ((0:Nat):Int)),(6,.int .i32 (encW x))] (loop_go hb0 (I:=A8e A a) n (fun q ρ h=>by obtain⟨_,_,_,_,_,rfl,_⟩:=h;rfl) ?_ ⟨x,false,false,0,0,Z,Z,hkn.n,oM,by simp,by simp⟩) ⟨Z,Z,Z,Z,Z,Z,trivial⟩
 clear this hkn x m
 intro n' hn' q ρ hI IH
 refine rounds kR D hb0 hj hbn hbr hbf hI IH (fun m' hm'=>A0h hb0 Z fun m1 hm1=>?_)
 refine gs ?_
 refine st_mark .enable (.inr Z) D hb0 hj hbk hbr Z Z Z e152 sM sM sM sM Z (fun _ _=>.le) B2e (A0h hb0 Z fun m2 hm2=>?_)
 refine gs ?_
 refine B1t D hbk hbr Z Z Z (tab.und_ok _ _ Z) (tab.und_ok _ _ Z) (A7v Z) Z (.inl Z) oM ?_
 refine st_la D hb0 hj hbk hbr Z Z Z e166 Z fun L'=>?_
 haveI:=sJ A K m2 j (.mx a L' .u0) (v.set A.Cm true (A.con L')) hb0 Z
 refine gs ?_
 exact B4f hbr (A7h hbn (by rw [hbf];exact func181) Z (hend _ oM L'))
end
section
variable{A:Par}{base:Nat}{K:View→Goroutine→Prop}{j a:Nat}{L:List Nat}{v:View}{cf:Frame}{cs:List Frame}
theorem ilock_x(D:Dist A)(hb0:0<base)(hj:j<A.J){n:Nat}(hend:∀m,m≤n→∀L',Job prog (proto A base) K m (base+j) (.inr (.mx a L' .u0)) (v.set A.Cm true (A.con L')) (G (cf.finish (.tuple #[])) cs)) :
  RunW prog false (proto A base).Wd (AtW prog A base K n j (.mx a [] .l0)) v (G (Frame.enter prog 164 #[muP A] .normal) (cf::cs)):=by
 refine A3b (ys:=[_]) func164 Z nB fun b hbn hbr hbf=>?_
 have hbk:b.kind≠.early:=by rw [hbn];simp
 refine gs ?_
 refine st_mark .disable (.inl Z) D hb0 hj hbk hbr Z Z Z e151 sM sM sM sM Z (fun _ _=>.l0) B0q (A0h hb0 Z fun m1 hm1=>?_)
 refine gs ?_
 refine A3c (o:=.zero) (o':=⟨true,false,false,0⟩) (pY:=.le) (pN:=.rd false false 0) D hb0 hj hbk hbr Z Z Z e180 sM sM sM sM Z Z Z Z Z Z (fun m _=>.l1Y) Z (fun _ _ h=>.l1N h) Z (A0h hb0 Z fun m2 hm2=>?_) (A0h hb0 Z fun m2 hm2=>?_)
 ·refine gs ?_
  refine st_mark .enable (.inr Z) D hb0 hj hbk hbr Z Z Z e152 sM sM sM sM Z (fun _ _=>.le) B2e (A0h hb0 Z fun m3 hm3=>?_)
  refine gs ?_
  refine B1t D hbk hbr Z Z Z (tab.und_ok _ _ Z) (tab.und_ok _ _ Z) (A7v Z) Z (.inl Z) oM ?_
  refine st_la D hb0 hj hbk hbr Z Z Z e166 Z fun L'=>?_
  haveI:=sJ A K m3 j (.mx a L' .u0) (v.set A.Cm true (A.con L')) hb0 Z
  refine gs ?_
  exact A6w hbr (A7h hbn (by rw [hbf];exact func164) Z (hend _ oM L'))
 ·refine gs ?_
  refine A5b (ys:=[muP A]) hbk hbr Z Z Z Z Z func181 Z dM Z fun cf1 _ hcf1=>slow_x D hb0 hj fun m hm L'=>hcf1 _ _ ?_
  haveI:=sJ A K m j (.mx a L' .u0) (v.set A.Cm true (A.con L')) hb0 Z
  refine gs ?_
  exact B4f hbr (A7h hbn (by rw [hbf];exact func164) Z (hend _ oM L'))
theorem lock_x(D:Dist A)(hb0:0<base)(hj:j<A.J){n:Nat}(hend:∀m,m≤n→∀L',Job prog (proto A base) K m (base+j) (.inr (.mx a L' .u0)) (v.set A.Cm true (A.con L')) (G (cf.finish (.tuple #[])) cs)) :
  RunW prog false (proto A base).Wd (AtW prog A base K n j (.mx a [] .l0)) v (G (Frame.enter prog 134 #[muP A] .normal) (cf::cs)):=by
 refine A3b (ys:=[_]) func134 Z nB fun b hbn hbr hbf=>?_
 have hbk:b.kind≠.early:=by rw [hbn];simp
 refine gs ?_
 refine A5b (ys:=[muP A]) hbk hbr Z Z Z Z Z func164 Z dM Z fun cf1 _ hcf1=>ilock_x D hb0 hj fun m hm L'=>hcf1 _ _ ?_
 haveI:=sJ A K m j (.mx a L' .u0) (v.set A.Cm true (A.con L')) hb0 Z
 refine gs ?_
 exact B4f hbr (A7h hbn (by rw [hbf];exact func134) Z (hend _ hm L'))
end
section
variable{A:Par}{base:Nat}{K:View→Goroutine→Prop}{j a:Nat}{L:List Nat}{v:View}{cf:Frame}{cs:List Frame}
theorem dfP_afterX(x:MW):dfP (A3i x)=1:=by unfold A3i;split<;>rfl
theorem dfP_afterU(x:MW):dfP (A3y x)=1:=by unfold A3y;split;rfl;exact dfP_afterX x
theorem job_out(hb0:0<base){q:Wk}{m:Nat}{g:Goroutine}(hr:relW q=false)(h:Job prog (proto A base) K (m+1) (base+j) (.inr q) v g):RunW prog false (proto A base).Wd (AtW prog A base K m j q) v g:=by
 rcases h with ⟨_,h2⟩|⟨h2,_⟩
 ·rwa [show(base+j==0)=false by simp;omega]at h2
 ·rw [show(proto A base).rel (.inr q)=relW q from Z,hr]at h2;cases h2
def UnI(A:Par)(a:Nat)(L:List Nat)(q:Wk)(ρ:Regs):Prop:=∃y,q = .mx a L (A3i y)∧ρ=[(0,muP A),(4,.int .i32 (encW y))]∧y.n≤201
theorem uslow_x(D:Dist A)(hb0:0<base)(hj:j<A.J){n:Nat}{y:MW}(hl:y.l=false)(hy:y.n≤201)(hend:∀m,m≤n→Job prog (proto A base) K m (base+j) (.inr (.mx a L .ue)) v (G (cf.finish (.tuple #[])) cs)) :
  Job prog (proto A base) K n (base+j) (.inr (.mx a L (A3y y))) v (G (Frame.enter prog 183 #[muP A,.int .i32 (encW y)] .normal) (cf::cs)):=by
 haveI:=sJ A K n j (.mx a L (A3y y)) (v) hb0 Z
 refine A3b (ys:=[_,_]) func183 Z nB fun b hbn hbr hbf=>?_
 have hbk:b.kind≠.early:=by rw [hbn];simp
 have hy6:y.n<256:=oM
 refine gb ?_
 refine bi ?_
 refine fP R4 (vB (p1z hy6 hl) Z) ?_
 refine gb ?_
 cases hs:y.s with
 | true=>
  refine fP R4 (vB ((b4z hy6).trans (show(!y.s)=false by simp [hs])) Z) ?_
  refine gs ?_
  refine A0h hb0 Z fun m1 hm1=>?_
  have e:A3y y = .us true:=by unfold A3y;rw [if_pos hs]
  rw [e]
  refine st_semrel (o1:=.tmp 41) D hb0 hj hbk hbr Z Z Z Z e202 sM sM sM sM Z (fun _ _=>.us) Z ?_
  haveI:=sJ A K m1 j (.mx a L .ue) v hb0 Z
  refine gs ?_
  exact B4f hbr (A7h hbn (by rw [hbf];exact func183) Z (hend _ oM))
 | false=>
  have e:A3y y=A3i y:=by unfold A3y;rw [if_neg (by rw [hs];simp)]
  rw [e]at this⊢
  refine fP R4 (vB ((b4z hy6).trans (show(!y.s)=true by simp [hs])) Z) ?_
  refine gs ?_
  refine F_in [(0,muP A),(4,.int .i32 (encW y))] (loop_go hb0 (I:=UnI A a L) n (fun q ρ h=>by obtain⟨_,rfl,_⟩:=h;rfl) ?_ ⟨y,Z,Z,hy⟩) ⟨Z,Z,trivial⟩
  clear this e hs hl hy6 hy y
  rintro n' hn' q ρ ⟨y,rfl,rfl,hy⟩ IH
  have hy6:y.n<256:=oM
  have hq:RunW prog false (proto A base).Wd (AtW prog A base K n' j (.mx a L .ue)) v (G (cf.finish (.tuple #[])) cs):=job_out hb0 Z (hend (n'+1) hn')
  refine gb ?_
  cases hn:(y.n==0)with
  | true=>
   refine fP R4 (vB ((s3z hy6).trans hn) Z) ?_
   refine gs ?_
   rw [show A3i y = .ue by unfold A3i;rw [if_pos (.inl (by simpa using hn))]]
   exact A6w hbr (A7h hbn (by rw [hbf];exact func183) Z hq)
  | false=>
   refine fP R4 (vB ((s3z hy6).trans hn) Z) ?_
   refine gb ?_
   cases hz:(y.l||y.w||y.s)with
   | true=>
    refine fP R4 (vB ((b7n hy6).trans hz) Z) ?_
    refine gs ?_
    rw [show A3i y = .ue by unfold A3i;rw [if_pos (by
     simp only [Bool.or_eq_true]at hz
     rcases hz with (h|h)|h
     ·exact .inr (.inl h)
     ·exact .inr (.inr (.inl h))
     ·exact .inr (.inr (.inr h)))]]
    exact A6w hbr (A7h hbn (by rw [hbf];exact func183) Z hq)
   | false=>
    simp only [Bool.or_eq_false_iff]at hz
    obtain⟨⟨z1,z2⟩,z3⟩:=hz
    have hn0:y.n≠0:=by simpa using hn
    have e:A3i y = .uc y:=by unfold A3i;rw [if_neg (by simp [z1,z2,z3,hn0])]
    refine fP R4 (vB ((b7n hy6).trans (show(y.l||y.w||y.s)=false by simp [z1,z2,z3])) Z) ?_
    refine gb ?_
    refine fP R4 (vI (m8 hy6 oM z2) Z) ?_
    refine gs ?_
    rw [e]
    refine A3c (o:=y) (o':={y with w:=true,n:=y.n-1 }) (pY:=.us false) (pN:=.ux) D hb0 hj hbk hbr rfl rfl rfl e180 sM sM sM sM rfl rfl rfl rfl rfl rfl (fun m _=>.ucY) rfl (fun _ _ h=>.ucN h) rfl (A0h hb0 rfl fun m2 hm2=>?_) (A0h hb0 rfl fun m2 hm2=>?_)
    ·refine gs ?_
     refine st_semrel (o1:=.tmp 33) D hb0 hj hbk hbr Z Z Z Z e202 sM sM sM sM Z (fun _ _=>.us) Z ?_
     haveI:=sJ A K m2 j (.mx a L .ue) v hb0 Z
     refine gs ?_
     exact A6w hbr (A7h hbn (by rw [hbf];exact func183) Z (hend _ oM))
    ·refine gs ?_
     refine A0r D hb0 hj hbk hbr Z Z Z (by rw [hbf];exact func183) nr183 (tab.und_ok _ _ Z) sM sM sM sM Z Z (fun z m hkn=>⟨_,.ux,(dfP_afterX _).symm,?_⟩)
     haveI:=sJ A K m2 j (.mx a L (A3i z)) (v) hb0 Z
     refine gs ?_
     exact F_in [(0,muP A),(4,.int .i32 (encW z))] (IH _ oM _ _ ⟨z,Z,Z,hkn.n⟩) ⟨Z,Z,trivial⟩
theorem iunlock_x(D:Dist A)(hb0:0<base)(hj:j<A.J){n:Nat}(hv:v A.Cm=some (true,A.con (L++[a])))(hend:∀m,m≤n→Job prog (proto A base) K m (base+j) (.inr .take) (del v A.Cm) (G (cf.finish (.tuple #[])) cs)) :
  RunW prog false (proto A base).Wd (AtW prog A base K n j (.mx a L .u0)) v (G (Frame.enter prog 165 #[muP A] .normal) (cf::cs)):=by
 refine A3b (ys:=[_]) func165 Z nB fun b hbn hbr hbf=>?_
 have hbk:b.kind≠.early:=by rw [hbn];simp
 refine gs ?_
 refine A0r D hb0 hj hbk hbr Z Z Z (by rw [hbf];exact func165) nr165 (tab.und_ok _ _ Z) sM sM sM sM Z Z (fun y m hkn=>⟨_,.u0,Z,A0h hb0 Z fun m1 hm1=>?_⟩)
 refine gs ?_
 refine B1t D hbk hbr Z Z Z (tab.und_ok _ _ Z) (tab.und_ok _ _ Z) (A7v Z) Z (.inl Z) oM ?_
 refine st_ur D hb0 hj hbk hbr Z Z Z e150 Z hv (A0h hb0 Z fun m2 hm2=>?_)
 refine gs ?_
 refine st_mark .disable (.inl Z) D hb0 hj hbk hbr Z Z Z e151 sM sM sM sM Z (fun _ _=>.ud) B0q (A0h hb0 Z fun m3 hm3=>?_)
 refine gs ?_
 refine adL D hb0 hj R6 (fun z m hkn=>?_)
 have hz6:z.n<256:=Nat.lt_of_le_of_lt hkn.n oM
 refine⟨_,{z with l:=false },Mu.m1 hz6 (hkn.hold rfl),.ua,(dfP_afterU _).symm,?_⟩
 haveI:=sJ A K m3 j (.mx a L (A3y {z with l:=false })) (del v A.Cm) hb0 rfl
 refine gs ?_
 cases hz:(encW {z with l:=false } != 0)with
 | true=>
  refine fP R4 (vB hz Z) ?_
  refine gs ?_
  refine A5b (ys:=[muP A,.int .i32 (encW {z with l:=false })]) hbk hbr rfl rfl rfl rfl rfl func183 rfl dM rfl fun cf1 _ hcf1=>uslow_x D hb0 hj rfl hkn.n fun m5 hm5=>hcf1 _ _ (A0h hb0 rfl fun m6 hm6=>?_)
  refine gs ?_
  refine st_ue D hb0 hj hbk hbr Z Z Z e152 ?_
  haveI:=sJ A K m6 j (.take) (del v A.Cm) hb0 Z
  refine gs ?_
  exact B4f hbr (A7h hbn (by rw [hbf];exact func165) Z (hend _ oM))
 | false=>
  refine fP R4 (vB hz Z) ?_
  refine gs ?_
  have hz':=(encz (x:={z with l:=false }) hz6).symm.trans hz
  simp only [Bool.or_eq_false_iff,bne_eq_false_iff_eq]at hz'
  have e:A3y {z with l:=false } = .ue:=by
   unfold A3y
   rw [if_neg (by simp [hz'.1.2])]
   unfold A3i
   rw [if_pos (.inl hz'.2)]
  rw [e]
  refine A0h hb0 Z fun m6 hm6=>?_
  refine st_ue D hb0 hj hbk hbr Z Z Z e152 ?_
  haveI:=sJ A K m6 j (.take) (del v A.Cm) hb0 Z
  refine gs ?_
  exact B4f hbr (A7h hbn (by rw [hbf];exact func165) Z (hend _ oM))
theorem unlock_x(D:Dist A)(hb0:0<base)(hj:j<A.J){n:Nat}(hv:v A.Cm=some (true,A.con (L++[a])))(hend:∀m,m≤n→Job prog (proto A base) K m (base+j) (.inr .take) (del v A.Cm) (G (cf.finish (.tuple #[])) cs)) :
  RunW prog false (proto A base).Wd (AtW prog A base K n j (.mx a L .u0)) v (G (Frame.enter prog 135 #[muP A] .normal) (cf::cs)):=by
 refine A3b (ys:=[_]) func135 Z nB fun b hbn hbr hbf=>?_
 have hbk:b.kind≠.early:=by rw [hbn];simp
 refine gs ?_
 refine A5b (ys:=[muP A]) hbk hbr Z Z Z Z Z func165 Z dM Z fun cf1 _ hcf1=>iunlock_x D hb0 hj hv fun m hm=>hcf1 _ _ ?_
 haveI:=sJ A K m j (.take) (del v A.Cm) hb0 Z
 refine gs ?_
 exact B4f hbr (A7h hbn (by rw [hbf];exact func135) Z (hend _ hm))
end
def regOf(i:Nat):Code→Option Code
 | .region id ops d=>if id==i then some (.region id ops d)else none
 | .loop c=>regOf i c
 | .seq a b=>match regOf i a with|some c=>some c|none=>regOf i b
 | .block _ c=>regOf i c
 | .scope c=>regOf i c
 | .cond _ a b=>match regOf i a with|some c=>some c|none=>regOf i b
 | _=>none
noncomputable def wkR (i:Nat):Code:=match f131.body with
 | some c=>(match regOf i c with|some d=>d|none=>.skip)
 | none=>.skip
section
variable{A:Par}{base:Nat}{K:View→Goroutine→Prop}{j a:Nat}{L:List Nat}{v:View}{cf:Frame}{cs:List Frame}
abbrev cnP(A:Par):Value:=.pointer (some ⟨A.Cn,0,none⟩)
theorem add133_x(D:Dist A)(hb0:0<base)(hj:j<A.J){n:Nat}
  (hY:∀t,t<A.N→Job prog (proto A base) K n (base+j) (.inr (if A.keep t then .take else .mx t [] .l0)) v (G (cf.finish (.int .i64 ((t+1:Nat):Int))) cs))
  (hE:∀t,A.N≤t→t≤2^62+200→Job prog (proto A base) K n (base+j) (.inr .d0) v (G (cf.finish (.int .i64 ((t+1:Nat):Int))) cs)) :
  RunW prog false (proto A base).Wd (AtW prog A base K n j .take) v (G (Frame.enter prog 133 #[cnP A,.int .i64 1] .normal) (cf::cs)):=by
 refine A3b (ys:=[_,_]) func133 Z nB fun b hbn hbr hbf=>?_
 have hbk:b.kind≠.early:=by rw [hbn];simp
 refine gs ?_
 refine st_take D hb0 hj hbk hbr Z Z Z e163 Z Z (fun t ht=>?_) (fun t h1 h2=>?_)
 ·haveI:=sil_job (P:=prog) (A:=A) (K:=K) (n:=n) (j:=j) (q:=if A.keep t then .take else .mx t [] .l0) (v:=v) hb0 (by split<;>rfl)
  refine gs ?_
  refine A6w hbr ?_
  refine A9e hbn (by rw [hbf];exact func133) Z Z ?_
  exact hY t ht
 ·haveI:=sJ A K n j (.d0) v hb0 Z
  refine gs ?_
  refine A6w hbr ?_
  refine A9e hbn (by rw [hbf];exact func133) Z Z ?_
  exact hE t h1 h2
abbrev wkIn(A:Par)(aP bP cP:Value):Regs:=[(0,wgP A),(1,cnP A),(2,aP),(3,bP),(4,muP A),(5,cP)]
abbrev wkDs(A:Par):List Deferred:=[dcall 132 (List.toArray [wgP A])]
theorem sub1{t:Nat}(h:t≤2^62+200):IntKind.i64.wrap (((t+1:Nat):Int)-1)=(t:Int):=by
 have h62:(2:Nat)^62=4611686018427387904:=by decide
 rw [B1x];omega
def Alone(A:Par)(base:Nat)(K:View→Goroutine→Prop)(j:Nat)(cs:List Frame)(c:Code)(ρ0 ρ1:Regs)(v0 v1:View):Prop:=
 ∀ (q:Wk) (m:Nat) (b:Frame) (k:List Item) (ρ:Regs) (c':Code),c'=c→b.kind≠.early→b.roundOf=none→b.fn=131→RIn ρ ρ0→
  (∀ρ',RIn ρ' ρ1→XF prog false (proto A base).Wd (AtW prog A base K m j q) f131.ntmps b k cs (wkDs A) ρ' v1)→XF prog false (proto A base).Wd (AtW prog A base K m j q) f131.ntmps b (.code c'::k) cs (wkDs A) ρ v0
theorem born_x{R:Goroutine→Prop}[S:Sil prog false R]{args:Array Value}{cap:Array Value}
  (h:∀cf:Frame,cf.mode = .panicking [goexitEntry]→B1w prog 0 (G cf [])→R (G (Frame.enter prog 131 (args++cap) .deferred) [cf])):R (born prog {target:=.fn (.func 131) cap,args:=args }):=by
 have hout:prog.funcs[prog.funcs.size]?=none:=Array.getElem?_eq_none (Nat.le_refl _)
 refine S.step Z (g':=G (Frame.enter prog 131 (args++cap) .deferred) [{(default:Frame)with fn:=prog.funcs.size,defers:=[],mode:=.panicking [goexitEntry] }]) (fun w=>?_) (h _ rfl ⟨1,.inr ⟨rfl,{frame:={(default:Frame)with fn:=prog.funcs.size,defers:=[],mode:=.panicking [goexitEntry] },callers:=[],status:=.finished,dying:=none },#[],by simp,fun w=>?_,rfl,by simp [deafBehind]⟩⟩)
 ·have hnm:¬f131.name = "runtime.NumGoroutine":=by decide
  have hbd:¬f131.body=none:=fun h=>absurd (congrArg Option.isNone h) Bool.false_ne_true
  simp [born,G,stepG,unwind,callDeferred,invoke,callFunc,func131,hnm,hbd,GStep.after,seen_none]
 ·simp [G,stepG,unwind,Frame.catches,hout,goexitEntry]
  rfl
theorem worker_x(D:Dist A)(hb0:0<base)(hj:j<A.J){aP bP cP:Value}(hcf:cf.mode = .panicking [goexitEntry])(hfin:B1w prog 0 (G cf []))(hvc:v A.Cm=none)
  (hR2:∀t:Nat,t≤2^62+200→Alone A base K j [cf] (wkR 2) ((6,.int .i64 (t:Nat))::wkIn A aP bP cP) ((12,.bool (decide (A.N≤t)))::(6,.int .i64 (t:Nat))::wkIn A aP bP cP) v v)
  (hR3:∀t:Nat,t<A.N→Alone A base K j [cf] (wkR 3) ((6,.int .i64 (t:Nat))::wkIn A aP bP cP) ((24,.bool (A.keep t))::(6,.int .i64 (t:Nat))::wkIn A aP bP cP) v v)
  (hR5:∀(t:Nat) (L:List Nat),t<A.N→Alone A base K j [cf] (wkR 5) ((6,.int .i64 (t:Nat))::wkIn A aP bP cP) (wkIn A aP bP cP) (v.set A.Cm true (A.con L)) (v.set A.Cm true (A.con (L++[t]))))(n:Nat) :
  Job prog (proto A base) K n (base+j) (.inr .take) v (G (Frame.enter prog 131 #[wgP A,cnP A,aP,bP,muP A,cP] .deferred) [cf]):=by
 haveI:=sJ A K n j (.take) v hb0 Z
 refine A3b (ys:=[_,_,_,_,_,_]) func131 Z nB fun b hbn hbr hbf=>?_
 have hbk:b.kind≠.early:=by rw [hbn];simp
 refine gs ?_
 refine F_defer (xs:=[wgP A]) hbk hbr Z Z Z ?_
 refine gs ?_
 refine F_in (wkIn A aP bP cP) (loop_go hb0 (I:=fun q ρ=>q = .take∧ρ=wkIn A aP bP cP) n (fun q ρ h=>by rw [h.1];rfl) ?_ ⟨Z,Z⟩) ⟨Z,Z,Z,Z,Z,Z,trivial⟩
 clear this
 rintro n' hn' q ρ ⟨rfl,rfl⟩ IH
 refine gs ?_
 have hdel:del (v.set A.Cm true (A.con [])) A.Cm=v∧∀o,del (v.set A.Cm true o) A.Cm=v:=by
  have:∀o,del (v.set A.Cm true o) A.Cm=v:=fun o=>by
   funext b'
   unfold del View.set
   by_cases e:b'=A.Cm
   ·subst e;rw [if_pos rfl,hvc]
   ·rw [if_neg e,if_neg e]
  exact⟨this _,this⟩
 refine A5b (ys:=[cnP A,.int .i64 1]) hbk hbr Z Z Z Z Z func133 Z dM Z fun cf1 _ hcf1=>add133_x D hb0 hj (fun t ht=>hcf1 _ _ ?_) (fun t h1 h2=>hcf1 _ _ ?_)
 ·have htb:t≤2^62+200:=by have:=D.nN;omega
  refine A0h hb0 (by split<;>rfl) fun m1 hm1=>?_
  refine fP R4 (vI (sub1 htb) Z) ?_
  refine gn ?_
  refine hR2 t htb _ _ b _ _ _ ?_ hbk hbr hbf ?_ fun ρ2 h2=>?_
  ·kernel_rfl
  ·exact⟨Z,Z,Z,Z,Z,Z,Z,trivial⟩
  rw [show decide (A.N≤t)=false by simp;omega]at h2
  refine F_in _ ?_ h2
  refine gs ?_
  refine hR3 t ht _ _ b _ _ _ ?_ hbk hbr hbf ?_ fun ρ3 h3=>?_
  ·kernel_rfl
  ·exact⟨Z,Z,Z,Z,Z,Z,Z,trivial⟩
  refine F_in _ ?_ h3
  cases hkt:A.keep t with
  | true=>
   rw [if_pos rfl]
   refine gs ?_
   have h4:=IH (m1+1) oM _ _ ⟨Z,Z⟩
   refine F_in (wkIn A aP bP cP) ?_ ⟨Z,Z,Z,Z,Z,Z,trivial⟩
   exact fun c hc=>job_out hb0 Z (h4 c hc)
  | false=>
   rw [if_neg sM]
   refine gs ?_
   refine A5b (ys:=[muP A]) hbk hbr Z Z Z Z Z func134 Z dM Z fun cf2 _ hcf2=>lock_x D hb0 hj fun m hm L'=>hcf2 _ _ (A0h hb0 Z fun m2 hm2=>?_)
   refine gs ?_
   refine hR5 t L' ht _ _ b _ _ _ ?_ hbk hbr hbf ?_ fun ρ5 h5=>?_
   ·kernel_rfl
   ·exact⟨Z,Z,Z,Z,Z,Z,Z,trivial⟩
   refine F_in _ ?_ h5
   refine gs ?_
   refine A5b (ys:=[muP A]) hbk hbr Z Z Z Z Z func135 Z dM Z fun cf3 _ hcf3=>unlock_x D hb0 hj (by simp [View.set]) fun m3 hm3=>hcf3 _ _ ?_
   rw [hdel.2]
   haveI:=sJ A K m3 j (.take) v hb0 Z
   refine gs ?_
   exact F_in (wkIn A aP bP cP) (IH m3 oM _ _ ⟨Z,Z⟩) ⟨Z,Z,Z,Z,Z,Z,trivial⟩
 ·refine A0h hb0 Z fun m1 hm1=>?_
  refine fP R4 (vI (sub1 h2) Z) ?_
  refine gn ?_
  refine hR2 t h2 _ _ b _ _ _ ?_ hbk hbr hbf ?_ fun ρ2 h3=>?_
  ·kernel_rfl
  ·exact⟨Z,Z,Z,Z,Z,Z,Z,trivial⟩
  rw [show decide (A.N≤t)=true by simpa using h1]at h3
  refine F_in _ ?_ h3
  refine gs ?_
  refine B4f hbr (B_enter hbr func132 Z Z fun cf4 hc4 hcf4=>done_x D hb0 hj hc4 (hcf4 _ ?_))
  exact B_retG hbn (by rw [hbf];exact func131) Z hcf hfin
end
end Go.Proofs.YtiolobmgibdfmaaGreat
end
section
namespace Go.Pal.Mu
open Go Go.Conc Go.Pal View
open Go.ConcN (sumTo upd sumTo_upd upd_ne upd_same sumTo_congr le_sumTo)
section
variable{P:Program}{A:Par}{base:Nat}{K:View→Goroutine→Prop}{n:Nat}{N:Nat}{b:Frame}{cs:List Frame}{ds:List Deferred}{ρ:Regs}{v:View}{k:List Item}{ops:Array Oper}{i:Nat}{rest:List Nat}{ty:TypeId}{pos:String}{af:Array Edge}{gu:Option (Nat×Bool)}
variable{f:FuncId}{ats:Array TypeId}{o1:Operand}
theorem s_go{kk:Nat}{cap:Array Value}(D:Dist A)(hb0:0<base)(hk:b.kind≠.early)(hr:b.roundOf=none)(ho:ops[i]?=some ⟨none,.go {callee:=.value o1,args:=#[],argTypes:=ats },ty,pos,af,gu⟩)
  (hw:A0x ops gu ρ=some true)(h1:ρ.val o1=some (.func (.func f) #[] cap))(hro:∀b',¬v.Owns b')
  (hx:JM P A base K n (if kk+1<A.J then .a0 (kk+1)else .w0) N b (.inRegion ops rest::k) cs ds ρ v)(hxc:Job P (proto A base) K n (base+kk) (.inr .take) v (born P {target:=.fn (.func f) cap,args:=#[] })) :
  XFm P A base K n (.go kk) N b (.inRegion ops (i::rest)::k) cs ds ρ v:=fun c hf=>by
 refine .stop (Le.refl v) ⟨Z,Z,fun e=>(by cases e),fun γ w O hth hag hS hd hcalm=>⟨fun hbl=>?_,fun _=>?_⟩⟩
 ·have hm:γ.mn = .go kk:=by
   have hth:thW A base γ 0=some (.inl (.go kk)):=hth
   rw [A4f]at hth;simpa using hth
  rcases hbl with ⟨_,h,_⟩|⟨j',e1,_⟩
  ·rw [hm]at h;cases h
  ·omega
 have hm:γ.mn = .go kk:=by
  have hth:thW A base γ 0=some (.inl (.go kk)):=hth
  rw [A4f]at hth;simpa using hth
 have O:Ok A.J A.N A.keep γ:=O.1
 obtain⟨hst,hkJ⟩:=O.stk kk (by rw [hm];rfl)
 have hoff:γ.ph kk = .off:=O.offs kk oM
 have e1:c.eval o1=_:=A0o hf _ _ h1
 have hrun:(execOp c.eval ⟨none,.go {callee:=.value o1,args:=#[],argTypes:=ats },ty,pos,af,gu⟩).run P w = .ok (.spawn {target:=.fn (.func f) cap,args:=#[] }) w:=by
  unfold execOp
  simp [resolve,Deferred.ofValue,e1]
 have hev:(execOp c.eval ⟨none,.go {callee:=.value o1,args:=#[],argTypes:=ats },ty,pos,af,gu⟩).events P w #[]=#[]:=by
  unfold execOp
  simp [resolve,Deferred.ofValue,e1]
 have A5e:=stepG_spawn (P:=P) (main:=true) (b:=b) (a:=c) (cs:=cs) (k:=k) (rest:=rest) (w:=w) ho (A0q hf (A0p hw)) hk hrun Z
 unfold listed at A5e
 rw [hev,seen_none]at A5e
 have hth':thW A base {γ with mn:=if kk+1<A.J then .a0 (kk+1)else .w0,st:=kk+1,ph:=upd γ.ph kk .take } 0=some (.inl (if kk+1<A.J then .a0 (kk+1)else .w0)):=A4f
 have hthc:thW A base {γ with mn:=if kk+1<A.J then .a0 (kk+1)else .w0,st:=kk+1,ph:=upd γ.ph kk .take } (base+γ.st)=some (.inr .take):=by rw [hst];exact A7j hb0 hkJ (by simp only [upd_same]) sM
 have hsh:shW A {γ with mn:=if kk+1<A.J then .a0 (kk+1)else .w0,st:=kk+1,ph:=upd γ.ph kk .take }=shW A γ:=by
  have e:=A1s (ph:=γ.ph) hkJ .take hc
  rw [hoff]at e
  simp only [hc,Nat.add_zero]at e
  funext b'
  unfold shW
  simp only [e]
 refine .spawn _ (.inl (if kk+1<A.J then .a0 (kk+1)else .w0)) (.inr .take) v v _ _ Z (by rw [A1i hr];exact A5e) (.go hm) (by show base+(kk+1)=base+γ.st+1;omega) hth' hthc Z ?_ Z Z ?_ hsh (Le.refl v) (fun b' x e=>?_) (fun b'=>⟨fun e=>absurd e (hro b'),fun e=>absurd e (hro b')⟩) ?_ ?_
 ·show dfM (if kk+1<A.J then .a0 (kk+1)else .w0)=0
  split<;>rfl
 ·by_cases h:kk+1<A.J
  ·rw [if_pos h]
  ·rw [if_neg h]
 ·obtain⟨p,o⟩:=x
  cases p with
  | false=>exact⟨false,e,fun h=>by cases h⟩
  | true=>exact absurd ⟨o,e⟩ (hro b')
 ·rw [←A1i hr]
  exact hx _ hf
 ·rw [show(proto A base).size γ=base+kk by show base+γ.st=_;rw [hst]]
  exact hxc
theorem s_fin{g:Goroutine}(hb0:0<base)(hrun:g.status = .running)(hoff:g.offers=none)(h:∀L,(∀a,a<A.N→A.keep a=false→a∈L)→(∀a∈L,a<A.N∧A.keep a=false)→
   ∀γ:WS,γ.L=L→(∀j,γ.ph j = .off)→K (v.union ((proto A base).rest γ)) g): RunW P true (proto A base).Wd (AtM P A base K n .fin) v g:=by
 refine .stop (Le.refl v) ⟨hrun,hoff,fun e=>(by cases e),fun γ w O hth hag hS hd hcalm=>⟨fun hbl=>?_,fun _=>?_⟩⟩
 ·have hm:γ.mn = .fin:=by
   have hth:thW A base γ 0=some (.inl .fin):=hth
   rw [A4f]at hth;simpa using hth
  rcases hbl with ⟨_,h,_⟩|⟨j',e1,_⟩
  ·rw [hm]at h;cases h
  ·omega
 have hm:γ.mn = .fin:=by
  have hth:thW A base γ 0=some (.inl .fin):=hth
  rw [A4f]at hth;simpa using hth
 have hoff':=allOff O.1 (by rw [hm];rfl)
 have hcc:A.N≤γ.c:=O.2.2 0 (by have:=O.1.stw (by rw [hm];rfl);have:=A.J1;omega) (by rw [hoff' 0];rfl)
 refine .over Z hm (h γ.L (fun a ha hk=>?_) O.1.sub γ Z hoff')
 rcases O.1.all a oM ha hk with h|⟨j,L',p,h,_⟩
 ·exact h
 ·rw [hoff' j]at h;cases h
end
end Go.Pal.Mu
end
section
namespace Go.Proofs.YtiolobmgibdfmaaGreat
open Go Go.Pal Go.Pal.Mu Go.Conc View
open Go.Proofs.Tryz
set_option maxHeartbeats 4000000
noncomputable def wsBody:Code:=match f80.body with
 | some c=>(match B1r c with|some d=>d|none=>.skip)
 | none=>.skip
section
variable{A:Par}{base:Nat}{K:View→Goroutine→Prop}{v:View}{cs:List Frame}
abbrev wsIn(A:Par)(aP bP cP:Value):Regs:=[(8,wgP A),(6,cnP A),(3,aP),(1,bP),(7,muP A),(4,cP)]
abbrev wsSt(k:Nat):Mn:=if k<4 then .a0 k else .w0
theorem F_mkf{P:Program}{main:Bool}{R:Goroutine→Prop}[S:Sil P main R]{n:Nat}{b:Frame}{k:List Item}{cs:List Frame}{ρ:Regs}{ds:List Deferred}{ops:Array Oper}{i:Nat}{rest:List Nat}{d:Nat}{ty:TypeId}{pos:String}{af:Array Edge}{gu:Option (Nat×Bool)}
  {fn:Fn}{cap:Array Operand}{ys:List Value}(hk:b.kind≠.early)(hr:b.roundOf=none)(ho:ops[i]?=some ⟨some d,.makeFunc fn #[] cap,ty,pos,af,gu⟩)(hw:A0x ops gu ρ=some true)(hn:Nat.blt d n=true)(hc:A3q ρ.val cap.toList=some ys)
  (h:XG R n b (.inRegion ops rest::k) cs ds ((d,.func fn #[] ys.toArray)::ρ)):XG R n b (.inRegion ops (i::rest)::k) cs ds ρ:=fun a hf=>by
 have ha:cap.map a.eval=ys.toArray:=Array.toList_inj.1 (by simpa using A3h (A0o hf) hc)
 have hrun:∀w,(execOp a.eval ⟨some d,.makeFunc fn #[] cap,ty,pos,af,gu⟩).run P w = .ok (.value (.func fn #[] ys.toArray)) w:=fun w=>by
  unfold execOp
  simp [Instr.makeFunc,ha]
 have hev:∀w,(execOp a.eval ⟨some d,.makeFunc fn #[] cap,ty,pos,af,gu⟩).events P w #[]=#[]:=fun w=>by
  unfold execOp
  simp only [Instr.makeFunc,ha]
  rfl
 refine S.step Z (g':=G (b.on (a.put (some d) (.func fn #[] ys.toArray)) (.inRegion ops rest::k)) cs) (fun w=>?_) (h _ (A1h hf (show A3j n (some d)=true from hn)))
 rw [A1i hr,A1i hr,stepG_value (v:=.func fn #[] ys.toArray) (w':=w) ho (A0q hf (A0p hw)) hk (hrun w)]
 unfold listed
 rw [hev w]
 simp [seen_none]
theorem wsloop_x(D:Dist A)(hb0:0<base)(hJ:A.J=4){aP bP cP:Value}(hro:∀b',¬v.Owns b'){b:Frame}(hbk:b.kind≠.early)(hbr:b.roundOf=none){k:List Item}{ds:List Deferred}{body:Code}(hbody:body=wsBody)
  (hwork:∀j n,j<4→Job prog (proto A base) K n (base+j) (.inr .take) v (born prog {target:=.fn (.func 131) #[wgP A,cnP A,aP,bP,muP A,cP],args:=#[] }))
  (hend:∀n,JM prog A base K n .w0 f80.ntmps b k cs ds (wsIn A aP bP cP) v)(i n:Nat)(hi:i≤4) :
  JM prog A base K n (wsSt (4-i)) f80.ntmps b (.code body::.inLoop body::.inBlock 2::k) cs ds ((21,.int .i64 ((4-i:Nat):Int))::wsIn A aP bP cP) v:=by
 subst hbody
 induction i generalizing n with
 | zero=>
  haveI:=A3o (P:=prog) (A:=A) (K:=K) (base:=base) (n:=n) (v:=v) (q:=wsSt (4-0))
  refine F_seq ?_
  refine gb ?_
  refine gs ?_
  exact F_in (wsIn A aP bP cP) (hend n) ⟨Z,Z,Z,Z,Z,Z,trivial⟩
 | succ i ih=>
  obtain⟨kk,hkk⟩:∃kk,kk=4-(i+1):=⟨_,rfl⟩
  have hk4:kk<4:=oM
  have hk1:4-i=kk+1:=oM
  rw [←hkk]
  rw [hk1]at ih
  rw [show wsSt kk = .a0 kk from if_pos hk4]
  have hlt:decide (((kk:Nat):Int)<4)=true:=by simp;omega
  refine A5h fun m1 hm1=>?_
  refine F_seq ?_
  refine gs ?_
  refine fP R4 (vB hlt Z) ?_
  refine gs ?_
  refine A5b (ys:=[wgP A,.int .i64 1]) hbk hbr Z Z Z Z Z func130 Z dM Z fun cf1 _ hcf1=>addpos_x D hb0 fun m hm=>hcf1 _ _ (A5h fun m2 hm2=>?_)
  refine gs ?_
  refine F_mkf (ys:=[wgP A,cnP A,aP,bP,muP A,cP]) hbk hbr Z Z Z Z ?_
  refine s_go D hb0 hbk hbr Z Z Z hro ?_ (hwork kk m2 hk4)
  rw [hJ]
  have ih':=ih (n:=m2) oM
  haveI:=A3o (P:=prog) (A:=A) (K:=K) (base:=base) (n:=m2) (v:=v) (q:=wsSt (kk+1))
  show JM prog A base K m2 (wsSt (kk+1)) _ _ _ _ _ _ _
  refine gs ?_
  have hadd:IntKind.i64.wrap (((kk:Nat):Int)+1)=((kk+1:Nat):Int):=by rw [B1x];omega
  refine fP R4 (vI hadd Z) ?_
  refine gs ?_
  refine B2k ?_
  exact F_in ((21,.int .i64 ((kk+1:Nat):Int))::wsIn A aP bP cP) ih' ⟨Z,Z,Z,Z,Z,Z,Z,trivial⟩
theorem wswait_x(D:Dist A)(hb0:0<base){aP bP cP:Value}{b:Frame}(hbk:b.kind≠.early)(hbr:b.roundOf=none){k:List Item}{ds:List Deferred}{ops:Array Oper}{d:Nat}{ty:TypeId}{pos:String}{af:Array Edge}{ats:Array TypeId}
  (ho:ops[0]?=some ⟨some d,.call {callee:=.value (.func 136),args:=#[.tmp 8],argTypes:=ats },ty,pos,af,none⟩)(hd:Nat.blt d f80.ntmps=true)
  (hK:∀c,Fits f80.ntmps ⟨ds,(d,.tuple #[])::wsIn A aP bP cP,[]⟩ c→∀L,(∀a,a<A.N→A.keep a=false→a∈L)→(∀a∈L,a<A.N∧A.keep a=false)→∀γ:WS,γ.L=L→(∀j,γ.ph j = .off)→K (v.union ((proto A base).rest γ)) (G (b.on c (.inRegion ops []::k)) cs))(n:Nat) :
  JM prog A base K n .w0 f80.ntmps b (.inRegion ops [0]::k) cs ds (wsIn A aP bP cP) v:=
 A5h fun m1 hm1=>A5b (ys:=[wgP A]) hbk hbr ho rfl hd rfl rfl func136 rfl dM rfl fun cf1 _ hcf1=>wait_x D hb0 fun m hm=>hcf1 _ _ (A5h fun m2 hm2=>fun c hc=>s_fin hb0 rfl rfl fun L h1 h2 γ h3 h4=>hK c hc L h1 h2 γ h3 h4)
end
end Go.Proofs.YtiolobmgibdfmaaGreat
end
section
namespace Go.Pal.Mu
open Go Go.Conc Go.Pal View
open Go.ConcN (sumTo upd sumTo_upd upd_ne upd_same sumTo_congr le_sumTo)
def A6t(A:Par)(v:View):View:=fun b=>if b=A.Mu∨b=A.Wg∨b=A.Cn∨b=A.Cm then none else(v b).map fun x=>(false,x.2)
theorem keepV_ro{A:Par}{v:View}(b:Nat):¬(A6t A v).Owns b:=fun⟨o,h⟩=>by
 unfold A6t at h
 split at h
 ·cases h
 ·cases e:v b<;>rw [e]at h<;>simp at h
theorem keepV_cm{A:Par}{v:View}:A6t A v A.Cm=none:=by unfold A6t;rw [if_pos sM]
theorem B0k{A:Par}{v:View}{b:Nat}{p:Bool}{o:Obj}(h:v b=some (p,o))(hn:¬(b=A.Mu∨b=A.Wg∨b=A.Cn∨b=A.Cm)):A6t A v b=some (false,o):=by unfold A6t;rw [if_neg hn,h];rfl
theorem begins_par{P:Program}{A:Par}{base:Nat}{K:View→Goroutine→Prop}{v:View}{g:Goroutine}(D:Dist A)(hb0:0<base)(h1:v A.Mu=some (true,muB A.tM .zero 0))(h2:v A.Wg=some (true,wgB A.tW 0 0 0))(h3:v A.Cn=some (true,cnB A.tC 0))(h4:v A.Cm=some (true,A.con []))
    (hjob:∀n,Job P (proto A base) K n 0 (.inl (.a0 0)) (A6t A v) g):Begins P v g K base (proto A base) start (A6t A v) (.inl (.a0 0)) where
  laws:=laws A base hb0
  wake0:=fun O h hs j hj hbl=>Mu.wake0 O.1 h hs j hj hbl
  ok:=⟨start_ok A,start_cb A⟩
  size:=rfl
  th:=A4f (A:=A) (base:=base) (γ:=start)
  oth:=fun j hj=>by
    show thW A base start j=none
    cases e:thW A base start j with
    | none=>rfl
    | some τ=>
      rcases B2r e with ⟨h,_⟩|⟨a,_,_,h,_⟩
      · exact absurd h hj
      · exact absurd Z h
  rel:=rfl
  deaf:=rfl
  acq:=rfl
  weak:=fun b x h=>by
    unfold A6t at h
    split at h
    · cases h
    · cases e:v b with
      | none=>rw [e]at h;cases h
      | some y=>
        rw [e]at h
        simp only [Option.map_some,Option.some.injEq]at h
        subst h
        exact⟨y.1,Z,fun h=>by cases h⟩
  sh:=fun b x h=>by
    have hh:shW A start b=some x:=h
    clear h
    by_cases e1:b=A.Mu
    · subst e1;rw [sh_mu]at hh;cases hh;exact⟨h1,rfl⟩
    by_cases e2:b=A.Wg
    · subst e2;rw [B1f D]at hh;cases hh;exact⟨h2,rfl⟩
    by_cases e3:b=A.Cn
    · subst e3;rw [sh_cn D]at hh;cases hh;exact⟨h3,rfl⟩
    by_cases e4:b=A.Cm
    · subst e4
      rw [sh_cm D]at hh
      split at hh
      · cases hh;exact⟨h4,rfl⟩
      · cases hh
    · unfold shW at hh
      rw [if_neg e1,if_neg e2,if_neg e3,if_neg e4]at hh
      cases hh
  atb:=fun b h=>sh_atb D h
  disj:=fun b=>by
    by_cases e:b=A.Mu∨b=A.Wg∨b=A.Cn∨b=A.Cm
    · left;unfold A6t;rw [if_pos e]
    · right
      show shW A start b=none
      simp only [not_or]at e
      unfold shW
      rw [if_neg e.1,if_neg e.2.1,if_neg e.2.2.1,if_neg e.2.2.2]
  job:=hjob _
theorem rest_cm{A:Par}{base:Nat}{γ:WS}(D:Dist A)(h:∀j,γ.ph j = .off):(proto A base).rest γ A.Cm=some (true,A.con γ.L):=by
 have hz:Sw A.J γ.ph hc=0:=by
  have:∀n,Sw n γ.ph hc=0:=fun n=>by
   induction n with
   | zero=>rfl
   | succ n ih=>unfold Sw at *;simp only [sumTo,ih,h n];rfl
  exact this _
 unfold Proto.rest
 rw [if_neg (by rintro(e|e|e);exact D.mm e.symm;exact D.wm e.symm;exact D.cm e.symm)]
 show shW A γ A.Cm=_
 rw [sh_cm D,if_pos hz]
end Go.Pal.Mu
end
section
namespace Go.Pal
open Go Go.Conc View
def Lift(F u:View):Prop:=∀b x,F b=some x→∃o,x=(true,o)∧(u b=none∨u b=some (false,o))
section
variable{P:Program}{mn:Who}{Stop:View→Goroutine→Prop}{F u u':View}{w w':World}
theorem Lift.agree(h:Lift F u)(ha:(F.union u).Agree w):u.Agree w:=fun b p o e=>by
 cases hF:F b with
 | none=>exact ha b p o (by unfold View.union;rw [hF];exact e)
 | some x=>
  obtain⟨o',rfl,h1|h1⟩:=h b x hF
  ·rw [h1]at e;cases e
  ·rw [h1]at e;cases e
   exact ha b true o (by unfold View.union;rw [hF])
theorem Lift.mine(ha:(F.union u).Agree w):F.Agree w:=ha.le (A0b _ _)
theorem Lift.none(h:Lift F u){b:Nat}(ho:u.Owns b):F b = .none:=by
 cases hF:F b with
 | none=>rfl
 | some x=>
  obtain⟨o',ho⟩:=ho
  obtain⟨o,rfl,h1|h1⟩:=h b x hF<;>(rw [h1]at ho;cases ho)
theorem Lift.owns(h:Lift F u){b:Nat}(ho:u.Owns b):(F.union u).Owns b:=by
 have:=h.none ho
 obtain⟨o,ho⟩:=ho
 exact⟨o,by unfold View.union;rw [this];exact ho⟩
theorem Lift.step(h:Lift F u)(hF:F.Agree w)(ha:u'.Agree w')(keep:∀b,b<w.heap.size→¬u.Owns b→w'.heap[b]?=w.heap[b]?)(dom:∀b,u' b≠.none→u b≠.none∨w.heap.size≤b)(own:∀b,u'.Owns b→u.Owns b∨w.heap.size≤b) :
  Lift F u'∧(F.union u').Agree w'∧(∀b,b<w.heap.size→¬(F.union u).Owns b→w'.heap[b]?=w.heap[b]?)∧(∀b,(F.union u') b≠.none→(F.union u) b≠.none∨w.heap.size≤b)∧(∀b,(F.union u').Owns b→(F.union u).Owns b∨w.heap.size≤b):=by
 have hst:∀b o,F b = .some (true,o)→w'.heap[b]? = .some o:=fun b o hb=>by
  rw [keep b (hF.lt hb) fun hn=>?_]
  ·exact hF b true o hb
  ·have:=h.none hn
   rw [this]at hb;cases hb
 refine⟨fun b x hb=>?_,fun b p o e=>?_,fun b hb hn=>keep b hb fun ho=>hn (h.owns ho),fun b hb=>?_,fun b hb=>?_⟩
 ·obtain⟨o,rfl,_⟩:=h b x hb
  refine⟨o,Z,?_⟩
  cases hu:u' b with
  | none=>exact .inl rfl
  | some y=>
   obtain⟨p,o'⟩:=y
   right
   have h1:=ha b p o' hu
   rw [hst b o hb]at h1
   cases h1
   cases p with
   | false=>rfl
   | true=>
    exfalso
    rcases own b ⟨o,hu⟩with e|e
    ·rw [h.none e]at hb;cases hb
    ·exact absurd (hF.lt hb) oM
 ·unfold View.union at e
  cases hb:F b with
  | none=>rw [hb]at e;exact ha b p o e
  | some x=>
   rw [hb]at e
   cases e
   obtain⟨o',h1,_⟩:=h b _ hb
   cases h1
   exact hst b o hb
 ·unfold View.union at hb⊢
  cases hF':F b with
  | none=>rw [hF']at hb;exact dom b hb
  | some x=>exact .inl sM
 ·obtain⟨o,hb⟩:=hb
  unfold View.union at hb
  cases hF':F b with
  | none=>
   rw [hF']at hb
   rcases own b ⟨o,hb⟩with e|e
   ·exact .inl (h.owns e)
   ·exact .inr e
  | some x=>
   rw [hF']at hb
   cases hb
   exact .inl ⟨o,by unfold View.union;rw [hF']⟩
theorem BigStep.lift{g:Goroutine}{K:View→Goroutine→Prop}(k:BigStep P u g K)(h:Lift F u):BigStep P (F.union u) g (fun v' g'=>∃u',v'=F.union u'∧Lift F u'∧K u' g'):=fun gs w sl t q S hB=>by
 have hap:∀b,S b→u b=none:=fun b hb=>by
  have:=hB.apart b hb
  unfold View.union at this
  cases hF:F b with
  | none=>rw [hF]at this;exact this
  | some x=>rw [hF]at this;cases this
 obtain⟨N,gs',w',sl',t',q',S',v',g',h1,h2,h3,h4,h5⟩:=k gs w sl t q S {hB with agree:=h.agree hB.agree,apart:=hap }
 have hF:=Lift.mine hB.agree
 obtain⟨l1,l2,l3,l4,l5⟩:=h.step hF h3.agree h3.keep h3.dom h3.own
 refine⟨N,gs',w',sl',t',q',S',F.union v',g',h1,{h2 with agree:=l2,apart:=fun b hb=>?_ },⟨l2,h3.tape,h3.output,h3.os,h3.size,l3,l4,l5⟩,fun b hb=>(h4 b hb).imp id (Or.imp (fun e=>h.owns e) id),v',rfl,l1,h5⟩
 have hFb:F b=none:=by
  rcases h4 b hb with e|e|e
  ·have:=hB.apart b e
   unfold View.union at this
   cases hF':F b with
   | none=>rfl
   | some x=>rw [hF']at this;cases this
  ·exact h.none e
  ·cases hF':F b with
   | none=>rfl
   | some x=>exact absurd (hF.lt hF') oM
 unfold View.union
 rw [hFb]
 exact h2.apart b hb
def roV(v:View):View:=fun b=>(v b).map fun x=>(false,x.2)
def ownV(v:View):View:=fun b=>match v b with|some (true,o)=>some (true,o)|_=>none
end
end Go.Pal
end
section
namespace Go.Proofs.YtiolobmgibdfmaaGreat
open Go Go.Pal Go.Pal.Mu Go.Conc View
open Go.Proofs.Tryz
set_option maxHeartbeats 4000000
section
variable{A:Par}{v:View}{cs:List Frame}
structure Deeds(A:Par)(v:View)(aP bP cP:Value):Prop where
 r2:∀(base:Nat) (K:View→Goroutine→Prop) (j:Nat) (cf:Frame) (t:Nat),t≤2^62+200→Alone A base K j [cf] (wkR 2) ((6,.int .i64 (t:Nat))::wkIn A aP bP cP) ((12,.bool (decide (A.N≤t)))::(6,.int .i64 (t:Nat))::wkIn A aP bP cP) v v
 r3:∀(base:Nat) (K:View→Goroutine→Prop) (j:Nat) (cf:Frame) (t:Nat),t<A.N→Alone A base K j [cf] (wkR 3) ((6,.int .i64 (t:Nat))::wkIn A aP bP cP) ((24,.bool (A.keep t))::(6,.int .i64 (t:Nat))::wkIn A aP bP cP) v v
 r5:∀(base:Nat) (K:View→Goroutine→Prop) (j:Nat) (cf:Frame) (t:Nat) (L:List Nat),t<A.N→Alone A base K j [cf] (wkR 5) ((6,.int .i64 (t:Nat))::wkIn A aP bP cP) (wkIn A aP bP cP) (v.set A.Cm true (A.con L)) (v.set A.Cm true (A.con (L++[t])))
def ownW(A:Par)(v:View):View:=fun b=>if b=A.Mu∨b=A.Wg∨b=A.Cn∨b=A.Cm then none else match v b with|some (true,o)=>some (true,o)|_=>none
def A8x(A:Par)(v:View):View:=fun b=>if b=A.Mu∨b=A.Wg∨b=A.Cn∨b=A.Cm then v b else(v b).map fun x=>(false,x.2)
theorem less_lift(A:Par)(v:View):Lift (ownW A v) (A8x A v)∧(ownW A v).union (A8x A v)=v:=by
 refine⟨fun b x hb=>?_,?_⟩
 ·unfold ownW at hb
  unfold A8x
  split at hb
  ·cases hb
  ·rename_i e
   rw [if_neg e]
   cases hv:v b with
   | none=>rw [hv]at hb;cases hb
   | some y=>
    obtain⟨p,o⟩:=y
    rw [hv]at hb
    cases p with
    | false=>cases hb
    | true=>cases hb;exact⟨o,rfl,.inr rfl⟩
 ·funext b
  unfold View.union ownW A8x
  by_cases e:b=A.Mu∨b=A.Wg∨b=A.Cn∨b=A.Cm
  ·simp only [if_pos e]
  ·simp only [if_neg e]
   cases hv:v b with
   | none=>rfl
   | some y=>
    obtain⟨p,o⟩:=y
    cases p<;>rfl
theorem keep_less{A:Par}{v:View}:A6t A (A8x A v)=A6t A v:=by
 funext b
 unfold A6t A8x
 by_cases e:b=A.Mu∨b=A.Wg∨b=A.Cn∨b=A.Cm
 ·simp only [if_pos e]
 ·simp only [if_neg e]
  cases v b<;>rfl
theorem own_keep{A:Par}{v u:View}{L:List Nat}(h1:(A6t A v).Le u)(h2:u A.Cm=some (true,A.con L)){x:View}(hx:∀b y,x b=some y→(b=A.Cm∧y=(true,A.con L))∨(¬(b=A.Mu∨b=A.Wg∨b=A.Cn∨b=A.Cm)∧v b=some y)):x.Le ((ownW A v).union u):=fun b y hb=>by
 rcases hx b y hb with ⟨rfl,rfl⟩|⟨hn,hv⟩
 ·unfold View.union ownW
  rw [if_pos sM]
  exact h2
 ·obtain⟨p,o⟩:=y
  unfold View.union ownW
  rw [if_neg hn,hv]
  cases p with
  | true=>rfl
  | false=>exact h1 b (false,o) (B0k hv hn)
theorem ws_XC(D:Dist A)(hJ:A.J=4){aP bP cP:Value}{β:A0j}(h1:(v.union (A0e β)) A.Mu=some (true,muB A.tM .zero 0))(h2:(v.union (A0e β)) A.Wg=some (true,wgB A.tW 0 0 0))(h3:(v.union (A0e β)) A.Cn=some (true,cnB A.tC 0))(h4:(v.union (A0e β)) A.Cm=some (true,A.con []))
  (hdo:Deeds A (A6t A (v.union (A0e β))) aP bP cP){ds:List Deferred}{c0 body rest:Code}(hbody:body=wsBody)
  (hc0:XC prog ⟨true,true⟩ none f80.ntmps c0 (fun e σ u=>e = .normal∧σ=⟨ds,(21,.int .i64 ((0:Nat):Int))::wsIn A aP bP cP,β⟩∧u=v) ⟨ds,wsIn A aP bP cP,β⟩ v)
  {ops:Array Oper}{d:Nat}{ty:TypeId}{pos:String}{af:Array Edge}{ats:Array TypeId}{id:Nat}(ho:ops[0]?=some ⟨some d,.call {callee:=.value (.func 136),args:=#[.tmp 8],argTypes:=ats },ty,pos,af,none⟩)(hsz:List.range ops.size=[0])(hd:Nat.blt d f80.ntmps=true)
  {Q:Exit→St→View→Prop}
  (hK:∀L,(∀a,a<A.N→A.keep a=false→a∈L)→(∀a∈L,a<A.N∧A.keep a=false)→∃v' β',Bok β' v'∧
   (∀b y,(v'.union (A0e β')) b=some y→(b=A.Cm∧y=(true,A.con L))∨(¬(b=A.Mu∨b=A.Wg∨b=A.Cn∨b=A.Cm)∧(v.union (A0e β)) b=some y))∧
   XC prog ⟨true,true⟩ none f80.ntmps rest Q ⟨ds,(d,.tuple #[])::wsIn A aP bP cP,β'⟩ v') :
  XC prog ⟨true,true⟩ none f80.ntmps (.seq (.seq c0 (.block 2 (.loop body))) (.seq (.region id ops false) rest)) Q ⟨ds,wsIn A aP bP cP,β⟩ v:=by
 intro a0 hf00 hb Stop b k cs hbk hbr hq
 refine Run.ctl Z (g':=G (b.on a0 (.code (.seq c0 (.block 2 (.loop body)))::.code (.seq (.region id ops false) rest)::k)) cs) (fun w=>by simp [G,stepG,stepG.exec,Frame.on]) ?_
 refine Run.ctl Z (g':=G (b.on a0 (.code c0::.code (.block 2 (.loop body))::.code (.seq (.region id ops false) rest)::k)) cs) (fun w=>by simp [G,stepG,stepG.exec,Frame.on]) ?_
 refine hc0 a0 hf00 hb Stop b _ cs hbk hbr fun e a v1 hpost=>?_
 obtain⟨σ1,u1,⟨rfl,rfl,hu1⟩,hf,_,hle1⟩:=hpost
 rw [hu1]at hle1
 refine Run.weaken (u:=v.union (A0e β)) ?_ hle1
 clear hle1 hu1 hc0 hf00
 refine Run.ctl Z (g':=G (b.on a (.code (.loop body)::.inBlock 2::.code (.seq (.region id ops false) rest)::k)) cs) (fun w=>by simp [G,stepG,stepG.exec,Frame.on]) ?_
 refine Run.ctl Z (g':=G (b.on a (.code body::.inLoop body::.inBlock 2::.code (.seq (.region id ops false) rest)::k)) cs) (fun w=>by simp [G,stepG,stepG.exec,Frame.on]) ?_
 generalize hV:v.union (A0e β)=V at *
 have hf0:Fits f80.ntmps ⟨ds,(21,.int .i64 ((0:Nat):Int))::wsIn A aP bP cP,[]⟩ a:=⟨hf.size,hf.defers,hf.get⟩
 obtain⟨hl,hu⟩:=less_lift A V
 have e1:A8x A V A.Mu=V A.Mu:=by unfold A8x;rw [if_pos sM]
 have e2:A8x A V A.Wg=V A.Wg:=by unfold A8x;rw [if_pos sM]
 have e3:A8x A V A.Cn=V A.Cn:=by unfold A8x;rw [if_pos sM]
 have e4:A8x A V A.Cm=V A.Cm:=by unfold A8x;rw [if_pos sM]
 let K0:View→Goroutine→Prop:=fun u g=>∃c L,Fits f80.ntmps ⟨ds,(d,.tuple #[])::wsIn A aP bP cP,[]⟩ c∧(∀a,a<A.N→A.keep a=false→a∈L)∧(∀a∈L,a<A.N∧A.keep a=false)∧(A6t A V).Le u∧u A.Cm=some (true,A.con L)∧g=G (b.on c (.inRegion ops []::.code rest::k)) cs
 have hbig:BigStep prog (A8x A V) (G (b.on a (.code body::.inLoop body::.inBlock 2::.code (.seq (.region id ops false) rest)::k)) cs) K0:=by
  refine phase_big fun base hb0=>⟨proto A base,Mu.start,A6t A (A8x A V),.inl (.a0 0),begins_par D hb0 (e1.trans h1) (e2.trans h2) (e3.trans h3) (e4.trans h4) fun n=>?_⟩
  rw [keep_less]
  have hw:=wsloop_x (K:=K0) (cs:=cs) (k:=.code (.seq (.region id ops false) rest)::k) (ds:=ds) D hb0 hJ (aP:=aP) (bP:=bP) (cP:=cP) (keepV_ro (A:=A) (v:=V)) hbk hbr hbody
   (fun j n hj=>by
    haveI:=sil_job (P:=prog) (A:=A) (K:=K0) (n:=n) (j:=j) (q:=.take) (v:=A6t A V) hb0 Z
    exact born_x fun cf hc hq=>worker_x D hb0 oM hc hq keepV_cm (fun t ht=>hdo.r2 _ _ _ _ t ht) (fun t ht=>hdo.r3 _ _ _ _ t ht) (fun t L ht=>hdo.r5 _ _ _ _ t L ht) n)
   (fun n=>by
    haveI:=A3o (P:=prog) (A:=A) (K:=K0) (base:=base) (n:=n) (v:=A6t A V) (q:=.w0)
    exact F_seq (A2b hsz (wswait_x D hb0 hbk hbr ho hd (fun c hc L e1 e2 γ e3 e4=>⟨c,L,hc,e1,e2,A0b _ _,by
     unfold View.union
     rw [keepV_cm,rest_cm D e4,e3],Z⟩) n))) 4 n (Nat.le_refl 4)
  exact hw a hf0
 rw [←hu]
 refine Run.phase Z Z _ (hbig.lift hl) ?_
 rintro v1 g1 ⟨u,rfl,_,c,L,q1,q2,q3,q4,q5,rfl⟩
 obtain⟨v',β',r1,r2,r3⟩:=hK L q2 q3
 refine Run.ctl Z (g':=G (b.on c (.code rest::k)) cs) (fun w=>by simp [G,stepG,stepG.exec,Frame.on]) ?_
 exact(A6y (r3 c ⟨q1.size,q1.defers,q1.get⟩ r1) (own_keep q4 q5 r2)) Stop b k cs hbk hbr hq
end
end Go.Proofs.YtiolobmgibdfmaaGreat
end
section
namespace Go.Pal.Vo
structure Wd where
 who:Int
 kind:Int
 a:Int
 b:Int
 deriving DecidableEq
structure Vo where
 P:Int
 F:Int
 ws:List Wd
 deriving DecidableEq
abbrev Wl:=Nat×Nat
def bit(g n:Nat):Bool:=g / 2 ^ n % 2==1
def lst(g:Nat):List Nat:=(List.range 8).filter (bit g)
def cnt(g:Nat):Nat:=(lst g).length
def clr(g n:Nat):Nat:=if bit g n then g-2 ^ n else g
def A4h(P:Nat)(x:Wd)(w:Wl):Bool:=
 if x.kind=6 then decide ((P:Int)-cnt w.1≥x.a)
 else if x.kind=0 then bit w.2 x.a.toNat
 else if x.kind=1 then !bit w.2 x.a.toNat
 else if x.kind=2 then !bit w.1 x.a.toNat
 else if x.kind=3 then bit w.1 x.a.toNat
 else if x.kind=4 then !bit w.2 x.a.toNat||bit w.2 x.b.toNat
 else if x.kind=5 then bit w.1 x.a.toNat==bit w.1 x.b.toNat
 else false
def B1s(P:Nat)(ws:List Wd)(w:Wl):Nat:=ws.foldl (fun g x=>if A4h P x w then g else clr g x.who.toNat) (2 ^ P-1)
def fls(P t:Nat):Nat:=(2 ^ P-1)-t
def lexI:List Nat→List Nat→Int
 | [],[]=>0
 | [],_::_=>-1
 | _::_,[]=>1
 | x::xs,y::ys=>if x<y then -1 else if y<x then 1 else lexI xs ys
def cmpW(P:Nat)(x y:Wl):Int:=
 if cnt (fls P x.1)≠cnt (fls P y.1)then(cnt (fls P x.1):Int)-cnt (fls P y.1)
 else if lexI (lst (fls P x.1)) (lst (fls P y.1))≠0 then lexI (lst (fls P x.1)) (lst (fls P y.1))
 else lexI (lst x.2) (lst y.2)
def ltW(P:Nat)(x y:Wl):Bool:=decide (cmpW P x y<0)
def insW(P:Nat)(x:Wl):List Wl→List Wl
 | []=>[x]
 | y::r=>if ltW P x y then x::y::r else y::insW P x r
def sortW(P:Nat):List Wl→List Wl
 | []=>[]
 | x::r=>insW P x (sortW P r)
def A2a(P F:Nat):List Wl:=(List.range (2 ^ P)).flatMap fun t=>(List.range (2 ^ F)).map fun s=>(t,s)
def can(P:Nat)(ws:List Wd)(w:Wl):Bool:=B1s P ws w==w.1
def A0g(P F:Nat)(ws:List Wd):List Wl:=sortW P ((A2a P F).filter (can P ws))
theorem B3j:∀x,lexI x x=0
 | []=>rfl
 | x::xs=>by simp [lexI,B3j xs]
theorem B3l:∀x y,lexI y x = - lexI x y
 | [],[]=>rfl
 | [],_::_=>rfl
 | _::_,[]=>rfl
 | x::xs,y::ys=>by
  simp only [lexI]
  by_cases h:x<y
  ·simp only [if_pos h,if_neg (show ¬y<x by omega)];decide
  ·by_cases h2:y<x
   ·simp only [if_neg h,if_pos h2]
   ·simp only [if_neg h,if_neg h2,B3l xs ys]
theorem B1k:∀x y z,lexI x y≤0→lexI y z≤0→lexI x z≤0∧(lexI x y<0∨lexI y z<0→lexI x z<0)
  | [], [], z, _, h => ⟨h, fun h' => by rcases h' with h'|h';· cases h'
                                        · exact h'⟩
  | [],y::ys,[],_,h=>by simp [lexI]at h
  | [],y::ys,z::zs,_,_=>by simp [lexI]
  | x::xs,[],z,h,_=>by simp [lexI]at h
  | x::xs,y::ys,[],_,h=>by simp [lexI]at h
  | x::xs,y::ys,z::zs,h1,h2=>by
    have ih:=B1k xs ys zs
    simp only [lexI]at h1 h2⊢
    by_cases a1:x<y
    · by_cases b1:y<z
      · rw [if_pos (show x<z by omega)];exact⟨by decide,fun _=>by decide⟩
      · by_cases b2:z<y
        · rw [if_neg b1,if_pos b2]at h2;exact absurd h2 dM
        · rw [if_pos (show x<z by omega)];exact⟨by decide,fun _=>by decide⟩
    · by_cases a2:y<x
      · rw [if_neg a1,if_pos a2]at h1;exact absurd h1 dM
      · have hxy:x=y:=oM
        subst hxy
        rw [if_neg a1,if_neg a2]at h1⊢
        by_cases b1:x<z
        · rw [if_pos b1];exact⟨by decide,fun _=>by decide⟩
        · by_cases b2:z<x
          · rw [if_neg b1,if_pos b2]at h2;exact absurd h2 dM
          · simp only [if_neg b1,if_neg b2]at h2⊢
            exact ih h1 h2
theorem B3k:∀x y,lexI x y=0→x=y
  | [],[],_=>rfl
  | [],_::_,h=>by simp [lexI]at h
  | _::_,[],h=>by simp [lexI]at h
  | x::xs,y::ys,h=>by
    simp only [lexI]at h
    by_cases a1:x<y
    · rw [if_pos a1]at h;cases h
    · by_cases a2:y<x
      · rw [if_neg a1,if_pos a2]at h;cases h
      · rw [if_neg a1,if_neg a2]at h
        rw [B3k xs ys h,show x=y by omega]
theorem A8b(P:Nat)(x y:Wl):cmpW P y x = - cmpW P x y:=by
 unfold cmpW
 rw [B3l (lst (fls P x.1)),B3l (lst x.2)]
 by_cases h:cnt (fls P x.1)=cnt (fls P y.1)
 ·simp only [h,ne_eq,not_true_eq_false,if_false]
  by_cases h2:lexI (lst (fls P x.1)) (lst (fls P y.1))=0
  ·simp [h2]
  ·rw [if_pos oM,if_pos h2]
 ·rw [if_pos (Ne.symm h),if_pos h];omega
theorem cmpW_trans(P:Nat)(x y z:Wl)(h1:cmpW P x y≤0)(h2:cmpW P y z≤0):cmpW P x z≤0∧(cmpW P x y<0∨cmpW P y z<0→cmpW P x z<0):=by
  have t1:=B1k (lst (fls P x.1)) (lst (fls P y.1)) (lst (fls P z.1))
  have t2:=B1k (lst x.2) (lst y.2) (lst z.2)
  have e1:=B3k (lst (fls P x.1)) (lst (fls P y.1))
  have e2:=B3k (lst (fls P y.1)) (lst (fls P z.1))
  have e3:=B3j (lst (fls P x.1))
  unfold cmpW at h1 h2⊢
  generalize cnt (fls P x.1)=a at *
  generalize cnt (fls P y.1)=b at *
  generalize cnt (fls P z.1)=c at *
  generalize lexI (lst (fls P x.1)) (lst (fls P y.1))=p at *
  generalize lexI (lst (fls P y.1)) (lst (fls P z.1))=q at *
  generalize lexI (lst x.2) (lst y.2)=p2 at *
  generalize lexI (lst y.2) (lst z.2)=q2 at *
  generalize lexI (lst x.2) (lst z.2)=r2 at *
  by_cases h3:a=b
  · by_cases h4:b=c
    · subst h3 h4
      simp only [ne_eq,not_true_eq_false,if_false]at h1 h2⊢
      by_cases h5:p=0
      · by_cases h6:q=0
        · have hr:lexI (lst (fls P x.1)) (lst (fls P z.1))=0:=by rw [e1 h5,e2 h6,B3j]
          simp only [h5,h6,hr,not_true_eq_false,if_false]at h1 h2⊢
          exact t2 h1 h2
        · simp only [h5,h6,not_true_eq_false,not_false_eq_true,if_false,if_true]at h1 h2⊢
          have:=(t1 oM h2).2 (.inr oM)
          rw [if_pos oM]
          exact⟨oM,fun _=>this⟩
      · simp only [h5,not_false_eq_true,if_true]at h1⊢
        have hq:q≤0:=by
          by_cases h6:q=0
          · omega
          · simpa only [h6,not_false_eq_true,if_true]using h2
        have:=(t1 oM hq).2 (.inl oM)
        rw [if_pos oM]
        exact⟨oM,fun _=>this⟩
    · rw [if_pos h4]at h2⊢
      subst h3
      rw [if_pos h4]
      exact⟨oM,fun _=>by omega⟩
  · rw [if_pos h3]at h1⊢
    by_cases h4:b=c
    · subst h4
      rw [if_pos h3]
      exact⟨oM,fun _=>by omega⟩
    · rw [if_pos h4]at h2⊢
      rw [if_pos oM]
      exact⟨oM,fun _=>by omega⟩
theorem B1j(P:Nat)(x:Wl):ltW P x x=false:=by
 have:=A8b P x x
 unfold ltW
 rw [decide_eq_false];omega
theorem B3f(P:Nat)(x y z:Wl)(h1:ltW P x y=true)(h2:ltW P y z=true):ltW P x z=true:=by
 unfold ltW at *
 rw [decide_eq_true_eq]at *
 exact(cmpW_trans P x y z oM oM).2 (.inl h1)
theorem ltW_ntrans(P:Nat)(x y z:Wl)(h1:ltW P x y=false)(h2:ltW P y z=false):ltW P x z=false:=by
 unfold ltW at *
 rw [decide_eq_false_iff_not]at *
 have a1:=A8b P x y
 have a2:=A8b P y z
 have a3:=A8b P x z
 have:=(cmpW_trans P z y x oM oM).1
 omega
theorem cmpW_eq{P:Nat}{x y:Wl}(hP:P≤8)(hx:x.1<2 ^ P∧x.2<2^8)(hy:y.1<2 ^ P∧y.2<2^8)(h:cmpW P x y=0)(hb:∀g h,g<256→h<256→lst g=lst h→g=h):x=y:=by
 have hp:2 ^ P≤2^8:=Nat.pow_le_pow_right dM hP
 unfold cmpW at h
 by_cases h1:cnt (fls P x.1)=cnt (fls P y.1)
 ·rw [if_neg (by simpa using h1)]at h
  by_cases h2:lexI (lst (fls P x.1)) (lst (fls P y.1))=0
  ·rw [if_neg (by simpa using h2)]at h
   have e1:=hb _ _ (by unfold fls;omega) (by unfold fls;omega) (B3k _ _ h2)
   have e2:=hb _ _ oM oM (B3k _ _ h)
   unfold fls at e1
   exact Prod.ext oM e2
  ·rw [if_pos h2]at h;exact absurd h h2
 ·rw [if_pos h1]at h;omega
theorem lst_inj:∀g h,g<256→h<256→lst g=lst h→g=h:=by
 have key:∀g,g<256→((lst g).map (2 ^ ·)).sum=g:=by
  have:(List.range 256).all (fun g=>((lst g).map (2 ^ ·)).sum==g)=true:=by decide +kernel
  intro g hg
  have:=List.all_eq_true.1 this g (List.mem_range.2 hg)
  simpa using this
 intro g h hg hh e
 rw [←key g hg,←key h hh,e]
theorem insW_mem{P:Nat}{x y:Wl}:∀{l:List Wl},y∈insW P x l↔y=x∨y∈l
 | []=>by simp [insW]
 | z::r=>by
  unfold insW
  split
  ·simp
  ·simp only [List.mem_cons,insW_mem (l:=r)]
   constructor
   ·rintro(h|h|h)<;>simp [h]
   ·rintro(h|h|h)<;>simp [h]
theorem sortW_mem{P:Nat}{y:Wl}:∀{l:List Wl},y∈sortW P l↔y∈l
 | []=>by simp [sortW]
 | x::r=>by simp [sortW,insW_mem,sortW_mem (l:=r)]
def Asc(P:Nat)(l:List Wl):Prop:=l.Pairwise (fun x y=>ltW P x y=true)
theorem insW_asc{P:Nat}{x:Wl}:∀{l:List Wl},Asc P l→(∀y∈l,ltW P x y=true∨ltW P y x=true)→Asc P (insW P x l)
 | [],_,_=>by simp [insW,Asc]
 | z::r,h,hx=>by
  unfold insW
  have h':=List.pairwise_cons.1 h
  split
  ·rename_i hlt
   refine List.pairwise_cons.2 ⟨fun y hy=>?_,h⟩
   rcases List.mem_cons.1 hy with rfl|hy
   ·exact hlt
   ·exact B3f P x z y hlt (h'.1 y hy)
  ·rename_i hlt
   refine List.pairwise_cons.2 ⟨fun y hy=>?_,insW_asc h'.2 fun y hy=>hx y (List.mem_cons_of_mem _ hy)⟩
   rcases insW_mem.1 hy with rfl|hy
   ·exact(hx z (List.mem_cons_self ..)).resolve_left (by simpa using hlt)
   ·exact h'.1 y hy
theorem sortW_asc{P:Nat}:∀{l:List Wl},l.Pairwise (fun x y=>ltW P x y=true∨ltW P y x=true)→Asc P (sortW P l)
 | [],_=>by simp [sortW,Asc]
 | x::r,h=>by
  have h':=List.pairwise_cons.1 h
  exact insW_asc (sortW_asc h'.2) fun y hy=>h'.1 y (sortW_mem.1 hy)
theorem asc_ext{P:Nat}:∀{l m:List Wl},Asc P l→Asc P m→(∀x,x∈l↔x∈m)→l=m
 | [],[],_,_,_=>rfl
 | [],y::m,_,_,h=>absurd ((h y).2 (List.mem_cons_self ..)) List.not_mem_nil
 | x::l,[],_,_,h=>absurd ((h x).1 (List.mem_cons_self ..)) List.not_mem_nil
 | x::l,y::m,hl,hm,h=>by
  have hl':=List.pairwise_cons.1 hl
  have hm':=List.pairwise_cons.1 hm
  have hxy:x=y:=by
   rcases List.mem_cons.1 ((h x).1 (List.mem_cons_self ..))with e|e
   ·exact e
   ·rcases List.mem_cons.1 ((h y).2 (List.mem_cons_self ..))with e'|e'
    ·exact e'.symm
    ·have:=B3f P x y x (hl'.1 y e') (hm'.1 x e)
     rw [B1j]at this;cases this
  subst hxy
  have hnx:∀{k:List Wl},(∀y∈k,ltW P x y=true)→x∉k:=fun hk hx=>by have:=hk x hx;rw [B1j]at this;cases this
  rw [asc_ext hl'.2 hm'.2 fun z=>?_]
  have:=h z
  simp only [List.mem_cons]at this
  constructor
  ·intro hz
   rcases this.1 (.inr hz)with rfl|e
   ·exact absurd hz (hnx hl'.1)
   ·exact e
  ·intro hz
   rcases this.2 (.inr hz)with rfl|e
   ·exact absurd hz (hnx hm'.1)
   ·exact e
theorem B1i{P F:Nat}{w:Wl}:w∈A2a P F↔w.1<2 ^ P∧w.2<2 ^ F:=by
 obtain⟨t,s⟩:=w
 simp [A2a]
theorem A4z(P F:Nat):(A2a P F).Nodup:=by
 unfold A2a
 have key:∀l:List Nat,l.Nodup→(l.flatMap fun t=>(List.range (2 ^ F)).map fun s=>(t,s)).Nodup:=by
  intro l
  induction l with
  | nil=>simp
  | cons a l ih=>
   intro h
   rw [List.nodup_cons]at h
   rw [List.flatMap_cons,List.nodup_append]
   refine⟨?_,ih h.2,?_⟩
   ·unfold List.Nodup
    rw [List.pairwise_map]
    exact List.nodup_range.imp fun hab e=>hab (by simpa using e)
   ·intro x hx y hy e
    subst e
    simp only [List.mem_map,List.mem_flatMap]at hx hy
    obtain⟨s,_,rfl⟩:=hx
    obtain⟨t,ht,s',_,h'⟩:=hy
    simp at h'
    exact h.1 (h'.1 ▸ ht)
 exact key _ List.nodup_range
theorem tot{P F:Nat}(hP:P≤8)(hF:F≤8){x y:Wl}(hx:x∈A2a P F)(hy:y∈A2a P F)(hne:x≠y):ltW P x y=true∨ltW P y x=true:=by
 rw [B1i]at hx hy
 have hp:2 ^ F≤2^8:=Nat.pow_le_pow_right dM hF
 have h:=A8b P x y
 unfold ltW
 simp only [decide_eq_true_eq]
 have:cmpW P x y≠0:=fun e=>hne (cmpW_eq hP ⟨hx.1,oM⟩ ⟨hy.1,oM⟩ e lst_inj)
 omega
theorem worldsL_mem{P F:Nat}{ws:List Wd}{w:Wl}:w∈A0g P F ws↔(w.1<2 ^ P∧w.2<2 ^ F)∧B1s P ws w=w.1:=by
 unfold A0g
 rw [sortW_mem,List.mem_filter,B1i]
 simp [can]
theorem worldsL_asc{P F:Nat}(hP:P≤8)(hF:F≤8)(ws:List Wd):Asc P (A0g P F ws):=by
 refine sortW_asc ?_
 have h:=(A4z P F).filter (can P ws)
 refine List.Pairwise.imp_of_mem (fun {x y} hx hy hne=>tot hP hF (List.mem_filter.1 hx).1 (List.mem_filter.1 hy).1 hne) h
theorem worldsL_eq{P F:Nat}(hP:P≤8)(hF:F≤8){ws:List Wd}{l:List Wl}(h1:Asc P l)(h2:∀w,w∈l↔w∈A2a P F∧can P ws w=true):l=A0g P F ws:=
 asc_ext h1 (worldsL_asc hP hF ws) fun w=>by rw [h2,worldsL_mem,B1i];simp [can]
end Go.Pal.Vo
end
