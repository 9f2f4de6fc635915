/- 'palfreylaw06.VouchProof' returns true for every list of numbers, whatever the goroutines of its calls do, and the list reads as it did, as its row says it. No condition. -/
import Derived.JoinedOf
import Derived.Test.YtiolobmgibdfmaaGreatPbc
import Derived.Test.YtiolobmgibdfmaaGreatPbd
import Derived.Test.YtiolobmgibdfmaaGreatRaspra
import Derived.Test.YtiolobmgibdfmaaGreatRsipra
set_option linter.all false
section
namespace Go.Proofs.YtiolobmgibdfmaaGreat
open Go Go.Pal Go.Pal.Vo Go.Conc View
open Go.Proofs.Tryz
set_option maxHeartbeats 4000000
set_option maxRecDepth 20000
def sameT(ps:List Nat)(w w':Wl):Bool:=ps.all fun x=>bit w.1 x==bit w'.1 x
def okP(ps:List Nat)(f:Nat)(w w':Wl):Bool:=!(sameT ps w w'&&(bit w.2 f != bit w'.2 f))
def A1a(W:List Wl)(ps:List Nat)(f:Nat):Bool:=W.all fun w=>W.all fun w'=>okP ps f w w'
theorem okP_symm{ps:List Nat}{f:Nat}{w w':Wl}:okP ps f w w'=okP ps f w' w:=by
 unfold okP sameT
 congr 2
 ·refine List.all_congr rfl fun x=>?_
  cases bit w.1 x<;>cases bit w'.1 x<;>rfl
 ·cases bit w.2 f<;>cases bit w'.2 f<;>rfl
theorem okP_self{ps:List Nat}{f:Nat}{w:Wl}:okP ps f w w=true:=by
 unfold okP
 cases bit w.2 f<;>simp
theorem settled_all{W:List Wl}{ps:List Nat}{f:Nat}(h:∀i (hi:i<W.length) k (hk:k<i),okP ps f W[i] (W[k]'(Nat.lt_trans hk hi))=true):A1a W ps f=true:=by
 refine List.all_eq_true.2 fun w hw=>List.all_eq_true.2 fun w' hw'=>?_
 obtain⟨i,hi,rfl⟩:=List.getElem_of_mem hw
 obtain⟨k,hk,rfl⟩:=List.getElem_of_mem hw'
 rcases Nat.lt_trichotomy k i with h1|rfl|h1
 ·exact h i hi k h1
 ·exact okP_self
 ·rw [okP_symm];exact h k hk i h1
theorem settled_not{W:List Wl}{ps:List Nat}{f i k:Nat}(hi:i<W.length)(hk:k<W.length)(h:okP ps f W[i] W[k]=false):A1a W ps f=false:=by
 cases hs:A1a W ps f with
 | false=>rfl
 | true=>
  have:=List.all_eq_true.1 (List.all_eq_true.1 hs _ (List.getElem_mem hi)) _ (List.getElem_mem hk)
  rw [h]at this;cases this
section
variable{mn:Who}{v:View}
theorem settled_x{W:List Wl}{cs_:List Value}{ps:List Nat}{aw ap:Option Addr}{cw cp f:Nat}(hrow:RowAt v aw cs_)(hW:WRows v cs_ W)(hWl:W.length≤128)(hps:RowAt v ap (ps.map natV))(hpl:ps.length≤8)(hp8:∀x∈ps,x<8)(hf:f<8) :
  Ret1 prog mn 50 [.slice aw W.length cw,.slice ap ps.length cp,.int .i64 f] (.bool (A1a W ps f)) v:=by
 refine A0f tab func50 rfl nB (args:=[_,_,_]) ?_
 repeat refine st ?_
 refine A1o (α:=Nat) (fun i=>⟨[],[(7,.int .i64 i),(0,.slice aw W.length cw),(1,.slice ap ps.length cp),(2,.int .i64 f)],[]⟩)
  (fun i u=>v=u∧i≤W.length∧∀i' (hi:i'<W.length) k (hk:k<i'),i'<i→okP ps f W[i'] (W[k]'(Nat.lt_trans hk hi))=true) (fun i=>W.length-i) 0 ⟨rfl,rg,cntL⟩ (Le.refl _) ⟨rfl,Nat.zero_le _,fun i' _ k _ h=>absurd h (Nat.not_lt_zero _)⟩ ?_
 rintro i u ⟨rfl,hi,hJ⟩
 repeat refine st ?_
 refine A0t rfl (fun h=>?_) (fun h=>?_)
 ·have hil:i<W.length:=by have:=of_decide_eq_true h;omega
  clear h
  obtain⟨bb,off,q,c,e,fr,rfl,hv,hc⟩:=WRows.at hrow hW hil
  obtain⟨x1,d1,x2,d2,m1,m2,m3,m4⟩:=hc i hil
  repeat refine st ?_
  refine A1o (α:=Nat) (fun k=>⟨[],[(8,.int .i64 k),(7,.int .i64 i),(0,.slice (some ⟨bb,off,none⟩) W.length cw),(1,.slice ap ps.length cp),(2,.int .i64 f)],[]⟩)
   (fun k u=>v=u∧k≤i∧∀k' (hk:k'<i),k'<k→okP ps f W[i] (W[k']'(Nat.lt_trans hk hil))=true) (fun k=>i-k) 0 ⟨rfl,rg,cntL⟩ (Le.refl _) ⟨rfl,Nat.zero_le _,fun k' _ h=>absurd h (Nat.not_lt_zero _)⟩ ?_
  rintro k u ⟨rfl,hk,hK⟩
  repeat refine st ?_
  refine A0t rfl (fun h=>?_) (fun h=>?_)
  ·have hki:k<i:=by have:=of_decide_eq_true h;omega
   clear h
   have hkl:k<W.length:=oM
   obtain⟨y1,g1,y2,g2,n1,n2,n3,n4⟩:=hc k hkl
   have hKs:okP ps f W[i] W[k]=true→∀k' (hk:k'<i),k'<k+1→okP ps f W[i] (W[k']'(Nat.lt_trans hk hil))=true:=fun h k' hk' hlt=>by
    rcases Nat.lt_succ_iff_lt_or_eq.1 hlt with hlt|rfl
    ·exact hK k' hk' hlt
    ·exact h
   have hbad:=settled_not (ps:=ps) (f:=f) hil hkl
   generalize W[i]=wi at m1 m2 m3 m4 hKs hbad
   generalize W[k]=wk at n1 n2 n3 n4 hKs hbad
   repeat refine st ?_
   refine A1o (α:=Nat) (fun x=>⟨[],[(10,.int .i64 x),(9,.bool (sameT (ps.take x) wi wk)),(8,.int .i64 k),(7,.int .i64 i),(0,.slice (some ⟨bb,off,none⟩) W.length cw),(1,.slice ap ps.length cp),(2,.int .i64 f)],[]⟩)
    (fun x u=>v=u∧x≤ps.length) (fun x=>ps.length-x) 0 ⟨rfl,rg,cntL⟩ (Le.refl _) ⟨rfl,Nat.zero_le _⟩ ?_
   rintro x u ⟨rfl,hx⟩
   repeat refine st ?_
   refine A0t rfl (fun h=>?_) (fun h=>?_)
   ·have hxl:x<ps.length:=by have:=of_decide_eq_true h;omega
    clear h
    obtain⟨bp,op,qp,cp_,ep,fp,rfl,hvp,hcp⟩:=hps.get hxl
    have hpx:=hcp x hxl
    have hx8:=hp8 _ (List.getElem_mem hxl)
    have htk:sameT (ps.take (x+1)) wi wk=(sameT (ps.take x) wi wk&&(bit wi.1 ps[x]==bit wk.1 ps[x])):=by
     unfold sameT
     rw [List.take_succ_eq_append_getElem hxl,List.all_append,List.all_cons,List.all_nil,Bool.and_true]
    generalize ps[x]=d at hpx hx8 htk
    repeat refine st ?_
    refine lexL A1w rfl kR ?_
    cases hs:sameT (ps.take x) wi wk with
    | true=>
     rw [hs,Bool.true_and]at htk
     repeat refine st ?_
     refine A2i tab i rfl rfl rfl rfl rfl rfl rfl hil ?_
     repeat refine st ?_
     refine A9d tab rfl rfl rfl hv (A1b tab rfl rfl rfl m1) ?_
     repeat refine st ?_
     refine A2i tab x rfl rfl rfl rfl rfl rfl rfl hxl ?_
     refine A9d tab rfl rfl rfl hvp (A1b tab rfl rfl rfl (by rw [Nat.mul_one];exact hpx)) ?_
     refine A3r bod49 rfl rfl rfl rfl rfl (has_b m3 hx8) ?_
     repeat refine st ?_
     refine A2i tab k rfl rfl rfl rfl rfl rfl rfl hkl ?_
     repeat refine st ?_
     refine A9d tab rfl rfl rfl hv (A1b tab rfl rfl rfl n1) ?_
     repeat refine st ?_
     refine A2i tab x rfl rfl rfl rfl rfl rfl rfl hxl ?_
     refine A9d tab rfl rfl rfl hvp (A1b tab rfl rfl rfl (by rw [Nat.mul_one];exact hpx)) ?_
     refine A3r bod49 rfl rfl rfl rfl rfl (has_b n3 hx8) ?_
     repeat refine st ?_
     refine A0c ⟨x+1,v,oM,⟨rfl,?_,cntL⟩,Le.refl _,rfl,hxl⟩
     rw [htk]
     exact rg
    | false=>
     rw [hs,Bool.false_and]at htk
     repeat refine st ?_
     refine A0c ⟨x+1,v,oM,⟨rfl,?_,cntL⟩,Le.refl _,rfl,hxl⟩
     rw [htk]
     exact rg
   ·have hxl:x=ps.length:=by have:=of_decide_eq_false h;omega
    clear h
    subst hxl
    rw [List.take_length]
    repeat refine st ?_
    refine lexL A1w rfl kR ?_
    cases hs:sameT ps wi wk with
    | true=>
     repeat refine st ?_
     refine A2i tab i rfl rfl rfl rfl rfl rfl rfl hil ?_
     repeat refine st ?_
     refine A9d tab rfl rfl rfl hv (A1b tab rfl rfl rfl m2) ?_
     repeat refine st ?_
     refine A3r bod49 rfl rfl rfl rfl rfl (has_b m4 hf) ?_
     repeat refine st ?_
     refine A2i tab k rfl rfl rfl rfl rfl rfl rfl hkl ?_
     repeat refine st ?_
     refine A9d tab rfl rfl rfl hv (A1b tab rfl rfl rfl n2) ?_
     repeat refine st ?_
     refine A3r bod49 rfl rfl rfl rfl rfl (has_b n4 hf) ?_
     repeat refine st ?_
     refine A0t rfl (fun h=>?_) (fun h=>?_)
     ·have hne:(bit wi.2 f != bit wk.2 f)=true:=h
      clear h
      repeat refine st ?_
      refine A0l tab [] (by exact .tmp rfl .nil) (Back.here cntL) ?_
      rw [hbad (by unfold okP;rw [hs,hne];rfl)];exact⟨rfl,rfl⟩
     ·have hne:(bit wi.2 f != bit wk.2 f)=false:=h
      clear h
      repeat refine st ?_
      exact A0c ⟨k+1,v,oM,⟨rfl,rg,cntL⟩,Le.refl _,rfl,hki,hKs (by unfold okP;rw [hs,hne];rfl)⟩
    | false=>
     repeat refine st ?_
     exact A0c ⟨k+1,v,oM,⟨rfl,rg,cntL⟩,Le.refl _,rfl,hki,hKs (by unfold okP;rw [hs];rfl)⟩
  ·have hki:k=i:=by have:=of_decide_eq_false h;omega
   clear h
   subst hki
   repeat refine st ?_
   refine A0c ⟨k+1,v,oM,⟨rfl,rg,cntL⟩,Le.refl _,rfl,hil,fun i' hi' k' hk' hlt=>?_⟩
   rcases Nat.lt_succ_iff_lt_or_eq.1 hlt with hlt|rfl
   ·exact hJ i' hi' k' hk' hlt
   ·exact hK k' hk' hk'
 ·have hil:i=W.length:=by have:=of_decide_eq_false h;omega
  clear h
  subst hil
  repeat refine st ?_
  refine A0l tab [] (by exact .tmp rfl .nil) (Back.here cntL) ?_
  rw [settled_all fun i hi k hk=>hJ i hi k hk hi];exact⟨rfl,rfl⟩
end
theorem and_tab:(List.range 5).all (fun P=>(A2e P).all fun ps=>(List.range (2 ^ P)).all fun a=>(List.range (2 ^ P)).all fun b=>(ps.all fun x=>bit a x==bit b x)==(a &&& orG ps==b &&& orG ps))=true:=by decide +kernel
theorem same_and{P a b:Nat}{ps:List Nat}(hP:P≤4)(hps:ps∈A2e P)(ha:a<2 ^ P)(hb:b<2 ^ P):(ps.all fun x=>bit a x==bit b x)=(a &&& orG ps==b &&& orG ps):=
 eq_of_beq (List.all_eq_true.1 (List.all_eq_true.1 (List.all_eq_true.1 (List.all_eq_true.1 and_tab P (List.mem_range.2 oM)) ps hps) a (List.mem_range.2 ha)) b (List.mem_range.2 hb))
theorem A7o{P F:Nat}{ws:List Wd}{W:List Wl}{ps:List Nat}{f:Nat}(hP:P≤4)(hW:W.Perm (A0g P F ws))(hps:ps∈A2e P):A1a W ps f=A9j (A0g P F ws) (orG ps) f:=by
 rw [Bool.eq_iff_iff]
 unfold A1a A9j
 simp only [List.all_eq_true]
 have key:∀w∈A0g P F ws,∀w'∈A0g P F ws,okP ps f w w'=((w.1 &&& orG ps != w'.1 &&& orG ps)||(bit w.2 f==bit w'.2 f)):=fun w hw w' hw'=>by
  unfold okP sameT
  rw [same_and hP hps (worldsL_mem.1 hw).1.1 (worldsL_mem.1 hw').1.1]
  cases h1:(w.1 &&& orG ps==w'.1 &&& orG ps)<;>cases bit w.2 f<;>cases bit w'.2 f<;>simp_all [bne]
 constructor
 ·intro h w hw w' hw'
  rw [←key w hw w' hw']
  exact h w (hW.mem_iff.2 hw) w' (hW.mem_iff.2 hw')
 ·intro h w hw w' hw'
  rw [key w (hW.mem_iff.1 hw) w' (hW.mem_iff.1 hw')]
  exact h w (hW.mem_iff.1 hw) w' (hW.mem_iff.1 hw')
section
variable{P F f:Nat}{ws:List Wd}{W:List Wl}
theorem errPr_ok(h:VOk P F ws)(hf:f<F):B4r P F ws f=lackE (A0g P F ws) (B4t P (A0g P F ws) f):=by
 unfold B4r
 rw [h.check,if_pos rfl,if_pos oM]
 simp only [Int.toNat_natCast]
theorem proof_none(h:VOk P F ws)(hf:f<F)(hW:W.Perm (A0g P F ws))(hn:W.length=0∨∀j (hj:j<(A2e P).length),A1a W (A2e P)[j] f=false):B4r P F ws f=11∧B4n P F ws f=[]:=by
 have h4:=h.p4
 have e:B4r P F ws f=11:=by
  rw [errPr_ok h hf]
  rcases hn with hn|hn
  ·have:A0g P F ws=[]:=List.length_eq_zero_iff.1 (by rw [←hW.length_eq];exact hn)
   rw [this];rfl
  ·have:B4t P (A0g P F ws) f=none:=List.find?_eq_none.2 fun x hx=>by
    obtain⟨j,hj,rfl⟩:=List.getElem_of_mem hx
    rw [←A7o h4 hW hx,hn j hj]
    decide
   rw [this]
   unfold lackE
   split<;>rfl
 exact⟨e,by unfold B4n;rw [e];rfl⟩
theorem proof_some{i:Nat}(h:VOk P F ws)(hf:f<F)(hW:W.Perm (A0g P F ws))(hn:0<W.length)(hi:i<(A2e P).length)(hj:∀j (hj:j<(A2e P).length),j<i→A1a W (A2e P)[j] f=false)(hs:A1a W (A2e P)[i] f=true) :
  B4r P F ws f=0∧B4n P F ws f=(A2e P)[i]:=by
 have h4:=h.p4
 have hp:B4t P (A0g P F ws) f=some (A2e P)[i]:=B4q hi (fun j hj' hlt=>by
  rw [←A7o h4 hW (List.getElem_mem hj')];exact hj j hj' hlt) (by rw [←A7o h4 hW (List.getElem_mem hi)];exact hs)
 have hne:A0g P F ws≠[]:=List.length_pos_iff.1 (by rw [←hW.length_eq];exact hn)
 have e:B4r P F ws f=0:=by rw [errPr_ok h hf,lackE_ne hne,hp]
 refine⟨e,?_⟩
 unfold B4n
 rw [e,if_pos rfl]
 simp only [Int.toNat_natCast]
 rw [hp];rfl
end
theorem proof_run{v:View}{a0:Option Addr}{cap0:Nat}{ns:List Int}(hns:RowAt v a0 (ns.map (.int .i64))):Run prog ⟨true,true⟩ (AtTop 10 2) v (G (Frame.enter prog 10 (List.toArray [.slice a0 ns.length cap0]) .normal) []):=by
 refine top_run func10 rfl nB ?_
 repeat refine st ?_
 refine Q_op fun ho=>A0i [] _ ho bod23 rfl rfl rfl rfl rfl A1n (newBag_x) (fun x β' hR=>?_)
 clear ho
 obtain⟨b,rfl,hB⟩:=hR
 rename A0j=>β1
 repeat refine st ?_
 refine A2f (bin:=β1) (by repeat (first|(with_reducible exact A0k)|(with_reducible exact A0u)|(with_reducible exact A1e)|(with_reducible apply A0y))) ?_
 refine Q_op fun ho=>A0i β1 _ ho bod40 rfl rfl rfl rfl rfl A0k (B1e (g:=⟨b,a0,cap0,ns⟩) (P0:=4) (F0:=2) (wl:=6) (RowAt.le hns (A0b _ _)) hB dM ⟨by decide,by decide⟩ dM dM) (fun x β' hR=>?_)
 clear ho
 obtain⟨P,F,ws,tr,so,a,a1,a2,cap,c1,c2,β0,βw,βt,βs,hS⟩:=hR
 obtain rfl:=hS.val
 obtain rfl:=hS.box
 refine A0w (β1:=(β0++βw)++(βt++βs)) (β2:=_) (fun _=>rfl) (fun hb=>?_)
 have hws:WdsAt (v.union (A0e ((β0++βw)++(βt++βs)))) a ws:=RowAt.own hb (show Subm βw ((β0++βw)++(βt++βs))from cntL) hS.hw
 generalize v.union (A0e ((β0++βw)++(βt++βs)))=u at hws⊢
 have hok:VOk P F ws:=⟨hS.p1,hS.p4,Nat.le_trans hS.f3 dM,Nat.le_trans hS.w7 dM,hS.all⟩
 have hcap:=own_cap hS.hw
 clear hb hS hB
 have h4:=hok.p4
 have h8:=hok.w8
 repeat (first|refine st ?_|refine qb fun bx=>?_)
 rename_i b3
 refine A0w (β1:=[(bx,#[.slice a1 tr.length c1,.slice a2 so.length c2],38),(b3,#[.int .i64 P,.int .i64 F,.slice a ws.length cap],24)]) (β2:=[]) (show ∀p,Pal.cnt p ((bx,#[.slice a1 tr.length c1,.slice a2 so.length c2],38)::[(b3,#[.int .i64 P,.int .i64 F,.slice a ws.length cap],24)])=Pal.cnt p ([(bx,#[.slice a1 tr.length c1,.slice a2 so.length c2],38),(b3,#[.int .i64 P,.int .i64 F,.slice a ws.length cap],24)]++[])from cntA) (fun hb=>?_)
 have hv3:=A9c hb (b:=b3) ib
 replace hws:=hws.le (A0b u (A0e [(bx,#[.slice a1 tr.length c1,.slice a2 so.length c2],38),(b3,#[.int .i64 P,.int .i64 F,.slice a ws.length cap],24)]))
 generalize u.union (A0e [(bx,#[.slice a1 tr.length c1,.slice a2 so.length c2],38),(b3,#[.int .i64 P,.int .i64 F,.slice a ws.length cap],24)])=u1 at hws hv3⊢
 clear hb
 refine Q_op fun ho=>A0i [] _ ho bod48 rfl rfl rfl rfl rfl A1n (B4u hok (hws.le (A0b _ _))) (fun x β' hR=>?_)
 clear ho
 obtain⟨aw,nw,cw,rfl,hO⟩:=hR
 refine A0w (β1:=β') (β2:=[]) (fun _=>rfl) (fun hb=>?_)
 obtain⟨rfl,rs,hrow,hW⟩:=hO.row hb
 replace hws:=hws.le (A0b u1 (A0e β'))
 replace hv3:=A0b u1 (A0e β') _ _ hv3
 generalize u1.union (A0e β')=u2 at hws hv3 hrow hW⊢
 clear hb hO
 have hperm:=wlT_perm h4 hok.f3 ws
 have hWl:(wlT P F ws).length≤128:=by
  refine Nat.le_trans (List.length_filter_le _ _) ?_
  rw [List.length_map,B4o]
  exact Nat.pow_le_pow_right (n:=2) dM (show P+F≤7 by have:=hok.f3;omega)
 generalize wlT P F ws=W at hrow hW hperm hWl⊢
 repeat refine st ?_
 refine A2p tab rfl rfl rfl hv3 (A1b tab rfl rfl rfl rfl) ?_
 repeat refine st ?_
 refine Q_op fun ho=>A0i [] _ ho bod46 rfl rfl rfl rfl rfl A1n (sets_x oM) (fun x β' hR=>?_)
 clear ho
 refine A0w (β1:=β') (β2:=[]) (fun _=>rfl) (fun hb=>?_)
 obtain⟨al,cl,rows,rfl,hrl,hrs⟩:=hR.read hb (fun _=>Nat.le_refl _)
 replace hws:=hws.le (A0b u2 (A0e β'))
 replace hv3:=A0b u2 (A0e β') _ _ hv3
 replace hrow:=RowAt.le hrow (A0b u2 (A0e β'))
 replace hW:=hW.le (A0b u2 (A0e β'))
 generalize u2.union (A0e β')=u3 at hws hv3 hrow hW hrl hrs⊢
 clear hb hR
 have hlen:=B3h (n:=P) oM
 have hf3:=hok.f3
 repeat refine st ?_
 refine A1o (α:=Nat) (fun f=>⟨[],[(8,.int .i64 f),(7,.slice al (A2e P).length cl),(5,.slice aw W.length cw),(3,.pointer (some ⟨b3,0,none⟩))],[]⟩)
  (fun f w=>u3.Le w∧f≤F) (fun f=>F-f) 0 ⟨rfl,rg,cntL⟩ (Le.refl _) ⟨Le.refl _,Nat.zero_le _⟩ ?_
 rintro f w ⟨hle,hf⟩
 have hv3w:=hle _ _ hv3
 repeat refine st ?_
 refine A2p tab rfl rfl rfl hv3w (A1b tab rfl rfl rfl rfl) ?_
 repeat refine st ?_
 refine A0t rfl (fun h=>?_) (fun h=>?_)
 ·have hlt:f<F:=by have:=of_decide_eq_true h;omega
  clear h
  repeat refine st ?_
  refine A2p tab rfl rfl rfl hv3w (A2d tab rfl rfl rfl (x:=[.int .i64 P,.int .i64 F,.slice a ws.length cap]) ⟨Nat.le_refl 3,rfl⟩) ?_
  repeat refine st ?_
  refine Q_op fun ho=>A0i [] [] ho bod38 rfl rfl rfl rfl rfl cntA (Proof_x (v:=w.union (A0e [])) ((hws.le hle).le (A0b _ _)) oM) (fun x β' hR=>?_)
  clear ho
  rw [A2r]at hR
  obtain⟨t,rfl,ag,cg,rfl,hrg⟩:=hR
  refine A0w (β1:=β') (β2:=[]) (fun _=>rfl) (fun hb=>?_)
  have hle2:=hle.trans (A0b w (A0e β'))
  generalize w.union (A0e β')=w2 at hrg hle2⊢
  clear hb hle hv3w
  have hrow2:=RowAt.le hrow hle2
  have hW2:=hW.le hle2
  have hrl2:=RowAt.le hrl hle2
  have hrs2:=hrs.le hle2
  repeat refine st ?_
  refine A1o (α:=Nat×Int) (fun z=>⟨[],[(12,.int .i64 z.1),(11,.int .i64 z.2),(10,.int .i64 (B4r P F ws f)),(9,.slice ag (B4n P F ws f).length cg),(8,.int .i64 f),(7,.slice al (A2e P).length cl),(5,.slice aw W.length cw),(3,.pointer (some ⟨b3,0,none⟩))],[]⟩)
   (fun z x=>w2=x∧z.1≤(A2e P).length∧((z.2 = -1∧∀j (hj:j<(A2e P).length),j<z.1→A1a W (A2e P)[j] f=false)∨
    (0<W.length∧∃(i:Nat) (hi:i<(A2e P).length),z.2=i∧(∀j (hj:j<(A2e P).length),j<i→A1a W (A2e P)[j] f=false)∧A1a W (A2e P)[i] f=true))) (fun z=>(A2e P).length-z.1)
   (0,-1) ⟨rfl,rg,cntL⟩ (Le.refl _) ⟨rfl,Nat.zero_le _,.inl ⟨rfl,fun j _ h=>absurd h (Nat.not_lt_zero _)⟩⟩ ?_
  rintro⟨i,due⟩ x ⟨rfl,hi,hJ⟩
  dsimp only at hi hJ⊢
  have hnone:due = -1→(W.length=0∨i=(A2e P).length)→B4r P F ws f=11∧B4n P F ws f=[]:=fun hd h=>by
   refine proof_none hok hlt hperm ?_
   rcases h with h|rfl
   ·exact .inl h
   ·rcases hJ with ⟨_,h⟩|⟨_,i0,_,h,_⟩
    ·exact .inr fun j hj=>h j hj hj
    ·omega
  rcases hJ with ⟨rfl,hno⟩|⟨hWn,i0,hi0,rfl,hno,hyes⟩
  ·repeat refine st ?_
   refine A6d rfl rfl (fun h=>?_) (fun h=>?_)
   ·have hil:i<(A2e P).length:=by have:=of_decide_eq_true h;omega
    clear h
    repeat refine st ?_
    refine A0t rfl (fun h=>?_) (fun h=>?_)
    ·have hWn:0<W.length:=by have:=of_decide_eq_true h;omega
     clear h
     obtain⟨ar,cr_,hri,hrowi⟩:=hrs2.2 i hil
     have hmem:=A7y (n:=P) oM (List.getElem_mem hil)
     obtain⟨bb,off,q,c,e,fr,rfl,hv,hc⟩:∃b off p c e f,al=some ⟨b,off,none⟩∧w2 b=some (p,.cells c e f)∧c[off+i]?=some (.slice ar (A2e P)[i].length cr_):=by
      rcases hrl2 with h|⟨b,off,p,c,e,f,h1,h2,h3,h4⟩
      ·rw [h]at hri;cases hri
      ·exact⟨b,off,p,c,e,f,h1,h2,h4 i _ hri⟩
     repeat refine st ?_
     refine A2t tab i rfl rfl rfl rfl rfl rfl rfl hil ?_
     refine A2p tab rfl rfl rfl hv (A1b tab rfl rfl rfl (by rw [Nat.mul_one];exact hc)) ?_
     repeat refine st ?_
     refine Q_op fun ho=>A0s ho bod50 rfl rfl rfl rfl rfl (settled_x hrow2 hW2 hWl hrowi oM (fun y hy=>by have:=hmem.2.2 y hy;omega) oM) ?_
     clear ho
     cases hs:A1a W (A2e P)[i] f with
     | true=>
      repeat refine st ?_
      exact A0c ⟨(i+1,(i:Int)),w2,by dsimp only;omega,⟨rfl,rg,cntL⟩,Le.refl _,rfl,hil,.inr ⟨hWn,i,hil,rfl,hno,hs⟩⟩
     | false=>
      repeat refine st ?_
      refine A0c ⟨(i+1,-1),w2,by dsimp only;omega,⟨rfl,rg,cntL⟩,Le.refl _,rfl,hil,.inl ⟨rfl,fun j hj hlt=>?_⟩⟩
      rcases Nat.lt_succ_iff_lt_or_eq.1 hlt with hlt|rfl
      ·exact hno j hj hlt
      ·exact hs
    ·obtain⟨h1,h2⟩:=hnone rfl (.inl (by have:=of_decide_eq_false h;omega))
     clear h
     rw [h1,h2]
     repeat refine st ?_
     exact A0c ⟨f+1,w2,oM,⟨rfl,rg,cntL⟩,Le.refl _,hle2,hlt⟩
   ·obtain⟨h1,h2⟩:=hnone rfl (.inr (by have:=of_decide_eq_false h;omega))
    clear h
    rw [h1,h2]
    repeat refine st ?_
    exact A0c ⟨f+1,w2,oM,⟨rfl,rg,cntL⟩,Le.refl _,hle2,hlt⟩
  ·obtain⟨h1,h2⟩:=proof_some hok hlt hperm hWn hi0 hno hyes
   obtain⟨ar,cr_,hri,hrowi⟩:=hrs2.2 i0 hi0
   have hmem:=A7y (n:=P) oM (List.getElem_mem hi0)
   obtain⟨bb,off,q,c,e,fr,rfl,hv,hc⟩:∃b off p c e f,al=some ⟨b,off,none⟩∧w2 b=some (p,.cells c e f)∧c[off+i0]?=some (.slice ar (A2e P)[i0].length cr_):=by
    rcases hrl2 with h|⟨b,off,p,c,e,f,h1,h2,h3,h4⟩
    ·rw [h]at hri;cases hri
    ·exact⟨b,off,p,c,e,f,h1,h2,h4 i0 _ hri⟩
   rw [h1]
   rw [h2]at hrg⊢
   repeat refine st ?_
   refine A6d rfl rfl (fun h=>?_) (fun h=>?_)
   ·clear h
    repeat refine st ?_
    refine A2t tab i0 rfl rfl rfl rfl rfl rfl rfl hi0 ?_
    refine A2p tab rfl rfl rfl hv (A1b tab rfl rfl rfl (by rw [Nat.mul_one];exact hc)) ?_
    repeat refine st ?_
    refine Q_op fun ho=>A0s ho bod35 rfl rfl rfl rfl rfl (A7c (l:=(A2e P)[i0]) (m:=(A2e P)[i0]) hrg hrowi oM oM) ?_
    clear ho
    rw [decide_eq_true (rfl:(A2e P)[i0]=(A2e P)[i0])]
    repeat refine st ?_
    exact A0c ⟨f+1,w2,oM,⟨rfl,rg,cntL⟩,Le.refl _,hle2,hlt⟩
   ·clear h
    repeat refine st ?_
    refine A2t tab i0 rfl rfl rfl rfl rfl rfl rfl hi0 ?_
    refine A2p tab rfl rfl rfl hv (A1b tab rfl rfl rfl (by rw [Nat.mul_one];exact hc)) ?_
    repeat refine st ?_
    refine Q_op fun ho=>A0s ho bod35 rfl rfl rfl rfl rfl (A7c (l:=(A2e P)[i0]) (m:=(A2e P)[i0]) hrg hrowi oM oM) ?_
    clear ho
    rw [decide_eq_true (rfl:(A2e P)[i0]=(A2e P)[i0])]
    repeat refine st ?_
    exact A0c ⟨f+1,w2,oM,⟨rfl,rg,cntL⟩,Le.refl _,hle2,hlt⟩
 ·clear h
  repeat refine st ?_
  refine Q_op fun ho=>A0s ho bod21 rfl rfl rfl rfl rfl A9k ?_
  clear ho
  repeat refine st ?_
  exact⟨rfl,rfl,rfl⟩
end Go.Proofs.YtiolobmgibdfmaaGreat
end
section
namespace Go.Proofs.YtiolobmgibdfmaaGreat
open Go Go.ChangeShapes
theorem A1c{a b:Bool}(ha:a=true)(hb:b=true):(a&&b)=true:=by rw [ha,hb];rfl
theorem j10_0:(Rows.vouchProofRow.wf (OpenSpec.ofChange Rows.vouchProofSpec))=true:=by kernel_rfl
theorem j10_1:(laidOutB Tryz.prog)=true:=by kernel_rfl
theorem j10_2:(mapsRowed Tryz.prog)=true:=by kernel_rfl
theorem j10_3:(Tryz.f10.params.all (Tryz.prog.readableRec ·))=true:=by kernel_rfl
theorem j10_4:(namedTie Tryz.prog Rows.vouchProofRow.named Rows.vouchProofSpec.vars)=true:=by kernel_rfl
theorem j10_5:((Rows.vouchProofRow.stops == []))=true:=by kernel_rfl
theorem j10_6:((Tryz.prog.stops == []))=true:=by kernel_rfl
theorem j10_7:((Rows.vouchProofRow.knobs == []))=true:=by kernel_rfl
theorem j10_8:((Tryz.prog.stopKnobs == []))=true:=by kernel_rfl
theorem j10_9:((Rows.vouchProofRow.inPlace==Tryz.prog.inPlace 10))=true:=by kernel_rfl
theorem j10_10:((Rows.vouchProofRow.unfollowed==Tryz.prog.unfollowed 10))=true:=by kernel_rfl
theorem j10_11:((Rows.vouchProofRow.recurses==Tryz.prog.recurses 10))=true:=by kernel_rfl
theorem j10_12:((Rows.vouchProofRow.named==Tryz.prog.varsNamed 10))=true:=by kernel_rfl
theorem j10_13:((Rows.vouchProofRow.maps==(Tryz.f10.params.toList++Rows.vouchProofSpec.plain.varTypes Tryz.prog).any (Tryz.prog.mapsRec ·)))=true:=by kernel_rfl
theorem j10_14:((Rows.vouchProofRow.ifaces==(Tryz.f10.params.toList++Rows.vouchProofSpec.plain.varTypes Tryz.prog).any (Tryz.prog.ifacesRec ·)))=true:=by kernel_rfl
theorem j10_15:((Rows.vouchProofRow.mapsOut==Tryz.prog.mapsAmong Tryz.f10.resultTypes.toList))=true:=by kernel_rfl
theorem j10_16:((Rows.vouchProofRow.loops==(Tryz.f10.params.toList++Rows.vouchProofSpec.plain.varTypes Tryz.prog).any (Tryz.prog.loopsFrom ·)))=true:=by kernel_rfl
theorem j10_17:((Rows.vouchProofRow.wideKeys==(Tryz.f10.params.toList++Rows.vouchProofSpec.plain.varTypes Tryz.prog++Tryz.f10.resultTypes.toList).any (Tryz.prog.wideKeysFrom ·)))=true:=by kernel_rfl
theorem j10_18:(Rows.vouchProofSpec.vars.all (Tryz.prog.varReadable ·))=true:=by kernel_rfl
theorem j10_19:(Tryz.f10.resultTypes.all (fun t=>Tryz.prog.readableRec t&&decide (t<Tryz.prog.types.size)))=true:=by kernel_rfl
theorem j10_20:((Rows.vouchProofRow.ifacesOut==Tryz.f10.resultTypes.toList.any (Tryz.prog.ifacesRec ·)))=true:=by kernel_rfl
theorem j10_21:((Rows.vouchProofRow.loopsOut==Tryz.f10.resultTypes.toList.any (Tryz.prog.loopsFrom ·)))=true:=by kernel_rfl
theorem j10_22:((Rows.vouchProofRow.plainKeys==Tryz.prog.plainKeys))=true:=by kernel_rfl
theorem j10_23:(Rows.vouchProofRow.shortTexts.isNone)=true:=by kernel_rfl
theorem j10_24:(Tryz.prog.stopsHeard)=true:=by kernel_rfl
theorem j10_25:(Tryz.prog.mayEnter)=true:=by kernel_rfl
theorem j10_26:((Rows.vouchProofRow.lifted==Tryz.prog.liftsFinal))=true:=by kernel_rfl
theorem j10_27:((Tryz.prog.make==some Rows.vouchProofRow.make))=true:=by kernel_rfl
theorem j10_28:((Rows.vouchProofRow.kinds==(if Rows.vouchProofRow.domain.isEmpty then []else Tryz.f10.params.toList.map fun t=>match Tryz.prog.underlying t with|some (.int k)=>some k|_=>none)))=true:=by kernel_rfl
theorem j10_29:((Rows.vouchProofRow.pinned==Rows.vouchProofRow.pinnedBy))=true:=by kernel_rfl
theorem j10_30:((Rows.vouchProofRow.veiled==(Tryz.f10.params.toList++Rows.vouchProofSpec.plain.varTypes Tryz.prog++Tryz.f10.resultTypes.toList).any (Tryz.prog.veiledRec ·)))=true:=by kernel_rfl
theorem j10_31:(Rows.vouchProofRow.veiledFits Tryz.prog Tryz.f10.params.toList (Tryz.f10.params.toList++Rows.vouchProofSpec.plain.varTypes Tryz.prog++Tryz.f10.resultTypes.toList))=true:=by kernel_rfl
set_option maxRecDepth 100000 in
theorem j10:joinedFacts Tryz.prog 10 Tryz.f10 Rows.vouchProofSpec Rows.vouchProofRow=true:=A1c (A1c (A1c (A1c (A1c (A1c (A1c (A1c (A1c (A1c (A1c (A1c (A1c (A1c (A1c (A1c (A1c (A1c (A1c (A1c (A1c (A1c (A1c (A1c (A1c (A1c (A1c (A1c (A1c (A1c (A1c (j10_0) j10_1) j10_2) j10_3) j10_4) j10_5) j10_6) j10_7) j10_8) j10_9) j10_10) j10_11) j10_12) j10_13) j10_14) j10_15) j10_16) j10_17) j10_18) j10_19) j10_20) j10_21) j10_22) j10_23) j10_24) j10_25) j10_26) j10_27) j10_28) j10_29) j10_30) j10_31
end Go.Proofs.YtiolobmgibdfmaaGreat
end
section
namespace Go.Proofs.YtiolobmgibdfmaaGreat
open Go Go.Pal Go.Conc Go.ConcM Go.RowKit Go.ChangeShapes Go.WideShapes Go.ChangeAt
theorem B0f:ownKnob Tryz.prog.godebug=none:=by kernel_rfl
set_option maxRecDepth 100000 in
theorem proof_lifted(os:Os)(started:os.Started)(H:Type)(enc:TypeId×Value→H)(F:Stop.Interp) :
  ReturnsInLeavingWide Rows.vouchProofRow.assume Tryz.checked os 10 .any (Rows.vouchProofSpec.pre6 enc Tryz.prog Tryz.f10 Rows.vouchProofRow.domain false) ((OpenSpec.ofChange Rows.vouchProofSpec).postWith enc Tryz.prog Tryz.f10 F (outsideKept [.timePasses]) false true false):=by
 refine returnsInLeavingWide_of_change_time (C:=Tryz.checked) B0f started Tryz.func10
  (ChangeSpec.witness6c (enc:=enc) (C:=Tryz.checked) ⟨#[],#[.slice none 0 0],[]⟩ 8 kR kR kR kR) ?_
 intro W base args ds gs before hval0 hW _ _ hass
 have hval:∀(j:Nat) t v,Tryz.f10.params[j]?=some t→args[j]?=some v→Value.okWide Tryz.prog W .any base t v:=hval0
 have hW':=hW
 obtain⟨p,q,hA0,hV,rfl,_,_⟩:=hW
 have hA:DataW.TrodAll enc Tryz.prog W 0 (fun _=>true) true Tryz.f10.params.toList args.toList ds p:=hA0
 rw [Tryz.params10]at hA hval
 obtain⟨v0,d0,rfl,rfl,h0⟩:=trodAll_one hA
 obtain⟨rfl,rfl⟩:=trodVars_none hV
 clear hA0 hval0
 simp only [List.append_nil]at hW'
 have hlt:∀x∈p,x.block<W.heap.size:=fun x hx=>by simpa using hW'.lt x hx
 obtain⟨a0,cap,ns,v,rfl,hag,hro,hns,hargs⟩:=B3a (hval 0 27 v0 rfl rfl) h0 hlt
 have hcalm:Calm W.tape:=hass.2.1 rfl
 obtain⟨M,last,o,w',t',r1,r2,r3,v',e,hp,g1,g2,g3,g4⟩:=law_run (P:=Tryz.prog) (W:=W) (v:=v) (args:=[.slice a0 ns.length cap]) Tryz.func10 rfl kR hag hro hcalm (proof_run hns)
 refine⟨M,last,o,w',t',r1,r2,r3,v',e,⟨?_,hp.2.2⟩,g1,g2,g3,g4⟩
 obtain⟨rfl,hbel,hos⟩:=hp
 exact⟨_,_,_,[],p,[],hW',trodAll_mk1 (shut_bool Tryz.underlying4 true),trodAll_mk1 (hargs _ hbel),rfl,hbel.frame _,fun h=>by cases h⟩
theorem proof_said:Rows.VouchProofSaid:=
 OpenClaim.holds_of_wide_leaving_time 10 Tryz.f10 rfl rfl rfl rfl rfl rfl rfl ⟨rfl,rfl,rfl,rfl,rfl⟩ rfl rfl rfl rfl rfl kR Tryz.func10 j10
  (of_decide_eq_true kR) (by unfold Func.isWrapper;first|(rw [if_pos (by decide +kernel)];kernel_rfl)|(rw [if_neg (by decide +kernel)];exact⟨rfl,rfl⟩))
  (fun os started H enc _ F=>proof_lifted os started H enc F)
end Go.Proofs.YtiolobmgibdfmaaGreat
end
#print axioms Go.Proofs.YtiolobmgibdfmaaGreat.proof_said
