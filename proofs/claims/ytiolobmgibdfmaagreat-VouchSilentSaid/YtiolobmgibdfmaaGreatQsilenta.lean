/- 'palfreylaw06.VouchSilent' returns true for every list of numbers, whatever the goroutines of its calls do, and the list reads as it did, as its row says it. No condition. -/
import Derived.JoinedOf
import Derived.Test.YtiolobmgibdfmaaGreatPbc
import Derived.Test.YtiolobmgibdfmaaGreatPbd
import Derived.Test.YtiolobmgibdfmaaGreatRsipra
set_option linter.all false
section
namespace Go.Proofs.YtiolobmgibdfmaaGreat
open Go Go.Pal Go.Pal.Vo Go.Conc View
open Go.Proofs.Tryz
set_option maxHeartbeats 4000000
set_option maxRecDepth 20000
theorem silent_run{v:View}{a0:Option Addr}{cap0:Nat}{ns:List Int}(hns:RowAt v a0 (ns.map (.int .i64))):Run prog ⟨true,true⟩ (AtTop 8 2) v (G (Frame.enter prog 8 (List.toArray [.slice a0 ns.length cap0]) .normal) []):=by
 refine top_run func8 rfl nB ?_
 repeat (first|refine st ?_|refine qb fun bx=>?_)
 refine Q_op fun ho=>A0i [] _ ho bod23 rfl rfl rfl rfl rfl A1n (newBag_x) (fun x β' hR=>?_)
 clear ho
 obtain⟨b,rfl,hB⟩:=hR
 rename A0j=>β1
 repeat (first|refine st ?_|refine qb fun bx=>?_)
 refine A2f (bin:=β1) (by repeat (first|(with_reducible exact A0k)|(with_reducible exact A0u)|(with_reducible exact A1e)|(with_reducible apply A0y))) ?_
 refine Q_op fun ho=>A0i β1 _ ho bod40 rfl rfl rfl rfl rfl A0k (B1e (g:=⟨b,a0,cap0,ns⟩) (P0:=4) (F0:=2) (wl:=6) (RowAt.le hns (A0b _ _)) hB dM ⟨by decide,by decide⟩ dM dM) (fun x β' hR=>?_)
 clear ho
 obtain⟨P,F,ws,tr,so,a,a1,a2,cap,c1,c2,β0,βw,βt,βs,hS⟩:=hR
 obtain rfl:=hS.val
 obtain rfl:=hS.box
 refine A0w (β1:=(β0++βw)++(βt++βs)) (β2:=_) (fun _=>rfl) (fun hb=>?_)
 have hws:WdsAt (v.union (A0e ((β0++βw)++(βt++βs)))) a ws:=RowAt.own hb (show Subm βw ((β0++βw)++(βt++βs))from cntL) hS.hw
 generalize v.union (A0e ((β0++βw)++(βt++βs)))=u at hws⊢
 have hok:VOk P F ws:=⟨hS.p1,hS.p4,Nat.le_trans hS.f3 dM,Nat.le_trans hS.w7 dM,hS.all⟩
 have hcap:=own_cap hS.hw
 clear hb hS hB
 have h4:=hok.p4
 have h8:=hok.w8
 repeat (first|refine st ?_|refine qb fun bx=>?_)
 rename_i b3
 refine A0w (β1:=[(bx,#[.slice a1 tr.length c1,.slice a2 so.length c2],38),(b3,#[.int .i64 P,.int .i64 F,.slice a ws.length cap],24)]) (β2:=[]) (show ∀p,Pal.cnt p ((bx,#[.slice a1 tr.length c1,.slice a2 so.length c2],38)::[(b3,#[.int .i64 P,.int .i64 F,.slice a ws.length cap],24)])=Pal.cnt p ([(bx,#[.slice a1 tr.length c1,.slice a2 so.length c2],38),(b3,#[.int .i64 P,.int .i64 F,.slice a ws.length cap],24)]++[])from cntA) (fun hb=>?_)
 have hv3:=A9c hb (b:=b3) ib
 replace hws:=hws.le (A0b u (A0e [(bx,#[.slice a1 tr.length c1,.slice a2 so.length c2],38),(b3,#[.int .i64 P,.int .i64 F,.slice a ws.length cap],24)]))
 generalize u.union (A0e [(bx,#[.slice a1 tr.length c1,.slice a2 so.length c2],38),(b3,#[.int .i64 P,.int .i64 F,.slice a ws.length cap],24)])=u1 at hws hv3⊢
 clear hb
 refine Q_op fun ho=>A0i [] [] ho bod33 rfl rfl rfl rfl rfl cntA (Silent_x (v:=u1.union (A0e [])) (hws.le (A0b _ _)) oM hcap) (fun x β' hR=>?_)
 clear ho
 rw [A2r]at hR
 rw [hok.check,if_pos rfl,Int.toNat_natCast,Int.toNat_natCast]at hR
 obtain⟨t,rfl,ai,ci,rfl,hrowS⟩:=hR
 refine A0w (β1:=β') (β2:=[]) (fun _=>rfl) (fun hb=>?_)
 replace hws:=hws.le (A0b u1 (A0e β'))
 replace hv3:=A0b u1 (A0e β') _ _ hv3
 generalize u1.union (A0e β')=u2 at hws hv3 hrowS⊢
 clear hb
 repeat (first|refine st ?_|refine qb fun bx=>?_)
 refine A2p tab rfl rfl rfl hv3 (A1b tab rfl rfl rfl rfl) ?_
 repeat (first|refine st ?_|refine qb fun bx=>?_)
 refine Q_op fun ho=>A0i [] _ ho bod46 rfl rfl rfl rfl rfl A1n (sets_x h8) (fun x β' hR=>?_)
 clear ho
 refine A0w (β1:=β') (β2:=[]) (fun _=>rfl) (fun hb=>?_)
 obtain⟨al,cl,rows,rfl,hrow,hrs⟩:=hR.read hb (fun _=>Nat.le_refl _)
 replace hws:=hws.le (A0b u2 (A0e β'))
 replace hv3:=A0b u2 (A0e β') _ _ hv3
 replace hrowS:=RowAt.le hrowS (A0b u2 (A0e β'))
 generalize u2.union (A0e β')=u3 at hws hv3 hrowS hrow hrs⊢
 clear hb hR
 have hlen:=B3h h8
 have hall:=canW_all (P:=P) (F:=F) h8
 have hex:(A2e ws.length).find? (canW P F ws)=none→False:=fun h=>by
  have:=List.find?_eq_none.1 h _ hall.1
  exact this hall.2
 repeat (first|refine st ?_|refine qb fun bx=>?_)
 refine A1o (α:=Nat) (fun i=>⟨[],[(8,.int .i64 i),(7,.slice al (A2e ws.length).length cl),(6,.int .i64 0),(5,.slice ai (B2w P F ws).length ci),(3,.pointer (some ⟨b3,0,none⟩))],[]⟩)
  (fun i w=>u3=w∧i≤(A2e ws.length).length∧∀j (hj:j<(A2e ws.length).length),j<i→canW P F ws (A2e ws.length)[j]=false) (fun i=>(A2e ws.length).length-i) 0 ⟨rfl,rg,cntL⟩ (Le.refl _) ⟨rfl,Nat.zero_le _,fun j _ h=>absurd h (Nat.not_lt_zero _)⟩ ?_
 rintro i w ⟨rfl,hi,hno⟩
 repeat (first|refine st ?_|refine qb fun bx=>?_)
 refine A0t rfl (fun h=>?_) (fun h=>?_)
 ·have hil:i<(A2e ws.length).length:=by have:=of_decide_eq_true h;omega
  clear h
  obtain⟨ar,cr_,hri,hrowi⟩:=hrs.2 i hil
  have hmem:(A2e ws.length)[i]∈A2e ws.length:=List.getElem_mem hil
  have hfound:=B4q (p:=canW P F ws) hil hno
  have A5e:canW P F ws (A2e ws.length)[i]=false→∀j (hj:j<(A2e ws.length).length),j<i+1→canW P F ws (A2e ws.length)[j]=false:=fun h j hj hlt=>by
   rcases Nat.lt_succ_iff_lt_or_eq.1 hlt with hlt|rfl
   ·exact hno j hj hlt
   ·exact h
  obtain⟨bb,off,q,c,e,f,rfl,hv,hc⟩:∃b off p c e f,al=some ⟨b,off,none⟩∧u3 b=some (p,.cells c e f)∧c[off+i]?=some (.slice ar (A2e ws.length)[i].length cr_):=by
   rcases hrow with h|⟨b,off,p,c,e,f,h1,h2,h3,h4⟩
   ·rw [h]at hri;cases hri
   ·exact⟨b,off,p,c,e,f,h1,h2,h4 i _ hri⟩
  generalize (A2e ws.length)[i]=l at hri hrowi hmem hfound A5e hc
  have hl8:=(A7y h8 hmem).1
  have hwk:=without_keep h8 hmem
  have hokW:VOk P F (B4m ws l ws.length):=⟨hok.p1,hok.p4,hok.f3,Nat.le_trans stayW_len h8,fun x hx=>hok.all x (by rw [←hwk]at hx;exact A9f hx)⟩
  have hcw:canW P F ws l=decide (((A0g P F (B4m ws l ws.length)).length:Int) > 0):=by unfold canW;rw [hwk]
  repeat (first|refine st ?_|refine qb fun bx=>?_)
  refine A2u [5,6] [0,1,2,3,4,5,6,7,8,9,10,11] A1w rfl kR ?_
  repeat (first|refine st ?_|refine qb fun bx=>?_)
  refine A8d tab rfl rfl rfl kR rfl hv3 (A2d tab rfl rfl rfl (x:=[.int .i64 P,.int .i64 F,.slice a ws.length cap]) ⟨Nat.le_refl 3,rfl⟩) ?_
  repeat (first|refine st ?_|refine qb fun bx=>?_)
  refine A0v tab i rfl rfl rfl kR rfl rfl rfl rfl rfl hil ?_
  repeat (first|refine st ?_|refine qb fun bx=>?_)
  refine A8d tab rfl rfl rfl kR rfl hv (A1b tab rfl rfl rfl (by rw [Nat.mul_one];exact hc)) ?_
  repeat (first|refine st ?_|refine qb fun bx=>?_)
  refine S_do kR (A0i [] _ rfl bod47 rfl rfl rfl rfl rfl A1n (without_x (hws.le (A0b _ _)) h8 (RowAt.le hrowi (A0b _ _)) oM) (fun x β' hR=>⟨Le.refl _,?_,?_⟩))
  ·exact kp
  obtain⟨aW,cW,rfl,hSW⟩:=hR
  repeat (first|refine st ?_|refine qb fun bx=>?_)
  refine S_do kR (XOp_bok fun hbk=>A0i [] _ rfl bod25 rfl rfl rfl rfl rfl A1n (count_r hokW (RowAt.own hbk (show Subm β' (β'++[])from cntL) hSW)) (fun x β'' hR=>⟨Le.refl _,?_,?_⟩))
  ·exact kp
  obtain⟨rfl,rfl⟩:=hR
  repeat (first|refine st ?_|refine qb fun bx=>?_)
  refine A0t rfl (fun h=>?_) (fun h=>?_)
  ·have hcan:canW P F ws l=true:=by rw [hcw];exact h
   clear h
   have hsil:B2w P F ws=l:=by unfold B2w;rw [hfound hcan];rfl
   rw [hsil]at hrowS⊢
   repeat (first|refine st ?_|refine qb fun bx=>?_)
   refine A2t tab i rfl rfl rfl rfl rfl rfl rfl hil ?_
   refine A2p tab rfl rfl rfl hv (A1b tab rfl rfl rfl (by rw [Nat.mul_one];exact hc)) ?_
   repeat (first|refine st ?_|refine qb fun bx=>?_)
   refine Q_op fun ho=>A0s ho bod35 rfl rfl rfl rfl rfl (A7c (l:=l) (m:=l) hrowS hrowi oM oM) ?_
   clear ho
   rw [decide_eq_true (rfl:l=l)]
   repeat (first|refine st ?_|refine qb fun bx=>?_)
   refine Q_op fun ho=>A0s ho bod21 rfl rfl rfl rfl rfl A9k ?_
   clear ho
   repeat (first|refine st ?_|refine qb fun bx=>?_)
   exact⟨rfl,rfl,rfl⟩
  ·have hcan:canW P F ws l=false:=by rw [hcw];exact h
   clear h
   repeat (first|refine st ?_|refine qb fun bx=>?_)
   exact A0c ⟨i+1,u3,oM,⟨rfl,rg,cntL⟩,Le.refl _,rfl,hil,A5e hcan⟩
 ·exfalso
  have hil:i=(A2e ws.length).length:=by have:=of_decide_eq_false h;omega
  refine hex (List.find?_eq_none.2 fun x hx=>?_)
  obtain⟨j,hj,rfl⟩:=List.getElem_of_mem hx
  rw [hno j hj oM]
  decide
end Go.Proofs.YtiolobmgibdfmaaGreat
end
section
namespace Go.Proofs.YtiolobmgibdfmaaGreat
open Go Go.ChangeShapes
theorem A1c{a b:Bool}(ha:a=true)(hb:b=true):(a&&b)=true:=by rw [ha,hb];rfl
theorem j8_0:(Rows.vouchSilentRow.wf (OpenSpec.ofChange Rows.vouchSilentSpec))=true:=by kernel_rfl
theorem j8_1:(laidOutB Tryz.prog)=true:=by kernel_rfl
theorem j8_2:(mapsRowed Tryz.prog)=true:=by kernel_rfl
theorem j8_3:(Tryz.f8.params.all (Tryz.prog.readableRec ·))=true:=by kernel_rfl
theorem j8_4:(namedTie Tryz.prog Rows.vouchSilentRow.named Rows.vouchSilentSpec.vars)=true:=by kernel_rfl
theorem j8_5:((Rows.vouchSilentRow.stops == []))=true:=by kernel_rfl
theorem j8_6:((Tryz.prog.stops == []))=true:=by kernel_rfl
theorem j8_7:((Rows.vouchSilentRow.knobs == []))=true:=by kernel_rfl
theorem j8_8:((Tryz.prog.stopKnobs == []))=true:=by kernel_rfl
theorem j8_9:((Rows.vouchSilentRow.inPlace==Tryz.prog.inPlace 8))=true:=by kernel_rfl
theorem j8_10:((Rows.vouchSilentRow.unfollowed==Tryz.prog.unfollowed 8))=true:=by kernel_rfl
theorem j8_11:((Rows.vouchSilentRow.recurses==Tryz.prog.recurses 8))=true:=by kernel_rfl
theorem j8_12:((Rows.vouchSilentRow.named==Tryz.prog.varsNamed 8))=true:=by kernel_rfl
theorem j8_13:((Rows.vouchSilentRow.maps==(Tryz.f8.params.toList++Rows.vouchSilentSpec.plain.varTypes Tryz.prog).any (Tryz.prog.mapsRec ·)))=true:=by kernel_rfl
theorem j8_14:((Rows.vouchSilentRow.ifaces==(Tryz.f8.params.toList++Rows.vouchSilentSpec.plain.varTypes Tryz.prog).any (Tryz.prog.ifacesRec ·)))=true:=by kernel_rfl
theorem j8_15:((Rows.vouchSilentRow.mapsOut==Tryz.prog.mapsAmong Tryz.f8.resultTypes.toList))=true:=by kernel_rfl
theorem j8_16:((Rows.vouchSilentRow.loops==(Tryz.f8.params.toList++Rows.vouchSilentSpec.plain.varTypes Tryz.prog).any (Tryz.prog.loopsFrom ·)))=true:=by kernel_rfl
theorem j8_17:((Rows.vouchSilentRow.wideKeys==(Tryz.f8.params.toList++Rows.vouchSilentSpec.plain.varTypes Tryz.prog++Tryz.f8.resultTypes.toList).any (Tryz.prog.wideKeysFrom ·)))=true:=by kernel_rfl
theorem j8_18:(Rows.vouchSilentSpec.vars.all (Tryz.prog.varReadable ·))=true:=by kernel_rfl
theorem j8_19:(Tryz.f8.resultTypes.all (fun t=>Tryz.prog.readableRec t&&decide (t<Tryz.prog.types.size)))=true:=by kernel_rfl
theorem j8_20:((Rows.vouchSilentRow.ifacesOut==Tryz.f8.resultTypes.toList.any (Tryz.prog.ifacesRec ·)))=true:=by kernel_rfl
theorem j8_21:((Rows.vouchSilentRow.loopsOut==Tryz.f8.resultTypes.toList.any (Tryz.prog.loopsFrom ·)))=true:=by kernel_rfl
theorem j8_22:((Rows.vouchSilentRow.plainKeys==Tryz.prog.plainKeys))=true:=by kernel_rfl
theorem j8_23:(Rows.vouchSilentRow.shortTexts.isNone)=true:=by kernel_rfl
theorem j8_24:(Tryz.prog.stopsHeard)=true:=by kernel_rfl
theorem j8_25:(Tryz.prog.mayEnter)=true:=by kernel_rfl
theorem j8_26:((Rows.vouchSilentRow.lifted==Tryz.prog.liftsFinal))=true:=by kernel_rfl
theorem j8_27:((Tryz.prog.make==some Rows.vouchSilentRow.make))=true:=by kernel_rfl
theorem j8_28:((Rows.vouchSilentRow.kinds==(if Rows.vouchSilentRow.domain.isEmpty then []else Tryz.f8.params.toList.map fun t=>match Tryz.prog.underlying t with|some (.int k)=>some k|_=>none)))=true:=by kernel_rfl
theorem j8_29:((Rows.vouchSilentRow.pinned==Rows.vouchSilentRow.pinnedBy))=true:=by kernel_rfl
theorem j8_30:((Rows.vouchSilentRow.veiled==(Tryz.f8.params.toList++Rows.vouchSilentSpec.plain.varTypes Tryz.prog++Tryz.f8.resultTypes.toList).any (Tryz.prog.veiledRec ·)))=true:=by kernel_rfl
theorem j8_31:(Rows.vouchSilentRow.veiledFits Tryz.prog Tryz.f8.params.toList (Tryz.f8.params.toList++Rows.vouchSilentSpec.plain.varTypes Tryz.prog++Tryz.f8.resultTypes.toList))=true:=by kernel_rfl
set_option maxRecDepth 100000 in
theorem j8:joinedFacts Tryz.prog 8 Tryz.f8 Rows.vouchSilentSpec Rows.vouchSilentRow=true:=A1c (A1c (A1c (A1c (A1c (A1c (A1c (A1c (A1c (A1c (A1c (A1c (A1c (A1c (A1c (A1c (A1c (A1c (A1c (A1c (A1c (A1c (A1c (A1c (A1c (A1c (A1c (A1c (A1c (A1c (A1c (j8_0) j8_1) j8_2) j8_3) j8_4) j8_5) j8_6) j8_7) j8_8) j8_9) j8_10) j8_11) j8_12) j8_13) j8_14) j8_15) j8_16) j8_17) j8_18) j8_19) j8_20) j8_21) j8_22) j8_23) j8_24) j8_25) j8_26) j8_27) j8_28) j8_29) j8_30) j8_31
end Go.Proofs.YtiolobmgibdfmaaGreat
end
section
namespace Go.Proofs.YtiolobmgibdfmaaGreat
open Go Go.Pal Go.Conc Go.ConcM Go.RowKit Go.ChangeShapes Go.WideShapes Go.ChangeAt
theorem B0f:ownKnob Tryz.prog.godebug=none:=by kernel_rfl
set_option maxRecDepth 100000 in
theorem silent_lifted(os:Os)(started:os.Started)(H:Type)(enc:TypeId×Value→H)(F:Stop.Interp) :
  ReturnsInLeavingWide Rows.vouchSilentRow.assume Tryz.checked os 8 .any (Rows.vouchSilentSpec.pre6 enc Tryz.prog Tryz.f8 Rows.vouchSilentRow.domain false) ((OpenSpec.ofChange Rows.vouchSilentSpec).postWith enc Tryz.prog Tryz.f8 F (outsideKept [.timePasses]) false true false):=by
 refine returnsInLeavingWide_of_change_time (C:=Tryz.checked) B0f started Tryz.func8
  (ChangeSpec.witness6c (enc:=enc) (C:=Tryz.checked) ⟨#[],#[.slice none 0 0],[]⟩ 8 kR kR kR kR) ?_
 intro W base args ds gs before hval0 hW _ _ hass
 have hval:∀(j:Nat) t v,Tryz.f8.params[j]?=some t→args[j]?=some v→Value.okWide Tryz.prog W .any base t v:=hval0
 have hW':=hW
 obtain⟨p,q,hA0,hV,rfl,_,_⟩:=hW
 have hA:DataW.TrodAll enc Tryz.prog W 0 (fun _=>true) true Tryz.f8.params.toList args.toList ds p:=hA0
 rw [Tryz.params8]at hA hval
 obtain⟨v0,d0,rfl,rfl,h0⟩:=trodAll_one hA
 obtain⟨rfl,rfl⟩:=trodVars_none hV
 clear hA0 hval0
 simp only [List.append_nil]at hW'
 have hlt:∀x∈p,x.block<W.heap.size:=fun x hx=>by simpa using hW'.lt x hx
 obtain⟨a0,cap,ns,v,rfl,hag,hro,hns,hargs⟩:=B3a (hval 0 27 v0 rfl rfl) h0 hlt
 have hcalm:Calm W.tape:=hass.2.1 rfl
 obtain⟨M,last,o,w',t',r1,r2,r3,v',e,hp,g1,g2,g3,g4⟩:=law_run (P:=Tryz.prog) (W:=W) (v:=v) (args:=[.slice a0 ns.length cap]) Tryz.func8 rfl kR hag hro hcalm (silent_run hns)
 refine⟨M,last,o,w',t',r1,r2,r3,v',e,⟨?_,hp.2.2⟩,g1,g2,g3,g4⟩
 obtain⟨rfl,hbel,hos⟩:=hp
 exact⟨_,_,_,[],p,[],hW',trodAll_mk1 (shut_bool Tryz.underlying4 true),trodAll_mk1 (hargs _ hbel),rfl,hbel.frame _,fun h=>by cases h⟩
theorem silent_said:Rows.VouchSilentSaid:=
 OpenClaim.holds_of_wide_leaving_time 8 Tryz.f8 rfl rfl rfl rfl rfl rfl rfl ⟨rfl,rfl,rfl,rfl,rfl⟩ rfl rfl rfl rfl rfl kR Tryz.func8 j8
  (of_decide_eq_true kR) (by unfold Func.isWrapper;first|(rw [if_pos (by decide +kernel)];kernel_rfl)|(rw [if_neg (by decide +kernel)];exact⟨rfl,rfl⟩))
  (fun os started H enc _ F=>silent_lifted os started H enc F)
end Go.Proofs.YtiolobmgibdfmaaGreat
end
#print axioms Go.Proofs.YtiolobmgibdfmaaGreat.silent_said
