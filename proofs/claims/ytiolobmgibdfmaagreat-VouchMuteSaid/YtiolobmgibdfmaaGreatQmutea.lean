/- 'palfreylaw06.VouchMute' returns true for every list of numbers, whatever the goroutines of its calls do, and the list reads as it did, as its row says it. No condition. -/
import Derived.JoinedOf
import Derived.KernelRfl
import Derived.Test.YtiolobmgibdfmaaGreatRows
import Derived.Test.YtiolobmgibdfmaaGreatPbb
import Derived.Test.YtiolobmgibdfmaaGreatPbc
import Derived.Test.YtiolobmgibdfmaaGreatPbd
set_option linter.unusedVariables false
set_option linter.unusedSimpArgs false
section
namespace Go.Proofs.YtiolobmgibdfmaaGreat
open Go Go.Pal Go.Pal.Vo Go.Conc View
open Go.Proofs.Tryz
set_option maxHeartbeats 4000000
set_option maxRecDepth 20000
def allT(W:List Wl)(P p:Nat)(l:List Wd):Bool:=l.all fun x=>x.who.toNat != p||verd W (A4h P x)==1
theorem allT_snoc{W:List Wl}{P p:Nat}{l:List Wd}{x:Wd}:allT W P p (l++[x])=(allT W P p l&&(x.who.toNat != p||verd W (A4h P x)==1)):=by
  unfold allT
  rw [List.all_append,List.all_cons,List.all_nil,Bool.and_true]
theorem allT_mute{P F p:Nat}{ws:List Wd}(h:VOk P F ws)(hp:p<P)(hn:0<(A0g P F ws).length):(verd (A0g P F ws) (fun w=>bit w.1 p)==1)=allT (A0g P F ws) P p ws:=by
  have h4:=h.p4
  have hm:=mute oM h.who8 hp (List.length_pos_iff.1 hn)
  rw [Bool.eq_iff_iff,beq_iff_eq,hm]
  unfold allT
  rw [List.all_eq_true]
  refine forall_congr' fun x=>forall_congr' fun hx=>?_
  by_cases hw:x.who.toNat=p<;>simp [hw]
theorem mute_run{v:View}{a0:Option Addr}{cap0:Nat}{ns:List Int}(hns:RowAt v a0 (ns.map (.int .i64))):Run prog ⟨true,true⟩ (AtTop 6 2) v (G (Frame.enter prog 6 (List.toArray [.slice a0 ns.length cap0]) .normal) []):=by
  refine top_run func6 rfl nB ?_
  repeat (first|refine st ?_|refine qb fun bx=>?_)
  refine Q_op fun ho=>A0i [] _ ho bod23 rfl rfl rfl rfl rfl A1n (newBag_x) (fun x β' hR=>?_)
  clear ho
  obtain⟨b,rfl,hB⟩:=hR
  rename A0j=>β1
  repeat (first|refine st ?_|refine qb fun bx=>?_)
  refine A2f (bin:=β1) (by repeat (first|(with_reducible exact A0k)|(with_reducible exact A0u)|(with_reducible exact A1e)|(with_reducible apply A0y))) ?_
  refine Q_op fun ho=>A0i β1 _ ho bod40 rfl rfl rfl rfl rfl A0k (B1e (g:=⟨b,a0,cap0,ns⟩) (P0:=4) (F0:=3) (wl:=6) (RowAt.le hns (A0b _ _)) hB dM ⟨by decide,by decide⟩ dM dM) (fun x β' hR=>?_)
  clear ho
  obtain⟨P,F,ws,tr,so,a,a1,a2,cap,c1,c2,β0,βw,βt,βs,hS⟩:=hR
  obtain rfl:=hS.val
  obtain rfl:=hS.box
  refine A0w (β1:=(β0++βw)++(βt++βs)) (β2:=_) (fun _=>rfl) (fun hb=>?_)
  have hws:WdsAt (v.union (A0e ((β0++βw)++(βt++βs)))) a ws:=RowAt.own hb (show Subm βw ((β0++βw)++(βt++βs))from cntL) hS.hw
  generalize v.union (A0e ((β0++βw)++(βt++βs)))=u at hws⊢
  have hok:VOk P F ws:=⟨hS.p1,hS.p4,hS.f3,Nat.le_trans hS.w7 dM,hS.all⟩
  clear hb hS hB
  have h4:=hok.p4
  have h8:=hok.w8
  repeat (first|refine st ?_|refine qb fun bx=>?_)
  rename_i b3
  refine Q_op fun ho=>A0s ho bod25 rfl rfl rfl rfl rfl (count_r hok hws) ?_
  clear ho
  repeat (first|refine st ?_|refine qb fun bx=>?_)
  refine A1o (α:=Nat) (fun p=>⟨[],[(7,.int .i64 p),(5,.int .i64 (A0g P F ws).length),(3,.pointer (some ⟨b3,0,none⟩))],[(b3,#[.int .i64 P,.int .i64 F,.slice a ws.length cap],24)]⟩)
    (fun p w=>u=w∧p≤P) (fun p=>P-p) 0 ⟨rfl,rg,show Subm [(b3,#[.int .i64 P,.int .i64 F,.slice a ws.length cap],24)] ((bx,#[.slice a1 tr.length c1,.slice a2 so.length c2],38)::[(b3,#[.int .i64 P,.int .i64 F,.slice a ws.length cap],24)])from cntL⟩ (Le.refl _) ⟨rfl,Nat.zero_le _⟩ ?_
  rintro p w ⟨rfl,hp⟩
  repeat (first|refine st ?_|refine qb fun bx=>?_)
  refine A6d rfl rfl (fun h=>?_) (fun h=>?_)
  · have hlt:p<P:=by have:=of_decide_eq_true h;omega
    clear h
    repeat (first|refine st ?_|refine qb fun bx=>?_)
    refine A0t rfl (fun h=>?_) (fun h=>?_)
    · have hn:0<(A0g P F ws).length:=by have:=of_decide_eq_true h;omega
      clear h
      repeat (first|refine st ?_|refine qb fun bx=>?_)
      refine Q_op fun ho=>A0s ho bod41 rfl rfl rfl rfl rfl (person_r hok hws hlt hn) ?_
      clear ho
      rw [show someL false (A0g P F ws)=A0g P F ws from rfl]
      repeat (first|refine st ?_|refine qb fun bx=>?_)
      refine A1o (α:=Nat) (fun i=>⟨[],[(11,.int .i64 i),(10,.bool (allT (A0g P F ws) P p (ws.take i))),(8,.int .i64 (verd (A0g P F ws) (fun w=>bit w.1 p))),(9,.int .i64 0),(7,.int .i64 p),(5,.int .i64 (A0g P F ws).length),(3,.pointer (some ⟨b3,0,none⟩))],[(b3,#[.int .i64 P,.int .i64 F,.slice a ws.length cap],24)]⟩)
        (fun i w=>u=w∧i≤ws.length) (fun i=>ws.length-i) 0 ⟨rfl,rg,cntL⟩ (Le.refl _) ⟨rfl,Nat.zero_le _⟩ ?_
      rintro i w ⟨rfl,hi⟩
      repeat (first|refine st ?_|refine qb fun bx=>?_)
      refine A0t rfl (fun h=>?_) (fun h=>?_)
      · have hil:i<ws.length:=by have:=of_decide_eq_true h;omega
        clear h
        obtain⟨bb,off,q,c,e,f,rfl,hv,hc⟩:=hws.field hil
        obtain⟨hc1,hc2⟩:=hc i hil
        have hall:=hok.all _ (List.getElem_mem hil)
        have hwho:=(hok.who (List.getElem_mem hil)).2
        have htake:ws.take (i+1)=ws.take i++[ws[i]]:=List.take_succ_eq_append_getElem hil
        generalize ws[i]=x at hc1 hc2 hall hwho htake
        repeat (first|refine st ?_|refine qb fun bx=>?_)
        refine A2t tab i rfl rfl rfl rfl rfl rfl rfl hil ?_
        repeat (first|refine st ?_|refine qb fun bx=>?_)
        refine A2p tab rfl rfl rfl hv (A1b tab rfl rfl rfl hc2) ?_
        repeat (first|refine st ?_|refine qb fun bx=>?_)
        refine A0t rfl (fun h=>?_) (fun h=>?_)
        · have hne:(x.who.toNat != p)=true:=by
            replace h:=fa h
            rw [bne_iff_ne];intro e;exact h (by rw [hwho,e])
          clear h
          have e:allT (A0g P F ws) P p (ws.take (i+1))=allT (A0g P F ws) P p (ws.take i):=by rw [htake,allT_snoc,hne,Bool.true_or,Bool.and_true]
          repeat (first|refine st ?_|refine qb fun bx=>?_)
          refine A0c ⟨i+1,u,oM,⟨rfl,?_,cntL⟩,Le.refl _,rfl,hil⟩
          rw [e]
          exact rg
        · have hne:(x.who.toNat != p)=false:=by
            replace h:=fa h
            have h:x.who=p:=by first|exact h|exact Classical.not_not.1 h
            rw [bne_eq_false_iff_eq];omega
          clear h
          have e:allT (A0g P F ws) P p (ws.take (i+1))=(allT (A0g P F ws) P p (ws.take i)&&(verd (A0g P F ws) (A4h P x)==1)):=by rw [htake,allT_snoc,hne,Bool.false_or]
          repeat (first|refine st ?_|refine qb fun bx=>?_)
          refine lexL A1w rfl kR ?_
          repeat (first|refine st ?_|refine qb fun bx=>?_)
          refine A2i tab i rfl rfl rfl rfl rfl rfl rfl hil ?_
          repeat (first|refine st ?_|refine qb fun bx=>?_)
          refine A9d tab rfl rfl rfl hv (A2d tab rfl rfl rfl hc1) ?_
          repeat (first|refine st ?_|refine qb fun bx=>?_)
          refine A3r bod42 rfl rfl rfl rfl rfl (follows_r (x:=x) hok hws hall hn) ?_
          repeat (first|refine st ?_|refine qb fun bx=>?_)
          cases ha:allT (A0g P F ws) P p (ws.take i)with
          | true=>
            rw [ha,Bool.true_and]at e
            repeat (first|refine st ?_|refine qb fun bx=>?_)
            refine A0c ⟨i+1,u,oM,⟨rfl,?_,cntL⟩,Le.refl _,rfl,hil⟩
            rw [e]
            exact rg
          | false=>
            rw [ha,Bool.false_and]at e
            repeat (first|refine st ?_|refine qb fun bx=>?_)
            refine A0c ⟨i+1,u,oM,⟨rfl,?_,cntL⟩,Le.refl _,rfl,hil⟩
            rw [e]
            exact rg
      · have hil:i=ws.length:=by have:=of_decide_eq_false h;omega
        clear h
        subst hil
        rw [List.take_length]
        repeat (first|refine st ?_|refine qb fun bx=>?_)
        rw [allT_mute hok hlt hn]
        rw [beq_self_eq_true]
        repeat (first|refine st ?_|refine qb fun bx=>?_)
        exact A0c ⟨p+1,u,oM,⟨rfl,rg,cntL⟩,Le.refl _,rfl,hlt⟩
    · clear h
      repeat (first|refine st ?_|refine qb fun bx=>?_)
      refine Q_op fun ho=>A0s ho bod21 rfl rfl rfl rfl rfl A9k ?_
      clear ho
      repeat (first|refine st ?_|refine qb fun bx=>?_)
      exact⟨rfl,rfl,rfl⟩
  · clear h
    repeat (first|refine st ?_|refine qb fun bx=>?_)
    refine Q_op fun ho=>A0s ho bod21 rfl rfl rfl rfl rfl A9k ?_
    clear ho
    repeat (first|refine st ?_|refine qb fun bx=>?_)
    exact⟨rfl,rfl,rfl⟩
end Go.Proofs.YtiolobmgibdfmaaGreat
end
section
namespace Go.Proofs.YtiolobmgibdfmaaGreat
open Go Go.ChangeShapes
theorem A1c{a b:Bool}(ha:a=true)(hb:b=true):(a&&b)=true:=by rw [ha,hb];rfl
theorem j6_0:(Rows.vouchMuteRow.wf (OpenSpec.ofChange Rows.vouchMuteSpec))=true:=by kernel_rfl
theorem j6_1:(laidOutB Tryz.prog)=true:=by kernel_rfl
theorem j6_2:(mapsRowed Tryz.prog)=true:=by kernel_rfl
theorem j6_3:(Tryz.f6.params.all (Tryz.prog.readableRec ·))=true:=by kernel_rfl
theorem j6_4:(namedTie Tryz.prog Rows.vouchMuteRow.named Rows.vouchMuteSpec.vars)=true:=by kernel_rfl
theorem j6_5:((Rows.vouchMuteRow.stops == []))=true:=by kernel_rfl
theorem j6_6:((Tryz.prog.stops == []))=true:=by kernel_rfl
theorem j6_7:((Rows.vouchMuteRow.knobs == []))=true:=by kernel_rfl
theorem j6_8:((Tryz.prog.stopKnobs == []))=true:=by kernel_rfl
theorem j6_9:((Rows.vouchMuteRow.inPlace==Tryz.prog.inPlace 6))=true:=by kernel_rfl
theorem j6_10:((Rows.vouchMuteRow.unfollowed==Tryz.prog.unfollowed 6))=true:=by kernel_rfl
theorem j6_11:((Rows.vouchMuteRow.recurses==Tryz.prog.recurses 6))=true:=by kernel_rfl
theorem j6_12:((Rows.vouchMuteRow.named==Tryz.prog.varsNamed 6))=true:=by kernel_rfl
theorem j6_13:((Rows.vouchMuteRow.maps==(Tryz.f6.params.toList++Rows.vouchMuteSpec.plain.varTypes Tryz.prog).any (Tryz.prog.mapsRec ·)))=true:=by kernel_rfl
theorem j6_14:((Rows.vouchMuteRow.ifaces==(Tryz.f6.params.toList++Rows.vouchMuteSpec.plain.varTypes Tryz.prog).any (Tryz.prog.ifacesRec ·)))=true:=by kernel_rfl
theorem j6_15:((Rows.vouchMuteRow.mapsOut==Tryz.prog.mapsAmong Tryz.f6.resultTypes.toList))=true:=by kernel_rfl
theorem j6_16:((Rows.vouchMuteRow.loops==(Tryz.f6.params.toList++Rows.vouchMuteSpec.plain.varTypes Tryz.prog).any (Tryz.prog.loopsFrom ·)))=true:=by kernel_rfl
theorem j6_17:((Rows.vouchMuteRow.wideKeys==(Tryz.f6.params.toList++Rows.vouchMuteSpec.plain.varTypes Tryz.prog++Tryz.f6.resultTypes.toList).any (Tryz.prog.wideKeysFrom ·)))=true:=by kernel_rfl
theorem j6_18:(Rows.vouchMuteSpec.vars.all (Tryz.prog.varReadable ·))=true:=by kernel_rfl
theorem j6_19:(Tryz.f6.resultTypes.all (fun t=>Tryz.prog.readableRec t&&decide (t<Tryz.prog.types.size)))=true:=by kernel_rfl
theorem j6_20:((Rows.vouchMuteRow.ifacesOut==Tryz.f6.resultTypes.toList.any (Tryz.prog.ifacesRec ·)))=true:=by kernel_rfl
theorem j6_21:((Rows.vouchMuteRow.loopsOut==Tryz.f6.resultTypes.toList.any (Tryz.prog.loopsFrom ·)))=true:=by kernel_rfl
theorem j6_22:((Rows.vouchMuteRow.plainKeys==Tryz.prog.plainKeys))=true:=by kernel_rfl
theorem j6_23:(Rows.vouchMuteRow.shortTexts.isNone)=true:=by kernel_rfl
theorem j6_24:(Tryz.prog.stopsHeard)=true:=by kernel_rfl
theorem j6_25:(Tryz.prog.mayEnter)=true:=by kernel_rfl
theorem j6_26:((Rows.vouchMuteRow.lifted==Tryz.prog.liftsFinal))=true:=by kernel_rfl
theorem j6_27:((Tryz.prog.make==some Rows.vouchMuteRow.make))=true:=by kernel_rfl
theorem j6_28:((Rows.vouchMuteRow.kinds==(if Rows.vouchMuteRow.domain.isEmpty then []else Tryz.f6.params.toList.map fun t=>match Tryz.prog.underlying t with|some (.int k)=>some k|_=>none)))=true:=by kernel_rfl
theorem j6_29:((Rows.vouchMuteRow.pinned==Rows.vouchMuteRow.pinnedBy))=true:=by kernel_rfl
theorem j6_30:((Rows.vouchMuteRow.veiled==(Tryz.f6.params.toList++Rows.vouchMuteSpec.plain.varTypes Tryz.prog++Tryz.f6.resultTypes.toList).any (Tryz.prog.veiledRec ·)))=true:=by kernel_rfl
theorem j6_31:(Rows.vouchMuteRow.veiledFits Tryz.prog Tryz.f6.params.toList (Tryz.f6.params.toList++Rows.vouchMuteSpec.plain.varTypes Tryz.prog++Tryz.f6.resultTypes.toList))=true:=by kernel_rfl
set_option maxRecDepth 100000 in
theorem j6:joinedFacts Tryz.prog 6 Tryz.f6 Rows.vouchMuteSpec Rows.vouchMuteRow=true:=A1c (A1c (A1c (A1c (A1c (A1c (A1c (A1c (A1c (A1c (A1c (A1c (A1c (A1c (A1c (A1c (A1c (A1c (A1c (A1c (A1c (A1c (A1c (A1c (A1c (A1c (A1c (A1c (A1c (A1c (A1c (j6_0) j6_1) j6_2) j6_3) j6_4) j6_5) j6_6) j6_7) j6_8) j6_9) j6_10) j6_11) j6_12) j6_13) j6_14) j6_15) j6_16) j6_17) j6_18) j6_19) j6_20) j6_21) j6_22) j6_23) j6_24) j6_25) j6_26) j6_27) j6_28) j6_29) j6_30) j6_31
end Go.Proofs.YtiolobmgibdfmaaGreat
end
section
namespace Go.Proofs.YtiolobmgibdfmaaGreat
open Go Go.Pal Go.Conc Go.ConcM Go.RowKit Go.ChangeShapes Go.WideShapes Go.ChangeAt
theorem B0f:ownKnob Tryz.prog.godebug=none:=by kernel_rfl
set_option maxRecDepth 100000 in
theorem mute_lifted(os:Os)(started:os.Started)(H:Type)(enc:TypeId×Value→H)(F:Stop.Interp) :
    ReturnsInLeavingWide Rows.vouchMuteRow.assume Tryz.checked os 6 .any (Rows.vouchMuteSpec.pre6 enc Tryz.prog Tryz.f6 Rows.vouchMuteRow.domain false) ((OpenSpec.ofChange Rows.vouchMuteSpec).postWith enc Tryz.prog Tryz.f6 F (outsideKept [.timePasses]) false true false):=by
  refine returnsInLeavingWide_of_change_time (C:=Tryz.checked) B0f started Tryz.func6
    (ChangeSpec.witness6c (enc:=enc) (C:=Tryz.checked) ⟨#[],#[.slice none 0 0],[]⟩ 8 kR kR kR kR) ?_
  intro W base args ds gs before hval0 hW _ _ hass
  have hval:∀(j:Nat) t v,Tryz.f6.params[j]?=some t→args[j]?=some v→Value.okWide Tryz.prog W .any base t v:=hval0
  have hW':=hW
  obtain⟨p,q,hA0,hV,rfl,_,_⟩:=hW
  have hA:DataW.TrodAll enc Tryz.prog W 0 (fun _=>true) true Tryz.f6.params.toList args.toList ds p:=hA0
  rw [Tryz.params6]at hA hval
  obtain⟨v0,d0,rfl,rfl,h0⟩:=trodAll_one hA
  obtain⟨rfl,rfl⟩:=trodVars_none hV
  clear hA0 hval0
  simp only [List.append_nil]at hW'
  have hlt:∀x∈p,x.block<W.heap.size:=fun x hx=>by simpa using hW'.lt x hx
  obtain⟨a0,cap,ns,v,rfl,hag,hro,hns,hargs⟩:=B3a (hval 0 27 v0 rfl rfl) h0 hlt
  have hcalm:Calm W.tape:=hass.2.1 rfl
  obtain⟨M,last,o,w',t',r1,r2,r3,v',e,hp,g1,g2,g3,g4⟩:=law_run (P:=Tryz.prog) (W:=W) (v:=v) (args:=[.slice a0 ns.length cap]) Tryz.func6 rfl kR hag hro hcalm (mute_run hns)
  refine⟨M,last,o,w',t',r1,r2,r3,v',e,⟨?_,hp.2.2⟩,g1,g2,g3,g4⟩
  obtain⟨rfl,hbel,hos⟩:=hp
  exact⟨_,_,_,[],p,[],hW',trodAll_mk1 (shut_bool Tryz.underlying4 true),trodAll_mk1 (hargs _ hbel),rfl,hbel.frame _,fun h=>by cases h⟩
theorem mute_said:Rows.VouchMuteSaid:=
  OpenClaim.holds_of_wide_leaving_time 6 Tryz.f6 rfl rfl rfl rfl rfl rfl rfl ⟨rfl,rfl,rfl,rfl,rfl⟩ rfl rfl rfl rfl rfl kR Tryz.func6 j6
    (of_decide_eq_true kR) (by unfold Func.isWrapper;first|(rw [if_pos (by decide +kernel)];kernel_rfl)|(rw [if_neg (by decide +kernel)];exact⟨rfl,rfl⟩))
    (fun os started H enc _ F=>mute_lifted os started H enc F)
end Go.Proofs.YtiolobmgibdfmaaGreat
end
#print axioms Go.Proofs.YtiolobmgibdfmaaGreat.mute_said
