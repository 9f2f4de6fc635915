/- 'palfreylaw06.VouchAsk' returns true for every list of numbers, whatever the goroutines of its calls do, and the list reads as it did, as its row says it. No condition. -/
import Derived.JoinedOf
import Derived.Test.YtiolobmgibdfmaaGreatPbc
import Derived.Test.YtiolobmgibdfmaaGreatPbd
import Derived.Test.YtiolobmgibdfmaaGreatRaspra
set_option linter.all false
section
namespace Go.Proofs.YtiolobmgibdfmaaGreat
open Go Go.Pal Go.Pal.Vo Go.Conc View
open Go.Proofs.Tryz
set_option maxHeartbeats 4000000
set_option maxRecDepth 20000
def lawA(W:List Wl):Nat→Int×Int
 | 0=>(-1,W.length)
 | p+1=>if most W p<(lawA W p).2 then(p,most W p)else lawA W p
theorem most_perm{W V:List Wl}(h:W.Perm V)(p:Nat):most W p=most V p:=by
 unfold most
 rw [h.countP_eq,h.length_eq]
theorem lawA_ask{W V:List Wl}(h:W.Perm V):∀n,(n=0→(askS V n).some=false)∧(0<n→(askS V n).some=true∧0≤(askS V n).v∧lawA W n=if(askS V n).n<V.length then((askS V n).v,(askS V n).n)else(-1,(V.length:Int)))
 | 0=>⟨fun _=>rfl,fun h=>absurd h (Nat.lt_irrefl _)⟩
 | n+1=>by
  refine⟨(fun h=>by cases h),fun _=>?_⟩
  obtain⟨h0,h1⟩:=lawA_ask h n
  rw [B4v]
  unfold lawA
  rw [most_perm h]
  rcases Nat.eq_zero_or_pos n with rfl|hn
  ·have hs:(askS V 0).add ((0:Nat):Int) (most V 0)=⟨0,most V 0,true⟩:=by unfold Lst.add;rw [h0 rfl];rfl
   rw [hs]
   refine⟨rfl,Int.le_refl 0,?_⟩
   show(if most V 0<(W.length:Int)then _ else((-1:Int),(W.length:Int)))=_
   rw [h.length_eq];rfl
  ·obtain⟨k1,k2,k3⟩:=h1 hn
   rw [k3]
   generalize askS V n=s at k1 k2
   obtain⟨sv,sn,ss⟩:=s
   simp only at k1 k2
   subst k1
   unfold Lst.add
   simp only [Bool.not_true,Bool.false_or,decide_eq_true_eq]
   by_cases a1:most V n<sn
   ·rw [if_pos a1]
    refine⟨rfl,by simp,?_⟩
    by_cases a2:sn<(V.length:Int)
    ·rw [if_pos a2,if_pos (show most V n<(sv,sn).2 from a1),if_pos (show most V n<(V.length:Int) by omega)]
    ·rw [if_neg a2]
   ·rw [if_neg a1]
    refine⟨rfl,k2,?_⟩
    by_cases a2:sn<(V.length:Int)
    ·rw [if_pos a2,if_neg (show ¬most V n<(sv,sn).2 from a1)]
    ·rw [if_neg a2,if_neg (show ¬most V n<(V.length:Int) by omega)]
theorem ask_r{P F:Nat}{ws:List Wd}{v:View}{a:Option Addr}{cap:Nat}{W:List Wl}(h:VOk P F ws)(hW:W.Perm (A0g P F ws))(hws:WdsAt v a ws) :
    Ret1 prog ⟨true,true⟩ 36 [boV P F a ws.length cap] (if(lawA W P).1<0 then .tuple #[.int .i64 0,.int .i64 0,.int .i64 11]else .tuple #[.int .i64 (lawA W P).1,.int .i64 (lawA W P).2,.int .i64 0]) v:=by
  have h8:=h.w8
  have h1:=h.p1
  have hx:=Ask_x (v:=v) (wa:=a) (wc:=cap) (P:=P) (F:=F) (ws:=ws) hws oM
  have e:askV P F ws=if(lawA W P).1<0 then .tuple #[.int .i64 0,.int .i64 0,.int .i64 11]else .tuple #[.int .i64 (lawA W P).1,.int .i64 (lawA W P).2,.int .i64 0]:=by
    obtain⟨k1,k2,k3⟩:=(lawA_ask hW P).2 h1
    unfold askV errA askE
    simp only [h.check,if_true,Int.toNat_natCast]
    rw [k3]
    by_cases hn:(askS (A0g P F ws) P).n<((A0g P F ws).length:Int)
    · have hne:(A0g P F ws).isEmpty=false:=by
        cases hw:A0g P F ws with
        | nil=>
          rw [hw]at hn
          have hz:∀m,0<m→(askS [] m).n=0:=fun m=>by
            induction m with
            | zero=>exact fun h=>absurd h (Nat.lt_irrefl _)
            | succ m ih=>
              intro _
              rw [B4v]
              have hm:most [] m=0:=rfl
              unfold Lst.add
              split
              · exact hm
              · rcases Nat.eq_zero_or_pos m with rfl|hm
                · rfl
                · exact ih hm
          rw [hz P h1]at hn
          exact absurd hn dM
        | cons x l=>rfl
      rw [hne]
      simp only [Bool.false_eq_true,if_false,hn,if_true]
      rw [if_neg oM]
    · simp only [hn,if_false]
      have hE:(if(A0g P F ws).isEmpty=true then(11:Int)else 11)=11:=by split<;>rfl
      rw [hE]
      rfl
  rw [e]at hx
  exact hx
theorem ask_run{v:View}{a0:Option Addr}{cap0:Nat}{ns:List Int}(hns:RowAt v a0 (ns.map (.int .i64))):Run prog ⟨true,true⟩ (AtTop 9 2) v (G (Frame.enter prog 9 (List.toArray [.slice a0 ns.length cap0]) .normal) []):=by
 refine top_run func9 rfl nB ?_
 repeat (first|refine st ?_|refine qb fun bx=>?_)
 refine Q_op fun ho=>A0i [] _ ho bod23 rfl rfl rfl rfl rfl A1n (newBag_x) (fun x β' hR=>?_)
 clear ho
 obtain⟨b,rfl,hB⟩:=hR
 rename A0j=>β1
 repeat (first|refine st ?_|refine qb fun bx=>?_)
 refine A2f (bin:=β1) (by repeat (first|(with_reducible exact A0k)|(with_reducible exact A0u)|(with_reducible exact A1e)|(with_reducible apply A0y))) ?_
 refine Q_op fun ho=>A0i β1 _ ho bod40 rfl rfl rfl rfl rfl A0k (B1e (g:=⟨b,a0,cap0,ns⟩) (P0:=4) (F0:=3) (wl:=6) (RowAt.le hns (A0b _ _)) hB dM ⟨by decide,by decide⟩ dM dM) (fun x β' hR=>?_)
 clear ho
 obtain⟨P,F,ws,tr,so,a,a1,a2,cap,c1,c2,β0,βw,βt,βs,hS⟩:=hR
 obtain rfl:=hS.val
 obtain rfl:=hS.box
 refine A0w (β1:=(β0++βw)++(βt++βs)) (β2:=_) (fun _=>rfl) (fun hb=>?_)
 have hws:WdsAt (v.union (A0e ((β0++βw)++(βt++βs)))) a ws:=RowAt.own hb (show Subm βw ((β0++βw)++(βt++βs))from cntL) hS.hw
 generalize v.union (A0e ((β0++βw)++(βt++βs)))=u at hws⊢
 have hok:VOk P F ws:=⟨hS.p1,hS.p4,hS.f3,Nat.le_trans hS.w7 dM,hS.all⟩
 clear hb hS hB
 have h4:=hok.p4
 have h8:=hok.w8
 repeat (first|refine st ?_|refine qb fun bx=>?_)
 rename_i b3
 refine Q_op fun ho=>A0i [] _ ho bod48 rfl rfl rfl rfl rfl A1n (B4u hok (hws.le (A0b _ _))) (fun x β' hR=>?_)
 clear ho
 obtain⟨aw,nw,cw,rfl,hO⟩:=hR
 refine A0w (β1:=β') (β2:=_) (fun _=>rfl) (fun hb=>?_)
 obtain⟨rfl,rs,hrow,hW⟩:=hO.row hb
 replace hws:=hws.le (A0b u (A0e β'))
 generalize u.union (A0e β')=u1 at hws hrow hW⊢
 clear hb hO
 have hperm:=wlT_perm h4 hok.f3 ws
 have hWl:(wlT P F ws).length≤128:=by
  refine Nat.le_trans (List.length_filter_le _ _) ?_
  rw [List.length_map,B4o]
  exact Nat.pow_le_pow_right (n:=2) dM (show P+F≤7 by have:=hok.f3;omega)
 generalize wlT P F ws=W at hrow hW hperm hWl⊢
 repeat (first|refine st ?_|refine qb fun bx=>?_)
 refine A1o (α:=Nat) (fun p=>⟨[],[(9,.int .i64 p),(8,.int .i64 (lawA W p).2),(7,.int .i64 (lawA W p).1),(5,.slice aw W.length cw),(3,.pointer (some ⟨b3,0,none⟩))],[(b3,#[.int .i64 P,.int .i64 F,.slice a ws.length cap],24)]⟩)
  (fun p w=>u1=w∧p≤P) (fun p=>P-p) 0 ⟨rfl,rg,show Subm [(b3,#[.int .i64 P,.int .i64 F,.slice a ws.length cap],24)] ((bx,#[.slice a1 tr.length c1,.slice a2 so.length c2],38)::[(b3,#[.int .i64 P,.int .i64 F,.slice a ws.length cap],24)])from cntL⟩ (Le.refl _) ⟨rfl,Nat.zero_le _⟩ ?_
 rintro p w ⟨rfl,hp⟩
 repeat (first|refine st ?_|refine qb fun bx=>?_)
 refine A0t rfl (fun h=>?_) (fun h=>?_)
 ·have hlt:p<P:=by have:=of_decide_eq_true h;omega
  clear h
  repeat (first|refine st ?_|refine qb fun bx=>?_)
  refine A1o (α:=Nat) (fun i=>⟨[],[(11,.int .i64 i),(10,.int .i64 ((W.take i).countP fun w=>bit w.1 p)),(9,.int .i64 p),(8,.int .i64 (lawA W p).2),(7,.int .i64 (lawA W p).1),(5,.slice aw W.length cw),(3,.pointer (some ⟨b3,0,none⟩))],[(b3,#[.int .i64 P,.int .i64 F,.slice a ws.length cap],24)]⟩)
   (fun i w=>u1=w∧i≤W.length) (fun i=>W.length-i) 0 ⟨rfl,rg,cntL⟩ (Le.refl _) ⟨rfl,Nat.zero_le _⟩ ?_
  rintro i w ⟨rfl,hi⟩
  have hct:(W.take i).countP (fun w=>bit w.1 p)≤128:=Nat.le_trans List.countP_le_length (by rw [List.length_take];omega)
  repeat (first|refine st ?_|refine qb fun bx=>?_)
  refine A0t rfl (fun h=>?_) (fun h=>?_)
  ·have hil:i<W.length:=by have:=of_decide_eq_true h;omega
   clear h
   obtain⟨bb,off,q,c,e,f,rfl,hv,hc⟩:=WRows.at hrow hW hil
   obtain⟨x1,d1,x2,d2,m1,m2,m3,m4⟩:=hc i hil
   have htake:(W.take (i+1)).countP (fun w=>bit w.1 p)=(W.take i).countP (fun w=>bit w.1 p)+if bit W[i].1 p=true then 1 else 0:=by
    rw [List.take_succ_eq_append_getElem hil,List.countP_append,List.countP_singleton]
   repeat (first|refine st ?_|refine qb fun bx=>?_)
   refine A2t tab i rfl rfl rfl rfl rfl rfl rfl hil ?_
   repeat (first|refine st ?_|refine qb fun bx=>?_)
   refine A2p tab rfl rfl rfl hv (A1b tab rfl rfl rfl m1) ?_
   repeat (first|refine st ?_|refine qb fun bx=>?_)
   refine Q_op fun ho=>A0s ho bod49 rfl rfl rfl rfl rfl (has_b m3 oM) ?_
   clear ho
   cases hbit:bit W[i].1 p with
   | true=>
    rw [hbit,if_pos rfl]at htake
    repeat (first|refine st ?_|refine qb fun bx=>?_)
    refine A0c ⟨i+1,u1,oM,⟨rfl,?_,cntL⟩,Le.refl _,rfl,hil⟩
    rw [htake]
    exact rg
   | false=>
    rw [hbit,if_neg dM,Nat.add_zero]at htake
    repeat (first|refine st ?_|refine qb fun bx=>?_)
    refine A0c ⟨i+1,u1,oM,⟨rfl,?_,cntL⟩,Le.refl _,rfl,hil⟩
    rw [htake]
    exact rg
  ·have hil:i=W.length:=by have:=of_decide_eq_false h;omega
   clear h
   subst hil
   rw [List.take_length]at hct⊢
   repeat (first|refine st ?_|refine qb fun bx=>?_)
   refine A0t rfl (fun h=>?_) (fun h=>?_)
   ·have h2:most W p<(lawA W p).2:=of_decide_eq_true h
    clear h
    have e:lawA W (p+1)=((p:Int),most W p):=if_pos h2
    repeat (first|refine st ?_|refine qb fun bx=>?_)
    refine A0c ⟨p+1,u1,oM,⟨rfl,?_,cntL⟩,Le.refl _,rfl,hlt⟩
    rw [e]
    exact rg
   ·have h2:¬most W p<(lawA W p).2:=of_decide_eq_false h
    clear h
    have e:lawA W (p+1)=lawA W p:=if_neg h2
    repeat (first|refine st ?_|refine qb fun bx=>?_)
    refine A0c ⟨p+1,u1,oM,⟨rfl,?_,cntL⟩,Le.refl _,rfl,hlt⟩
    rw [e]
    exact rg
 ·have hlt:p=P:=by have:=of_decide_eq_false h;omega
  clear h
  subst hlt
  repeat (first|refine st ?_|refine qb fun bx=>?_)
  refine Q_op fun ho=>A0s ho bod36 rfl rfl rfl rfl rfl (ask_r hok hperm hws) ?_
  clear ho
  by_cases hneg:(lawA W p).1<0
  ·rw [if_pos hneg]
   repeat (first|refine st ?_|refine qb fun bx=>?_)
   refine A0t rfl (fun h=>?_) (fun h=>?_)
   ·clear h
    repeat (first|refine st ?_|refine qb fun bx=>?_)
    refine Q_op fun ho=>A0s ho bod21 rfl rfl rfl rfl rfl A9k ?_
    clear ho
    repeat (first|refine st ?_|refine qb fun bx=>?_)
    exact⟨rfl,rfl,rfl⟩
   ·exact absurd hneg (of_decide_eq_false h)
  ·rw [if_neg hneg]
   repeat (first|refine st ?_|refine qb fun bx=>?_)
   refine A0t rfl (fun h=>?_) (fun h=>?_)
   ·exact absurd (of_decide_eq_true h) hneg
   ·clear h
    repeat (first|refine st ?_|refine qb fun bx=>?_)
    refine A6d rfl rfl (fun h=>?_) (fun h=>?_)
    ·clear h
     repeat (first|refine st ?_|refine qb fun bx=>?_)
     refine A6d rfl rfl (fun h=>?_) (fun h=>?_)
     ·clear h
      repeat (first|refine st ?_|refine qb fun bx=>?_)
      refine Q_op fun ho=>A0s ho bod21 rfl rfl rfl rfl rfl A9k ?_
      clear ho
      repeat (first|refine st ?_|refine qb fun bx=>?_)
      exact⟨rfl,rfl,rfl⟩
     ·rw [beq_self_eq_true]at h;cases h
    ·rw [beq_self_eq_true]at h;cases h
end Go.Proofs.YtiolobmgibdfmaaGreat
end
section
namespace Go.Proofs.YtiolobmgibdfmaaGreat
open Go Go.ChangeShapes
theorem A1c{a b:Bool}(ha:a=true)(hb:b=true):(a&&b)=true:=by rw [ha,hb];rfl
theorem j9_0:(Rows.vouchAskRow.wf (OpenSpec.ofChange Rows.vouchAskSpec))=true:=by kernel_rfl
theorem j9_1:(laidOutB Tryz.prog)=true:=by kernel_rfl
theorem j9_2:(mapsRowed Tryz.prog)=true:=by kernel_rfl
theorem j9_3:(Tryz.f9.params.all (Tryz.prog.readableRec ·))=true:=by kernel_rfl
theorem j9_4:(namedTie Tryz.prog Rows.vouchAskRow.named Rows.vouchAskSpec.vars)=true:=by kernel_rfl
theorem j9_5:((Rows.vouchAskRow.stops == []))=true:=by kernel_rfl
theorem j9_6:((Tryz.prog.stops == []))=true:=by kernel_rfl
theorem j9_7:((Rows.vouchAskRow.knobs == []))=true:=by kernel_rfl
theorem j9_8:((Tryz.prog.stopKnobs == []))=true:=by kernel_rfl
theorem j9_9:((Rows.vouchAskRow.inPlace==Tryz.prog.inPlace 9))=true:=by kernel_rfl
theorem j9_10:((Rows.vouchAskRow.unfollowed==Tryz.prog.unfollowed 9))=true:=by kernel_rfl
theorem j9_11:((Rows.vouchAskRow.recurses==Tryz.prog.recurses 9))=true:=by kernel_rfl
theorem j9_12:((Rows.vouchAskRow.named==Tryz.prog.varsNamed 9))=true:=by kernel_rfl
theorem j9_13:((Rows.vouchAskRow.maps==(Tryz.f9.params.toList++Rows.vouchAskSpec.plain.varTypes Tryz.prog).any (Tryz.prog.mapsRec ·)))=true:=by kernel_rfl
theorem j9_14:((Rows.vouchAskRow.ifaces==(Tryz.f9.params.toList++Rows.vouchAskSpec.plain.varTypes Tryz.prog).any (Tryz.prog.ifacesRec ·)))=true:=by kernel_rfl
theorem j9_15:((Rows.vouchAskRow.mapsOut==Tryz.prog.mapsAmong Tryz.f9.resultTypes.toList))=true:=by kernel_rfl
theorem j9_16:((Rows.vouchAskRow.loops==(Tryz.f9.params.toList++Rows.vouchAskSpec.plain.varTypes Tryz.prog).any (Tryz.prog.loopsFrom ·)))=true:=by kernel_rfl
theorem j9_17:((Rows.vouchAskRow.wideKeys==(Tryz.f9.params.toList++Rows.vouchAskSpec.plain.varTypes Tryz.prog++Tryz.f9.resultTypes.toList).any (Tryz.prog.wideKeysFrom ·)))=true:=by kernel_rfl
theorem j9_18:(Rows.vouchAskSpec.vars.all (Tryz.prog.varReadable ·))=true:=by kernel_rfl
theorem j9_19:(Tryz.f9.resultTypes.all (fun t=>Tryz.prog.readableRec t&&decide (t<Tryz.prog.types.size)))=true:=by kernel_rfl
theorem j9_20:((Rows.vouchAskRow.ifacesOut==Tryz.f9.resultTypes.toList.any (Tryz.prog.ifacesRec ·)))=true:=by kernel_rfl
theorem j9_21:((Rows.vouchAskRow.loopsOut==Tryz.f9.resultTypes.toList.any (Tryz.prog.loopsFrom ·)))=true:=by kernel_rfl
theorem j9_22:((Rows.vouchAskRow.plainKeys==Tryz.prog.plainKeys))=true:=by kernel_rfl
theorem j9_23:(Rows.vouchAskRow.shortTexts.isNone)=true:=by kernel_rfl
theorem j9_24:(Tryz.prog.stopsHeard)=true:=by kernel_rfl
theorem j9_25:(Tryz.prog.mayEnter)=true:=by kernel_rfl
theorem j9_26:((Rows.vouchAskRow.lifted==Tryz.prog.liftsFinal))=true:=by kernel_rfl
theorem j9_27:((Tryz.prog.make==some Rows.vouchAskRow.make))=true:=by kernel_rfl
theorem j9_28:((Rows.vouchAskRow.kinds==(if Rows.vouchAskRow.domain.isEmpty then []else Tryz.f9.params.toList.map fun t=>match Tryz.prog.underlying t with|some (.int k)=>some k|_=>none)))=true:=by kernel_rfl
theorem j9_29:((Rows.vouchAskRow.pinned==Rows.vouchAskRow.pinnedBy))=true:=by kernel_rfl
theorem j9_30:((Rows.vouchAskRow.veiled==(Tryz.f9.params.toList++Rows.vouchAskSpec.plain.varTypes Tryz.prog++Tryz.f9.resultTypes.toList).any (Tryz.prog.veiledRec ·)))=true:=by kernel_rfl
theorem j9_31:(Rows.vouchAskRow.veiledFits Tryz.prog Tryz.f9.params.toList (Tryz.f9.params.toList++Rows.vouchAskSpec.plain.varTypes Tryz.prog++Tryz.f9.resultTypes.toList))=true:=by kernel_rfl
set_option maxRecDepth 100000 in
theorem j9:joinedFacts Tryz.prog 9 Tryz.f9 Rows.vouchAskSpec Rows.vouchAskRow=true:=A1c (A1c (A1c (A1c (A1c (A1c (A1c (A1c (A1c (A1c (A1c (A1c (A1c (A1c (A1c (A1c (A1c (A1c (A1c (A1c (A1c (A1c (A1c (A1c (A1c (A1c (A1c (A1c (A1c (A1c (A1c (j9_0) j9_1) j9_2) j9_3) j9_4) j9_5) j9_6) j9_7) j9_8) j9_9) j9_10) j9_11) j9_12) j9_13) j9_14) j9_15) j9_16) j9_17) j9_18) j9_19) j9_20) j9_21) j9_22) j9_23) j9_24) j9_25) j9_26) j9_27) j9_28) j9_29) j9_30) j9_31
end Go.Proofs.YtiolobmgibdfmaaGreat
end
section
namespace Go.Proofs.YtiolobmgibdfmaaGreat
open Go Go.Pal Go.Conc Go.ConcM Go.RowKit Go.ChangeShapes Go.WideShapes Go.ChangeAt
theorem B0f:ownKnob Tryz.prog.godebug=none:=by kernel_rfl
set_option maxRecDepth 100000 in
theorem ask_lifted(os:Os)(started:os.Started)(H:Type)(enc:TypeId×Value→H)(F:Stop.Interp) :
  ReturnsInLeavingWide Rows.vouchAskRow.assume Tryz.checked os 9 .any (Rows.vouchAskSpec.pre6 enc Tryz.prog Tryz.f9 Rows.vouchAskRow.domain false) ((OpenSpec.ofChange Rows.vouchAskSpec).postWith enc Tryz.prog Tryz.f9 F (outsideKept [.timePasses]) false true false):=by
 refine returnsInLeavingWide_of_change_time (C:=Tryz.checked) B0f started Tryz.func9
  (ChangeSpec.witness6c (enc:=enc) (C:=Tryz.checked) ⟨#[],#[.slice none 0 0],[]⟩ 8 kR kR kR kR) ?_
 intro W base args ds gs before hval0 hW _ _ hass
 have hval:∀(j:Nat) t v,Tryz.f9.params[j]?=some t→args[j]?=some v→Value.okWide Tryz.prog W .any base t v:=hval0
 have hW':=hW
 obtain⟨p,q,hA0,hV,rfl,_,_⟩:=hW
 have hA:DataW.TrodAll enc Tryz.prog W 0 (fun _=>true) true Tryz.f9.params.toList args.toList ds p:=hA0
 rw [Tryz.params9]at hA hval
 obtain⟨v0,d0,rfl,rfl,h0⟩:=trodAll_one hA
 obtain⟨rfl,rfl⟩:=trodVars_none hV
 clear hA0 hval0
 simp only [List.append_nil]at hW'
 have hlt:∀x∈p,x.block<W.heap.size:=fun x hx=>by simpa using hW'.lt x hx
 obtain⟨a0,cap,ns,v,rfl,hag,hro,hns,hargs⟩:=B3a (hval 0 27 v0 rfl rfl) h0 hlt
 have hcalm:Calm W.tape:=hass.2.1 rfl
 obtain⟨M,last,o,w',t',r1,r2,r3,v',e,hp,g1,g2,g3,g4⟩:=law_run (P:=Tryz.prog) (W:=W) (v:=v) (args:=[.slice a0 ns.length cap]) Tryz.func9 rfl kR hag hro hcalm (ask_run hns)
 refine⟨M,last,o,w',t',r1,r2,r3,v',e,⟨?_,hp.2.2⟩,g1,g2,g3,g4⟩
 obtain⟨rfl,hbel,hos⟩:=hp
 exact⟨_,_,_,[],p,[],hW',trodAll_mk1 (shut_bool Tryz.underlying4 true),trodAll_mk1 (hargs _ hbel),rfl,hbel.frame _,fun h=>by cases h⟩
theorem ask_said:Rows.VouchAskSaid:=
 OpenClaim.holds_of_wide_leaving_time 9 Tryz.f9 rfl rfl rfl rfl rfl rfl rfl ⟨rfl,rfl,rfl,rfl,rfl⟩ rfl rfl rfl rfl rfl kR Tryz.func9 j9
  (of_decide_eq_true kR) (by unfold Func.isWrapper;first|(rw [if_pos (by decide +kernel)];kernel_rfl)|(rw [if_neg (by decide +kernel)];exact⟨rfl,rfl⟩))
  (fun os started H enc _ F=>ask_lifted os started H enc F)
end Go.Proofs.YtiolobmgibdfmaaGreat
end
#print axioms Go.Proofs.YtiolobmgibdfmaaGreat.ask_said
