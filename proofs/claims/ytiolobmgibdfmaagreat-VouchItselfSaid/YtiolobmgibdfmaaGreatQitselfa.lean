/- 'palfreylaw06.VouchItself' returns true for every list of numbers, whatever the goroutines of its calls do, and the list reads as it did, as its row says it. No condition. -/
import Derived.JoinedOf
import Derived.KernelRfl
import Derived.Test.YtiolobmgibdfmaaGreatRows
import Derived.Test.YtiolobmgibdfmaaGreatPbc
import Derived.Test.YtiolobmgibdfmaaGreatPbd
set_option linter.unusedVariables false
set_option linter.unusedSimpArgs false
section
namespace Go.Proofs.YtiolobmgibdfmaaGreat
open Go Go.Pal Go.Pal.Vo Go.Conc View
open Go.Proofs.Tryz
set_option maxHeartbeats 4000000
set_option maxRecDepth 20000
theorem itself_run{v:View}{a0:Option Addr}{cap0:Nat}{ns:List Int}(hns:RowAt v a0 (ns.map (.int .i64))):Run prog ⟨true,true⟩ (AtTop 16 2) v (G (Frame.enter prog 16 (List.toArray [.slice a0 ns.length cap0]) .normal) []):=by
  refine top_run func16 rfl nB ?_
  repeat (first|refine st ?_|refine qb fun bx=>?_)
  refine Q_op fun ho=>A0i [] _ ho bod23 rfl rfl rfl rfl rfl A1n (newBag_x) (fun x β' hR=>?_)
  clear ho
  obtain⟨b,rfl,hB⟩:=hR
  rename A0j=>β1
  repeat (first|refine st ?_|refine qb fun bx=>?_)
  refine A2f (bin:=β1) (by repeat (first|(with_reducible exact A0k)|(with_reducible exact A0u)|(with_reducible exact A1e)|(with_reducible apply A0y))) ?_
  refine Q_op fun ho=>A0i β1 _ ho bod40 rfl rfl rfl rfl rfl A0k (B1e (g:=⟨b,a0,cap0,ns⟩) (P0:=4) (F0:=3) (wl:=6) (RowAt.le hns (A0b _ _)) hB dM ⟨by decide,by decide⟩ dM dM) (fun x β' hR=>?_)
  clear ho hB
  obtain⟨P,F,ws,tr,so,a,a1,a2,cap,c1,c2,β0,βw,βt,βs,hS⟩:=hR
  obtain rfl:=hS.val
  obtain rfl:=hS.box
  refine A0w (β1:=βw++(βt++βs)) (β2:=β0) cntA (fun hb=>?_)
  have hws:WdsAt (v.union (A0e (βw++(βt++βs)))) a ws:=RowAt.own hb (show Subm βw (βw++(βt++βs))from cntL) hS.hw
  have hr:RowAt (v.union (A0e (βw++(βt++βs)))) a0 (ns.map (.int .i64)):=RowAt.le hns (A0b _ _)
  generalize v.union (A0e (βw++(βt++βs)))=u at hws hr⊢
  have hok:VOk P F ws:=⟨hS.p1,hS.p4,hS.f3,Nat.le_trans hS.w7 dM,hS.all⟩
  have h7:=hS.w7
  have hB:=hS.on
  clear hb hS hns
  have h1:=hok.p1
  have h4:=hok.p4
  repeat (first|refine st ?_|refine qb fun bx=>?_)
  rename_i b4
  refine A2f (bin:=β0) (by repeat (first|(with_reducible exact A0k)|(with_reducible exact A0u)|(with_reducible exact A1e)|(with_reducible apply A0y))) ?_
  refine Q_op fun ho=>A0i β0 _ ho A8c rfl rfl rfl rfl rfl A0k (by rw [show(P:Int)-1=((P-1:Nat):Int) by omega];exact A4y (g:=⟨b,a0,cap0,ns⟩) (RowAt.le hr (A0b _ _)) hB dM (P-1) oM) (fun x β' hR=>?_)
  clear ho
  clear hB hr
  rename A0j=>β2
  obtain⟨⟨p,rfl,hp⟩,-⟩:=hR
  have hlt:p<P:=oM
  repeat (first|refine st ?_|refine qb fun bx=>?_)
  rename_i b5
  obtain⟨b7,rfl⟩:∃b:Nat,b=bx:=⟨bx,rfl⟩
  refine A1o (α:=It1) (fun z=>⟨[],[(8,.int .i64 z.i),(7,.pointer (some ⟨b7,0,none⟩)),(6,.int .i64 p),(4,.pointer (some ⟨b4,0,none⟩))],z.seg++[(b7,#[.int .i64 P,.int .i64 F,.slice z.a (A1a p (ws.take z.i)).length z.c],24),(b4,#[.int .i64 P,.int .i64 F,.slice a ws.length cap],24)]⟩)
    (fun z w=>u=w∧z.i≤ws.length∧OwnS 26 4 z.seg z.a (A1a p (ws.take z.i)).length z.c ((A1a p (ws.take z.i)).map wdC).flatten) (fun z=>ws.length-z.i) ⟨0,none,0,[]⟩ ⟨rfl,rg,?_⟩ (Le.refl _) ⟨rfl,Nat.zero_le _,.nil⟩ ?_
  · show Subm ([]++[(b7,#[.int .i64 P,.int .i64 F,.slice none 0 0],24),(b4,#[.int .i64 P,.int .i64 F,.slice a ws.length cap],24)]) ((b7,#[.int .i64 P,.int .i64 F,.slice none 0 0],24)::(β2++[(b5,#[.slice a1 tr.length c1,.slice a2 so.length c2],38),(b4,#[.int .i64 P,.int .i64 F,.slice a ws.length cap],24)]))
    exact cntL
  rintro⟨i,ao,co,seg⟩ w ⟨rfl,hi,hO⟩
  dsimp only at hi hO⊢
  repeat (first|refine st ?_|refine qb fun bx=>?_)
  refine A0t rfl (fun h=>?_) (fun h=>?_)
  · have hil:i<ws.length:=by have:=of_decide_eq_true h;omega
    clear h
    obtain⟨bb,off,q,c,e,f,rfl,hv,hc⟩:=hws.field hil
    obtain⟨hc1,hc2⟩:=hc i hil
    have hwho:=(hok.who (List.getElem_mem hil)).2
    have htake:ws.take (i+1)=ws.take i++[ws[i]]:=List.take_succ_eq_append_getElem hil
    have hol:=A7e (p:=p) (l:=ws.take i)
    rw [List.length_take]at hol
    generalize ws[i]=x at hc1 hc2 hwho htake
    repeat (first|refine st ?_|refine qb fun bx=>?_)
    refine A2t tab i rfl rfl rfl rfl rfl rfl rfl hil ?_
    repeat (first|refine st ?_|refine qb fun bx=>?_)
    refine A2p tab rfl rfl rfl hv (A1b tab rfl rfl rfl hc2) ?_
    repeat (first|refine st ?_|refine qb fun bx=>?_)
    refine A0t rfl (fun h=>?_) (fun h=>?_)
    · have hne:(x.who.toNat != p)=true:=by
        replace h:=fa h
        rw [bne_iff_ne];intro e;exact h (by rw [hwho,e])
      clear h
      have e:A1a p (ws.take (i+1))=A1a p (ws.take i)++[x]:=by rw [htake,A7o,if_pos hne]
      repeat (first|refine st ?_|refine qb fun bx=>?_)
      refine A2u [7,8,10] [0,1,2,3,4,5,6,7,8,9,10] A1w rfl kR ?_
      repeat (first|refine st ?_|refine qb fun bx=>?_)
      refine A0v tab i rfl rfl rfl kR rfl rfl rfl rfl rfl hil ?_
      repeat (first|refine st ?_|refine qb fun bx=>?_)
      refine A8d tab rfl rfl rfl kR rfl hv (A2d tab rfl rfl rfl hc1) ?_
      repeat (first|refine st ?_|refine qb fun bx=>?_)
      refine S_do kR (A3x tab rfl rfl rfl rfl rfl rfl rfl rfl rfl rfl (fun b3 c3 hL=>⟨Le.refl _,kp,?_⟩))
      refine S_do kR (A2w tab (xs:=wdC x) seg [(b3,c3,26)] _ rfl rfl rfl rfl rfl rfl rfl rfl rfl rfl rfl
        (show ∀q,Pal.cnt q ((b3,c3,26)::(seg++[(b7,#[.int .i64 P,.int .i64 F,.slice ao (A1a p (ws.take i)).length co],24),(b4,#[.int .i64 P,.int .i64 F,.slice (some ⟨bb,off,none⟩) ws.length cap],24)]))=Pal.cnt q (seg++([(b3,c3,26)]++[(b7,#[.int .i64 P,.int .i64 F,.slice ao (A1a p (ws.take i)).length co],24),(b4,#[.int .i64 P,.int .i64 F,.slice (some ⟨bb,off,none⟩) ws.length cap],24)]))from cntA)
        hO (fun hb=>RowAt.own hb cntL hL) rfl rfl (by show(2*((A1a p (ws.take i)).length+1)+768)*32≤2^48;omega) oM (fun seg' a' cap' hS'=>⟨Le.refl _,kp,?_⟩))
      repeat (first|refine st ?_|refine qb fun bx=>?_)
      refine A0c ⟨⟨i+1,a',cap',seg'⟩,u,by dsimp only;omega,⟨rfl,rg,?_⟩,Le.refl _,rfl,hil,?_⟩
      · show Subm (seg'++[(b7,#[.int .i64 P,.int .i64 F,.slice a' (A1a p (ws.take (i+1))).length cap'],24),(b4,#[.int .i64 P,.int .i64 F,.slice (some ⟨bb,off,none⟩) ws.length cap],24)]) (seg'++[(b7,#[.int .i64 P,.int .i64 F,.slice a' ((A1a p (ws.take i)).length+1) cap'],24),(b4,#[.int .i64 P,.int .i64 F,.slice (some ⟨bb,off,none⟩) ws.length cap],24)])
        rw [e,List.length_append,List.length_singleton]
        exact cntL
      · dsimp only
        rw [e,List.length_append,List.length_singleton,List.map_append,List.flatten_append]
        exact hS'
    · have hne:(x.who.toNat != p)=false:=by
        replace h:=fa h
        have h:x.who=p:=by first|exact h|exact Classical.not_not.1 h
        rw [bne_eq_false_iff_eq];omega
      clear h
      have e:A1a p (ws.take (i+1))=A1a p (ws.take i):=by rw [htake,A7o,if_neg (by rw [hne];decide)]
      repeat (first|refine st ?_|refine qb fun bx=>?_)
      refine A0c ⟨⟨i+1,ao,co,seg⟩,u,by dsimp only;omega,⟨rfl,rg,?_⟩,Le.refl _,rfl,hil,?_⟩
      · dsimp only
        rw [e]
        exact cntL
      · dsimp only
        rw [e]
        exact hO
  · have hil:i=ws.length:=by have:=of_decide_eq_false h;omega
    clear h
    subst hil
    rw [List.take_length]at hO⊢
    have hol:=A7e (p:=p) (l:=ws)
    have hokO:=(hok.others (p:=p)).snoc oM (own_ok (F:=F) hlt)
    have hok2:=hok.snoc oM (own_ok (F:=F) hlt)
    have hW0:A0g P F (A1a p ws++[⟨p,2,p,0⟩])=[]:=itself_only (y:=⟨p,2,p,0⟩) oM hokO.who8 hlt rfl rfl sM (fun x hx hw=>by
      rcases List.mem_append.1 hx with hx|hx
      · exact absurd hw (A8k hx).2
      · exact List.mem_singleton.1 hx)
    have hW1:∀w∈A0g P F (ws++[⟨p,2,p,0⟩]),bit w.1 p=false:=fun w hw=>itself (y:=⟨p,2,p,0⟩) oM hok2.who8 hlt rfl rfl sM hw
    repeat (first|refine st ?_|refine qb fun bx=>?_)
    refine A0w (β1:=seg) (β2:=[(bx,#[.int .i64 p,.int .i64 2,.int .i64 p,.int .i64 0],26),(b7,#[.int .i64 P,.int .i64 F,.slice ao (A1a p ws).length co],24),(b4,#[.int .i64 P,.int .i64 F,.slice a ws.length cap],24)])
      (show ∀q,Pal.cnt q ((bx,#[.int .i64 p,.int .i64 2,.int .i64 p,.int .i64 0],26)::(seg++[(b7,#[.int .i64 P,.int .i64 F,.slice ao (A1a p ws).length co],24),(b4,#[.int .i64 P,.int .i64 F,.slice a ws.length cap],24)]))=Pal.cnt q (seg++[(bx,#[.int .i64 p,.int .i64 2,.int .i64 p,.int .i64 0],26),(b7,#[.int .i64 P,.int .i64 F,.slice ao (A1a p ws).length co],24),(b4,#[.int .i64 P,.int .i64 F,.slice a ws.length cap],24)])from cntA) (fun hb=>?_)
    have hwo:WdsAt (u.union (A0e seg)) ao (A1a p ws):=A2m hb hO
    replace hws:=hws.le (A0b u (A0e seg))
    generalize u.union (A0e seg)=u1 at hws hwo⊢
    clear hb hO
    repeat (first|refine st ?_|refine qb fun bx=>?_)
    refine Q_op fun ho=>A0i [] _ ho bod64 rfl rfl rfl rfl rfl A1n (with_x (x:=⟨p,2,p,0⟩) (hwo.le (A0b _ _)) oM) (fun x β' hR=>?_)
    clear ho
    obtain⟨aN,cN,rfl,hSN⟩:=hR
    refine A0w (β1:=β') (β2:=_) (fun _=>rfl) (fun hb=>?_)
    have hwN:WdsAt (u1.union (A0e β')) aN (A1a p ws++[⟨p,2,p,0⟩]):=A2m hb hSN
    replace hws:=hws.le (A0b u1 (A0e β'))
    generalize u1.union (A0e β')=u2 at hws hwN⊢
    clear hb hSN hwo
    refine Q_op fun ho=>A0s ho bod25 rfl rfl rfl rfl rfl (count_r hokO hwN) ?_
    clear ho
    rw [hW0]
    repeat (first|refine st ?_|refine qb fun bx=>?_)
    refine Q_op fun ho=>A0i [] _ ho bod64 rfl rfl rfl rfl rfl A1n (with_x (x:=⟨p,2,p,0⟩) (hws.le (A0b _ _)) oM) (fun x β' hR=>?_)
    clear ho
    obtain⟨aM,cM,rfl,hSM⟩:=hR
    refine A0w (β1:=β') (β2:=_) (fun _=>rfl) (fun hb=>?_)
    have hwM:WdsAt (u2.union (A0e β')) aM (ws++[⟨p,2,p,0⟩]):=A2m hb hSM
    replace hws:=hws.le (A0b u2 (A0e β'))
    generalize u2.union (A0e β')=u3 at hws hwM⊢
    clear hb hSM hwN
    refine Q_op fun ho=>A0s ho bod25 rfl rfl rfl rfl rfl (count_r hok2 hwM) ?_
    clear ho
    repeat (first|refine st ?_|refine qb fun bx=>?_)
    refine Q_op fun ho=>A0i [] _ ho bod64 rfl rfl rfl rfl rfl A1n (with_x (x:=⟨p,2,p,0⟩) (hws.le (A0b _ _)) oM) (fun x β' hR=>?_)
    clear ho
    obtain⟨aL,cL,rfl,hSL⟩:=hR
    refine A0w (β1:=β') (β2:=_) (fun _=>rfl) (fun hb=>?_)
    have hwL:WdsAt (u3.union (A0e β')) aL (ws++[⟨p,2,p,0⟩]):=A2m hb hSL
    replace hws:=hws.le (A0b u3 (A0e β'))
    generalize u3.union (A0e β')=u4 at hws hwL⊢
    clear hb hSL hwM
    by_cases hm:A0g P F (ws++[⟨p,2,p,0⟩])=[]
    · repeat (first|refine st ?_|refine qb fun bx=>?_)
      refine Q_op fun ho=>A0s ho bod41 rfl rfl rfl rfl rfl (person_v hok2 hwL hlt hm) ?_
      clear ho
      rw [hm]
      repeat (first|refine st ?_|refine qb fun bx=>?_)
      refine Q_op fun ho=>A0i [] _ ho bod64 rfl rfl rfl rfl rfl A1n (with_x (x:=⟨p,2,p,0⟩) (hws.le (A0b _ _)) oM) (fun x β' hR=>?_)
      clear ho
      obtain⟨aK,cK,rfl,hSK⟩:=hR
      refine A0w (β1:=β') (β2:=_) (fun _=>rfl) (fun hb=>?_)
      have hwK:WdsAt (u4.union (A0e β')) aK (ws++[⟨p,2,p,0⟩]):=A2m hb hSK
      generalize u4.union (A0e β')=u5 at hwK⊢
      clear hb hSK hwL
      repeat (first|refine st ?_|refine qb fun bx=>?_)
      refine Q_op fun ho=>A0i [] _ ho bod61 rfl rfl rfl rfl rfl A1n (If_x (hwK.le (A0b _ _)) (by rw [List.length_append];show ws.length+1<2^30;omega)) (fun x β' hR=>?_)
      clear ho
      obtain⟨t,rfl,hT⟩:=hR
      rw [errI_v hok2 hlt hW1]
      obtain⟨βx,βy,x,y,rfl,⟨ax,cx,rfl,-⟩,⟨ay,cy,rfl,-⟩,rfl⟩:=hT
      repeat (first|refine st ?_|refine qb fun bx=>?_)
      refine Q_op fun ho=>A0s ho bod21 rfl rfl rfl rfl rfl A9k ?_
      clear ho
      repeat (first|refine st ?_|refine qb fun bx=>?_)
      exact⟨rfl,rfl,rfl⟩
    · have hn:0<(A0g P F (ws++[⟨p,2,p,0⟩])).length:=List.length_pos_iff.2 hm
      repeat (first|refine st ?_|refine qb fun bx=>?_)
      refine Q_op fun ho=>A0s ho bod41 rfl rfl rfl rfl rfl (person_r hok2 hwL hlt hn) ?_
      clear ho
      rw [show verd (someL false (A0g P F (ws++[⟨p,2,p,0⟩]))) (fun w=>bit w.1 p)=2 from verd_never hW1]
      repeat (first|refine st ?_|refine qb fun bx=>?_)
      refine Q_op fun ho=>A0i [] _ ho bod64 rfl rfl rfl rfl rfl A1n (with_x (x:=⟨p,2,p,0⟩) (hws.le (A0b _ _)) oM) (fun x β' hR=>?_)
      clear ho
      obtain⟨aK,cK,rfl,hSK⟩:=hR
      refine A0w (β1:=β') (β2:=_) (fun _=>rfl) (fun hb=>?_)
      have hwK:WdsAt (u4.union (A0e β')) aK (ws++[⟨p,2,p,0⟩]):=A2m hb hSK
      generalize u4.union (A0e β')=u5 at hwK⊢
      clear hb hSK hwL
      repeat (first|refine st ?_|refine qb fun bx=>?_)
      refine Q_op fun ho=>A0i [] _ ho bod61 rfl rfl rfl rfl rfl A1n (If_x (hwK.le (A0b _ _)) (by rw [List.length_append];show ws.length+1<2^30;omega)) (fun x β' hR=>?_)
      clear ho
      obtain⟨t,rfl,hT⟩:=hR
      rw [errI_v hok2 hlt hW1]
      obtain⟨βx,βy,x,y,rfl,⟨ax,cx,rfl,-⟩,⟨ay,cy,rfl,-⟩,rfl⟩:=hT
      repeat (first|refine st ?_|refine qb fun bx=>?_)
      refine A6d rfl rfl (fun h=>?_) (fun h=>?_)
      · exfalso
        have h:=eq_of_beq h
        omega
      · clear h
        repeat (first|refine st ?_|refine qb fun bx=>?_)
        refine A6d rfl rfl (fun h=>?_) (fun h=>?_)
        · clear h
          repeat (first|refine st ?_|refine qb fun bx=>?_)
          refine Q_op fun ho=>A0s ho bod21 rfl rfl rfl rfl rfl A9k ?_
          clear ho
          repeat (first|refine st ?_|refine qb fun bx=>?_)
          exact⟨rfl,rfl,rfl⟩
        · exfalso
          have h:=of_decide_eq_false h
          omega
end Go.Proofs.YtiolobmgibdfmaaGreat
end
section
namespace Go.Proofs.YtiolobmgibdfmaaGreat
open Go Go.ChangeShapes
theorem A1c{a b:Bool}(ha:a=true)(hb:b=true):(a&&b)=true:=by rw [ha,hb];rfl
theorem j16_0:(Rows.vouchItselfRow.wf (OpenSpec.ofChange Rows.vouchItselfSpec))=true:=by kernel_rfl
theorem j16_1:(laidOutB Tryz.prog)=true:=by kernel_rfl
theorem j16_2:(mapsRowed Tryz.prog)=true:=by kernel_rfl
theorem j16_3:(Tryz.f16.params.all (Tryz.prog.readableRec ·))=true:=by kernel_rfl
theorem j16_4:(namedTie Tryz.prog Rows.vouchItselfRow.named Rows.vouchItselfSpec.vars)=true:=by kernel_rfl
theorem j16_5:((Rows.vouchItselfRow.stops == []))=true:=by kernel_rfl
theorem j16_6:((Tryz.prog.stops == []))=true:=by kernel_rfl
theorem j16_7:((Rows.vouchItselfRow.knobs == []))=true:=by kernel_rfl
theorem j16_8:((Tryz.prog.stopKnobs == []))=true:=by kernel_rfl
theorem j16_9:((Rows.vouchItselfRow.inPlace==Tryz.prog.inPlace 16))=true:=by kernel_rfl
theorem j16_10:((Rows.vouchItselfRow.unfollowed==Tryz.prog.unfollowed 16))=true:=by kernel_rfl
theorem j16_11:((Rows.vouchItselfRow.recurses==Tryz.prog.recurses 16))=true:=by kernel_rfl
theorem j16_12:((Rows.vouchItselfRow.named==Tryz.prog.varsNamed 16))=true:=by kernel_rfl
theorem j16_13:((Rows.vouchItselfRow.maps==(Tryz.f16.params.toList++Rows.vouchItselfSpec.plain.varTypes Tryz.prog).any (Tryz.prog.mapsRec ·)))=true:=by kernel_rfl
theorem j16_14:((Rows.vouchItselfRow.ifaces==(Tryz.f16.params.toList++Rows.vouchItselfSpec.plain.varTypes Tryz.prog).any (Tryz.prog.ifacesRec ·)))=true:=by kernel_rfl
theorem j16_15:((Rows.vouchItselfRow.mapsOut==Tryz.prog.mapsAmong Tryz.f16.resultTypes.toList))=true:=by kernel_rfl
theorem j16_16:((Rows.vouchItselfRow.loops==(Tryz.f16.params.toList++Rows.vouchItselfSpec.plain.varTypes Tryz.prog).any (Tryz.prog.loopsFrom ·)))=true:=by kernel_rfl
theorem j16_17:((Rows.vouchItselfRow.wideKeys==(Tryz.f16.params.toList++Rows.vouchItselfSpec.plain.varTypes Tryz.prog++Tryz.f16.resultTypes.toList).any (Tryz.prog.wideKeysFrom ·)))=true:=by kernel_rfl
theorem j16_18:(Rows.vouchItselfSpec.vars.all (Tryz.prog.varReadable ·))=true:=by kernel_rfl
theorem j16_19:(Tryz.f16.resultTypes.all (fun t=>Tryz.prog.readableRec t&&decide (t<Tryz.prog.types.size)))=true:=by kernel_rfl
theorem j16_20:((Rows.vouchItselfRow.ifacesOut==Tryz.f16.resultTypes.toList.any (Tryz.prog.ifacesRec ·)))=true:=by kernel_rfl
theorem j16_21:((Rows.vouchItselfRow.loopsOut==Tryz.f16.resultTypes.toList.any (Tryz.prog.loopsFrom ·)))=true:=by kernel_rfl
theorem j16_22:((Rows.vouchItselfRow.plainKeys==Tryz.prog.plainKeys))=true:=by kernel_rfl
theorem j16_23:(Rows.vouchItselfRow.shortTexts.isNone)=true:=by kernel_rfl
theorem j16_24:(Tryz.prog.stopsHeard)=true:=by kernel_rfl
theorem j16_25:(Tryz.prog.mayEnter)=true:=by kernel_rfl
theorem j16_26:((Rows.vouchItselfRow.lifted==Tryz.prog.liftsFinal))=true:=by kernel_rfl
theorem j16_27:((Tryz.prog.make==some Rows.vouchItselfRow.make))=true:=by kernel_rfl
theorem j16_28:((Rows.vouchItselfRow.kinds==(if Rows.vouchItselfRow.domain.isEmpty then []else Tryz.f16.params.toList.map fun t=>match Tryz.prog.underlying t with|some (.int k)=>some k|_=>none)))=true:=by kernel_rfl
theorem j16_29:((Rows.vouchItselfRow.pinned==Rows.vouchItselfRow.pinnedBy))=true:=by kernel_rfl
theorem j16_30:((Rows.vouchItselfRow.veiled==(Tryz.f16.params.toList++Rows.vouchItselfSpec.plain.varTypes Tryz.prog++Tryz.f16.resultTypes.toList).any (Tryz.prog.veiledRec ·)))=true:=by kernel_rfl
theorem j16_31:(Rows.vouchItselfRow.veiledFits Tryz.prog Tryz.f16.params.toList (Tryz.f16.params.toList++Rows.vouchItselfSpec.plain.varTypes Tryz.prog++Tryz.f16.resultTypes.toList))=true:=by kernel_rfl
set_option maxRecDepth 100000 in
theorem j16:joinedFacts Tryz.prog 16 Tryz.f16 Rows.vouchItselfSpec Rows.vouchItselfRow=true:=A1c (A1c (A1c (A1c (A1c (A1c (A1c (A1c (A1c (A1c (A1c (A1c (A1c (A1c (A1c (A1c (A1c (A1c (A1c (A1c (A1c (A1c (A1c (A1c (A1c (A1c (A1c (A1c (A1c (A1c (A1c (j16_0) j16_1) j16_2) j16_3) j16_4) j16_5) j16_6) j16_7) j16_8) j16_9) j16_10) j16_11) j16_12) j16_13) j16_14) j16_15) j16_16) j16_17) j16_18) j16_19) j16_20) j16_21) j16_22) j16_23) j16_24) j16_25) j16_26) j16_27) j16_28) j16_29) j16_30) j16_31
end Go.Proofs.YtiolobmgibdfmaaGreat
end
section
namespace Go.Proofs.YtiolobmgibdfmaaGreat
open Go Go.Pal Go.Conc Go.ConcM Go.RowKit Go.ChangeShapes Go.WideShapes Go.ChangeAt
theorem B0f:ownKnob Tryz.prog.godebug=none:=by kernel_rfl
set_option maxRecDepth 100000 in
theorem itself_lifted(os:Os)(started:os.Started)(H:Type)(enc:TypeId×Value→H)(F:Stop.Interp) :
    ReturnsInLeavingWide Rows.vouchItselfRow.assume Tryz.checked os 16 .any (Rows.vouchItselfSpec.pre6 enc Tryz.prog Tryz.f16 Rows.vouchItselfRow.domain false) ((OpenSpec.ofChange Rows.vouchItselfSpec).postWith enc Tryz.prog Tryz.f16 F (outsideKept [.timePasses]) false true false):=by
  refine returnsInLeavingWide_of_change_time (C:=Tryz.checked) B0f started Tryz.func16
    (ChangeSpec.witness6c (enc:=enc) (C:=Tryz.checked) ⟨#[],#[.slice none 0 0],[]⟩ 8 kR kR kR kR) ?_
  intro W base args ds gs before hval0 hW _ _ hass
  have hval:∀(j:Nat) t v,Tryz.f16.params[j]?=some t→args[j]?=some v→Value.okWide Tryz.prog W .any base t v:=hval0
  have hW':=hW
  obtain⟨p,q,hA0,hV,rfl,_,_⟩:=hW
  have hA:DataW.TrodAll enc Tryz.prog W 0 (fun _=>true) true Tryz.f16.params.toList args.toList ds p:=hA0
  rw [Tryz.params16]at hA hval
  obtain⟨v0,d0,rfl,rfl,h0⟩:=trodAll_one hA
  obtain⟨rfl,rfl⟩:=trodVars_none hV
  clear hA0 hval0
  simp only [List.append_nil]at hW'
  have hlt:∀x∈p,x.block<W.heap.size:=fun x hx=>by simpa using hW'.lt x hx
  obtain⟨a0,cap,ns,v,rfl,hag,hro,hns,hargs⟩:=B3a (hval 0 27 v0 rfl rfl) h0 hlt
  have hcalm:Calm W.tape:=hass.2.1 rfl
  obtain⟨M,last,o,w',t',r1,r2,r3,v',e,hp,g1,g2,g3,g4⟩:=law_run (P:=Tryz.prog) (W:=W) (v:=v) (args:=[.slice a0 ns.length cap]) Tryz.func16 rfl kR hag hro hcalm (itself_run hns)
  refine⟨M,last,o,w',t',r1,r2,r3,v',e,⟨?_,hp.2.2⟩,g1,g2,g3,g4⟩
  obtain⟨rfl,hbel,hos⟩:=hp
  exact⟨_,_,_,[],p,[],hW',trodAll_mk1 (shut_bool Tryz.underlying4 true),trodAll_mk1 (hargs _ hbel),rfl,hbel.frame _,fun h=>by cases h⟩
theorem itself_said:Rows.VouchItselfSaid:=
  OpenClaim.holds_of_wide_leaving_time 16 Tryz.f16 rfl rfl rfl rfl rfl rfl rfl ⟨rfl,rfl,rfl,rfl,rfl⟩ rfl rfl rfl rfl rfl kR Tryz.func16 j16
    (of_decide_eq_true kR) (by unfold Func.isWrapper;first|(rw [if_pos (by decide +kernel)];kernel_rfl)|(rw [if_neg (by decide +kernel)];exact⟨rfl,rfl⟩))
    (fun os started H enc _ F=>itself_lifted os started H enc F)
end Go.Proofs.YtiolobmgibdfmaaGreat
end
#print axioms Go.Proofs.YtiolobmgibdfmaaGreat.itself_said
