/- 'palfreylaw06.VouchAccused' returns true for every list of numbers, whatever the goroutines of its calls do, and the list reads as it did, as its row says it. No condition. -/
import Derived.JoinedOf
import Derived.KernelRfl
import Derived.Test.YtiolobmgibdfmaaGreatRows
import Derived.Test.YtiolobmgibdfmaaGreatPbc
import Derived.Test.YtiolobmgibdfmaaGreatPbd
set_option linter.unusedVariables false
set_option linter.unusedSimpArgs false
section
namespace Go.Proofs.YtiolobmgibdfmaaGreat
open Go Go.Pal Go.Pal.Vo Go.Conc View
open Go.Proofs.Tryz
set_option maxHeartbeats 4000000
set_option maxRecDepth 20000
theorem rem_val{p k P:Nat}(hP:0<P):A6l tab .rem 3 (.int .i64 ((p:Int)+(k:Int))) (.int .i64 P)=some (.int .i64 (((p+k) % P:Nat):Int)):=by
  show(if(P:Int)=0 then none else some (Value.int .i64 (Int.tmod ((p:Int)+(k:Int)) P)))=_
  rw [if_neg oM,←Int.natCast_add,←Int.ofNat_tmod]
theorem mod_ne{p k P:Nat}(hp:p<P)(hk:1≤k)(hk':k≤P-1):(p+k) % P≠p∧(p+k) % P<P:=by
  refine⟨?_,Nat.mod_lt _ oM⟩
  by_cases h:p+k<P
  · rw [Nat.mod_eq_of_lt h];omega
  · rw [Nat.mod_eq_sub_mod oM,Nat.mod_eq_of_lt oM];omega
theorem holds5{P:Nat}{u a b:Int}{w:Wl}:A4h P ⟨u,5,a,b⟩ w=(bit w.1 a.toNat==bit w.1 b.toNat):=by simp [A4h]
theorem holds2{P:Nat}{u a b:Int}{w:Wl}:A4h P ⟨u,2,a,b⟩ w=!bit w.1 a.toNat:=by simp [A4h]
theorem holds3{P:Nat}{u a b:Int}{w:Wl}:A4h P ⟨u,3,a,b⟩ w=bit w.1 a.toNat:=by simp [A4h]
theorem acc_holds{P p o:Nat}{w:Wl}(hne:o≠p):A4h P ⟨p,5,if(o:Int)<p then(o:Int)else p,if(p:Int)<o then(o:Int)else p⟩ w=(bit w.1 p==bit w.1 o):=by
  rw [holds5]
  by_cases h:(o:Int)<p
  · rw [if_pos h,if_neg oM,Int.toNat_natCast,Int.toNat_natCast]
    cases bit w.1 p<;>cases bit w.1 o<;>rfl
  · rw [if_neg h,if_pos oM,Int.toNat_natCast,Int.toNat_natCast]
theorem acc_bit{P F p o:Nat}{kd:Int}{ws:List Wd}(h:VOk P F (⟨p,kd,o,0⟩::A1a p ws))(hp:p<P){w:Wl}(hw:w∈A0g P F (⟨p,kd,o,0⟩::A1a p ws)):bit w.1 p=A4h P ⟨p,kd,o,0⟩ w:=by
  have h4:=h.p4
  exact only (y:=⟨p,kd,o,0⟩) oM h.who8 hp (fun x hx=>(A8k hx).2) hw
theorem acc_law{P F p o:Nat}{kd due:Int}{ws:List Wd}(h:VOk P F (⟨p,kd,o,0⟩::A1a p ws))(hp:p<P)(hne:o≠p)(hk:(kd=2∧due=2)∨(kd=3∧due=1))(hn:0<(A0g P F (⟨p,kd,o,0⟩::A1a p ws)).length) :
    verd (A0g P F (⟨p,kd,o,0⟩::A1a p ws)) (A4h P ⟨p,5,if(o:Int)<p then(o:Int)else p,if(p:Int)<o then(o:Int)else p⟩)=due:=by
  rcases hk with ⟨rfl,rfl⟩|⟨rfl,rfl⟩
  · refine verd_never fun w hw=>?_
    rw [acc_holds hne,acc_bit h hp hw,holds2,Int.toNat_natCast]
    cases bit w.1 o<;>rfl
  · refine(A9w (List.length_pos_iff.1 hn)).2 fun w hw=>?_
    rw [acc_holds hne,acc_bit h hp hw,holds3,Int.toNat_natCast]
    cases bit w.1 o<;>rfl
theorem accused_run{v:View}{a0:Option Addr}{cap0:Nat}{ns:List Int}(hns:RowAt v a0 (ns.map (.int .i64))):Run prog ⟨true,true⟩ (AtTop 7 2) v (G (Frame.enter prog 7 (List.toArray [.slice a0 ns.length cap0]) .normal) []):=by
  refine top_run func7 rfl nB ?_
  repeat (first|refine st ?_|refine qb fun bx=>?_)
  refine Q_op fun ho=>A0i [] _ ho bod23 rfl rfl rfl rfl rfl A1n (newBag_x) (fun x β' hR=>?_)
  clear ho
  obtain⟨b,rfl,hB⟩:=hR
  rename A0j=>β1
  repeat (first|refine st ?_|refine qb fun bx=>?_)
  refine A2f (bin:=β1) (by repeat (first|(with_reducible exact A0k)|(with_reducible exact A0u)|(with_reducible exact A1e)|(with_reducible apply A0y))) ?_
  refine Q_op fun ho=>A0i β1 _ ho bod40 rfl rfl rfl rfl rfl A0k (B1e (g:=⟨b,a0,cap0,ns⟩) (P0:=4) (F0:=3) (wl:=6) (RowAt.le hns (A0b _ _)) hB dM ⟨by decide,by decide⟩ dM dM) (fun x β' hR=>?_)
  clear ho hB
  obtain⟨P,F,ws,tr,so,a,a1,a2,cap,c1,c2,β0,βw,βt,βs,hS⟩:=hR
  obtain rfl:=hS.val
  obtain rfl:=hS.box
  refine A0w (β1:=βw++(βt++βs)) (β2:=β0) cntA (fun hb=>?_)
  have hws:WdsAt (v.union (A0e (βw++(βt++βs)))) a ws:=RowAt.own hb (show Subm βw (βw++(βt++βs))from cntL) hS.hw
  have hr:RowAt (v.union (A0e (βw++(βt++βs)))) a0 (ns.map (.int .i64)):=RowAt.le hns (A0b _ _)
  generalize v.union (A0e (βw++(βt++βs)))=u at hws hr⊢
  have hok:VOk P F ws:=⟨hS.p1,hS.p4,hS.f3,Nat.le_trans hS.w7 dM,hS.all⟩
  have h7:=hS.w7
  have hB:=hS.on
  clear hb hS hns
  have h1:=hok.p1
  have h4:=hok.p4
  repeat (first|refine st ?_|refine qb fun bx=>?_)
  rename_i b4
  refine A0t rfl (fun h=>?_) (fun h=>?_)
  · clear h
    repeat (first|refine st ?_|refine qb fun bx=>?_)
    refine Q_op fun ho=>A0s ho bod21 rfl rfl rfl rfl rfl A9k ?_
    clear ho
    repeat (first|refine st ?_|refine qb fun bx=>?_)
    exact⟨rfl,rfl,rfl⟩
  have hP2:2≤P:=by have:=of_decide_eq_false h;omega
  clear h
  repeat (first|refine st ?_|refine qb fun bx=>?_)
  refine A2f (bin:=β0) (by repeat (first|(with_reducible exact A0k)|(with_reducible exact A0u)|(with_reducible exact A1e)|(with_reducible apply A0y))) ?_
  refine Q_op fun ho=>A0i β0 _ ho A8c rfl rfl rfl rfl rfl A0k (by rw [show(P:Int)-1=((P-1:Nat):Int) by omega];exact A4y (g:=⟨b,a0,cap0,ns⟩) (RowAt.le hr (A0b _ _)) hB dM (P-1) oM) (fun x β' hR=>?_)
  clear ho
  clear hB
  rename A0j=>β2
  obtain⟨⟨p,rfl,hp⟩,hB⟩:=hR
  have hlt:p<P:=oM
  repeat (first|refine st ?_|refine qb fun bx=>?_)
  refine A2u [5] [0,1,2,3,4,7,8,5,6,9,10] A1w rfl kR ?_
  repeat (first|refine st ?_|refine qb fun bx=>?_)
  refine S_do kR (A0i β2 _ rfl bod44 rfl rfl rfl rfl rfl A0k (by rw [show(1:Int)=((1:Nat):Int)from rfl,show(P:Int)-((1:Nat):Int)=((P-1:Nat):Int) by omega];exact among_n (g:=⟨b,a0,cap0,ns⟩) (RowAt.le hr (A0b _ _)) hB dM 1 (P-1) oM oM) (fun x β' hR=>⟨Le.refl _,?_,?_⟩))
  · exact kp
  clear hB
  rename A0j=>β3
  obtain⟨⟨k,rfl,hk1,hk2⟩,hB⟩:=hR
  repeat (first|refine st ?_|refine qb fun bx=>?_)
  refine S_pure tab (x:=.int .i64 (((p+k) % P:Nat):Int)) rfl rfl rfl kR (rem_val oM) ?_
  obtain⟨ho1,ho2⟩:=mod_ne hlt hk1 hk2
  generalize (p+k) % P=o at ho1 ho2⊢
  clear hk1 hk2
  repeat (first|refine sr ?_|refine qb fun bx=>?_)
  refine A6f (fun σ w=>w=u∧∃kd due:Int,((kd=2∧due=2)∨(kd=3∧due=1))∧σ=⟨[],[(9,.int .i64 due),(8,.int .i64 kd),(7,.int .i64 o),(6,.int .i64 p),(4,.pointer (some ⟨b4,0,none⟩))],[(b4,#[.int .i64 P,.int .i64 F,.slice a ws.length cap],24)]⟩) ?_ ?_
  · rintro σ w ⟨rfl,kd,due,hkd,rfl⟩
    repeat (first|refine st ?_|refine qb fun bx=>?_)
    refine Q_op fun ho=>A3x tab ho rfl rfl rfl rfl rfl rfl rfl rfl rfl (fun b3 c3 hL=>?_)
    clear ho
    have hy:A2k P F ⟨p,kd,o,0⟩=0:=A2o oM oM
    repeat (first|refine st ?_|refine qb fun bx=>?_)
    refine A1o (α:=It1) (fun z=>⟨[],[(11,.int .i64 z.i),(10,.slice z.a ((A1a p (ws.take z.i)).length+1) z.c),(9,.int .i64 due),(7,.int .i64 o),(6,.int .i64 p),(4,.pointer (some ⟨b4,0,none⟩))],z.seg++[(b4,#[.int .i64 P,.int .i64 F,.slice a ws.length cap],24)]⟩)
      (fun z x=>w=x∧z.i≤ws.length∧OwnS 26 4 z.seg z.a ((A1a p (ws.take z.i)).length+1) z.c (((⟨p,kd,o,0⟩:Wd)::A1a p (ws.take z.i)).map wdC).flatten) (fun z=>ws.length-z.i) ⟨0,some ⟨b3,0,none⟩,1,[(b3,c3,26)]⟩ ⟨rfl,rg,cntL⟩ (Le.refl _) ⟨rfl,Nat.zero_le _,hL⟩ ?_
    rintro⟨i,ao,co,seg⟩ x ⟨rfl,hi,hO⟩
    dsimp only at hi hO⊢
    repeat (first|refine st ?_|refine qb fun bx=>?_)
    refine A0t rfl (fun h=>?_) (fun h=>?_)
    · have hil:i<ws.length:=by have:=of_decide_eq_true h;omega
      clear h
      obtain⟨bb,off,q,c,e,f,rfl,hv,hc⟩:=hws.field hil
      obtain⟨hc1,hc2⟩:=hc i hil
      have hwho:=(hok.who (List.getElem_mem hil)).2
      have htake:ws.take (i+1)=ws.take i++[ws[i]]:=List.take_succ_eq_append_getElem hil
      have hol:=A7e (p:=p) (l:=ws.take i)
      rw [List.length_take]at hol
      generalize ws[i]=x at hc1 hc2 hwho htake
      repeat (first|refine st ?_|refine qb fun bx=>?_)
      refine A2t tab i rfl rfl rfl rfl rfl rfl rfl hil ?_
      repeat (first|refine st ?_|refine qb fun bx=>?_)
      refine A2p tab rfl rfl rfl hv (A1b tab rfl rfl rfl hc2) ?_
      repeat (first|refine st ?_|refine qb fun bx=>?_)
      refine A0t rfl (fun h=>?_) (fun h=>?_)
      · have hne:(x.who.toNat != p)=true:=by
          replace h:=fa h
          rw [bne_iff_ne];intro e;exact h (by rw [hwho,e])
        clear h
        have e:A1a p (ws.take (i+1))=A1a p (ws.take i)++[x]:=by rw [htake,A7o,if_pos hne]
        repeat (first|refine st ?_|refine qb fun bx=>?_)
        refine A2t tab i rfl rfl rfl rfl rfl rfl rfl hil ?_
        repeat (first|refine st ?_|refine qb fun bx=>?_)
        refine A2p tab rfl rfl rfl hv (A2d tab rfl rfl rfl hc1) ?_
        refine Q_op fun ho=>A3x tab ho rfl rfl rfl rfl rfl rfl rfl rfl rfl (fun b3 c3 hL=>?_)
        refine Q_op fun ho=>A2w tab (xs:=wdC x) seg [(b3,c3,26)] _ ho rfl rfl rfl rfl rfl rfl rfl rfl rfl rfl
          (show ∀q,Pal.cnt q ((b3,c3,26)::(seg++[(b4,#[.int .i64 P,.int .i64 F,.slice (some ⟨bb,off,none⟩) ws.length cap],24)]))=Pal.cnt q (seg++([(b3,c3,26)]++[(b4,#[.int .i64 P,.int .i64 F,.slice (some ⟨bb,off,none⟩) ws.length cap],24)]))from cntA)
          hO (fun hb=>RowAt.own hb cntL hL) rfl rfl (by show(2*(((A1a p (ws.take i)).length+1)+1)+768)*32≤2^48;omega) oM (fun seg' a' cap' hS'=>?_)
        clear ho
        repeat (first|refine st ?_|refine qb fun bx=>?_)
        refine A0c ⟨⟨i+1,a',cap',seg'⟩,w,by dsimp only;omega,⟨rfl,?_,cntL⟩,Le.refl _,rfl,hil,?_⟩
        · dsimp only
          rw [e,List.length_append,List.length_singleton]
          exact rg
        · dsimp only
          rw [e,List.length_append,List.length_singleton,←List.cons_append,List.map_append,List.flatten_append]
          exact hS'
      · have hne:(x.who.toNat != p)=false:=by
          replace h:=fa h
          have h:x.who=p:=by first|exact h|exact Classical.not_not.1 h
          rw [bne_eq_false_iff_eq];omega
        clear h
        have e:A1a p (ws.take (i+1))=A1a p (ws.take i):=by rw [htake,A7o,if_neg (by rw [hne];decide)]
        repeat (first|refine st ?_|refine qb fun bx=>?_)
        refine A0c ⟨⟨i+1,ao,co,seg⟩,w,by dsimp only;omega,⟨rfl,?_,cntL⟩,Le.refl _,rfl,hil,?_⟩
        · dsimp only
          rw [e]
          exact rg
        · dsimp only
          rw [e]
          exact hO
    · have hil:i=ws.length:=by have:=of_decide_eq_false h;omega
      clear h
      subst hil
      rw [List.take_length]at hO⊢
      have hol:=A7e (p:=p) (l:=ws)
      have hokO:VOk P F (⟨p,kd,o,0⟩::A1a p ws):=⟨hok.p1,hok.p4,hok.f3,by rw [List.length_cons];omega,fun x hx=>by
        rcases List.mem_cons.1 hx with rfl|hx
        · exact hy
        · exact hok.all x (A8k hx).1⟩
      repeat (first|refine st ?_|refine qb fun bx=>?_)
      refine A0w (β1:=seg) (β2:=_) (fun _=>rfl) (fun hb=>?_)
      have hwo:WdsAt (w.union (A0e seg)) ao (⟨p,kd,o,0⟩::A1a p ws):=A2m hb hO
      generalize w.union (A0e seg)=u1 at hwo⊢
      clear hb hO hws
      have hC:=count_r (cap:=co) hokO hwo
      rw [show(⟨p,kd,o,0⟩::A1a p ws:List Wd).length=(A1a p ws).length+1 from rfl]at hC
      refine Q_op fun ho=>A0s ho bod25 rfl rfl rfl rfl rfl hC ?_
      clear ho
      have hsame:A2k P F ⟨p,5,if(o:Int)<p then(o:Int)else p,if(p:Int)<o then(o:Int)else p⟩=0:=by
        by_cases h:(o:Int)<p
        · rw [if_pos h,if_neg oM];exact A2o oM oM
        · rw [if_neg h,if_pos oM];exact A2o oM oM
      by_cases hm:A0g P F (⟨p,kd,o,0⟩::A1a p ws)=[]
      · rw [hm]
        repeat (first|refine st ?_|refine qb fun bx=>?_)
        have hC:=follows_v (cap:=co) hokO hwo hsame hm
        rw [show(⟨p,kd,o,0⟩::A1a p ws:List Wd).length=(A1a p ws).length+1 from rfl]at hC
        refine Q_op fun ho=>A0s ho bod42 rfl rfl rfl rfl rfl hC ?_
        clear ho
        repeat (first|refine st ?_|refine qb fun bx=>?_)
        refine Q_op fun ho=>A0s ho bod21 rfl rfl rfl rfl rfl A9k ?_
        clear ho
        repeat (first|refine st ?_|refine qb fun bx=>?_)
        exact⟨rfl,rfl,rfl⟩
      · have hn:0<(A0g P F (⟨p,kd,o,0⟩::A1a p ws)).length:=List.length_pos_iff.2 hm
        repeat (first|refine st ?_|refine qb fun bx=>?_)
        have hC:=follows_r (cap:=co) hokO hwo hsame hn
        rw [acc_law hokO hlt ho1 hkd hn,show(⟨p,kd,o,0⟩::A1a p ws:List Wd).length=(A1a p ws).length+1 from rfl]at hC
        refine Q_op fun ho=>A0s ho bod42 rfl rfl rfl rfl rfl hC ?_
        clear ho
        repeat (first|refine st ?_|refine qb fun bx=>?_)
        refine A0t rfl (fun h=>?_) (fun h=>?_)
        · exfalso
          have h:=eq_of_beq h
          omega
        · clear h
          repeat (first|refine st ?_|refine qb fun bx=>?_)
          refine A6d rfl rfl (fun h=>?_) (fun h=>?_)
          · clear h
            repeat (first|refine st ?_|refine qb fun bx=>?_)
            refine Q_op fun ho=>A0s ho bod21 rfl rfl rfl rfl rfl A9k ?_
            clear ho
            repeat (first|refine st ?_|refine qb fun bx=>?_)
            exact⟨rfl,rfl,rfl⟩
          · exfalso
            rw [beq_self_eq_true]at h
            cases h
  · repeat (first|refine st ?_|refine qb fun bx=>?_)
    refine A2f (bin:=β3) (by repeat (first|(with_reducible exact A0k)|(with_reducible exact A0u)|(with_reducible exact A1e)|(with_reducible apply A0y))) ?_
    refine Q_op fun ho=>A0i β3 _ ho bod45 rfl rfl rfl rfl rfl A0k (B3b (g:=⟨b,a0,cap0,ns⟩) (RowAt.le hr (A0b _ _)) hB dM 2 oM) (fun x β' hR=>?_)
    clear ho
    obtain⟨⟨t,rfl⟩,-⟩:=hR
    cases t
    · repeat (first|refine st ?_|refine qb fun bx=>?_)
      exact A0c ⟨_,_,⟨rfl,2,2,.inl ⟨rfl,rfl⟩,rfl⟩,⟨rfl,rg,show Subm [(b4,#[.int .i64 P,.int .i64 F,.slice a ws.length cap],24)] (β'++[(bx,#[.slice a1 tr.length c1,.slice a2 so.length c2],38),(b4,#[.int .i64 P,.int .i64 F,.slice a ws.length cap],24)])from cntL⟩,Le.refl _⟩
    · repeat (first|refine st ?_|refine qb fun bx=>?_)
      exact A0c ⟨_,_,⟨rfl,3,1,.inr ⟨rfl,rfl⟩,rfl⟩,⟨rfl,rg,show Subm [(b4,#[.int .i64 P,.int .i64 F,.slice a ws.length cap],24)] (β'++[(bx,#[.slice a1 tr.length c1,.slice a2 so.length c2],38),(b4,#[.int .i64 P,.int .i64 F,.slice a ws.length cap],24)])from cntL⟩,Le.refl _⟩
end Go.Proofs.YtiolobmgibdfmaaGreat
end
section
namespace Go.Proofs.YtiolobmgibdfmaaGreat
open Go Go.ChangeShapes
theorem A1c{a b:Bool}(ha:a=true)(hb:b=true):(a&&b)=true:=by rw [ha,hb];rfl
theorem j7_0:(Rows.vouchAccusedRow.wf (OpenSpec.ofChange Rows.vouchAccusedSpec))=true:=by kernel_rfl
theorem j7_1:(laidOutB Tryz.prog)=true:=by kernel_rfl
theorem j7_2:(mapsRowed Tryz.prog)=true:=by kernel_rfl
theorem j7_3:(Tryz.f7.params.all (Tryz.prog.readableRec ·))=true:=by kernel_rfl
theorem j7_4:(namedTie Tryz.prog Rows.vouchAccusedRow.named Rows.vouchAccusedSpec.vars)=true:=by kernel_rfl
theorem j7_5:((Rows.vouchAccusedRow.stops == []))=true:=by kernel_rfl
theorem j7_6:((Tryz.prog.stops == []))=true:=by kernel_rfl
theorem j7_7:((Rows.vouchAccusedRow.knobs == []))=true:=by kernel_rfl
theorem j7_8:((Tryz.prog.stopKnobs == []))=true:=by kernel_rfl
theorem j7_9:((Rows.vouchAccusedRow.inPlace==Tryz.prog.inPlace 7))=true:=by kernel_rfl
theorem j7_10:((Rows.vouchAccusedRow.unfollowed==Tryz.prog.unfollowed 7))=true:=by kernel_rfl
theorem j7_11:((Rows.vouchAccusedRow.recurses==Tryz.prog.recurses 7))=true:=by kernel_rfl
theorem j7_12:((Rows.vouchAccusedRow.named==Tryz.prog.varsNamed 7))=true:=by kernel_rfl
theorem j7_13:((Rows.vouchAccusedRow.maps==(Tryz.f7.params.toList++Rows.vouchAccusedSpec.plain.varTypes Tryz.prog).any (Tryz.prog.mapsRec ·)))=true:=by kernel_rfl
theorem j7_14:((Rows.vouchAccusedRow.ifaces==(Tryz.f7.params.toList++Rows.vouchAccusedSpec.plain.varTypes Tryz.prog).any (Tryz.prog.ifacesRec ·)))=true:=by kernel_rfl
theorem j7_15:((Rows.vouchAccusedRow.mapsOut==Tryz.prog.mapsAmong Tryz.f7.resultTypes.toList))=true:=by kernel_rfl
theorem j7_16:((Rows.vouchAccusedRow.loops==(Tryz.f7.params.toList++Rows.vouchAccusedSpec.plain.varTypes Tryz.prog).any (Tryz.prog.loopsFrom ·)))=true:=by kernel_rfl
theorem j7_17:((Rows.vouchAccusedRow.wideKeys==(Tryz.f7.params.toList++Rows.vouchAccusedSpec.plain.varTypes Tryz.prog++Tryz.f7.resultTypes.toList).any (Tryz.prog.wideKeysFrom ·)))=true:=by kernel_rfl
theorem j7_18:(Rows.vouchAccusedSpec.vars.all (Tryz.prog.varReadable ·))=true:=by kernel_rfl
theorem j7_19:(Tryz.f7.resultTypes.all (fun t=>Tryz.prog.readableRec t&&decide (t<Tryz.prog.types.size)))=true:=by kernel_rfl
theorem j7_20:((Rows.vouchAccusedRow.ifacesOut==Tryz.f7.resultTypes.toList.any (Tryz.prog.ifacesRec ·)))=true:=by kernel_rfl
theorem j7_21:((Rows.vouchAccusedRow.loopsOut==Tryz.f7.resultTypes.toList.any (Tryz.prog.loopsFrom ·)))=true:=by kernel_rfl
theorem j7_22:((Rows.vouchAccusedRow.plainKeys==Tryz.prog.plainKeys))=true:=by kernel_rfl
theorem j7_23:(Rows.vouchAccusedRow.shortTexts.isNone)=true:=by kernel_rfl
theorem j7_24:(Tryz.prog.stopsHeard)=true:=by kernel_rfl
theorem j7_25:(Tryz.prog.mayEnter)=true:=by kernel_rfl
theorem j7_26:((Rows.vouchAccusedRow.lifted==Tryz.prog.liftsFinal))=true:=by kernel_rfl
theorem j7_27:((Tryz.prog.make==some Rows.vouchAccusedRow.make))=true:=by kernel_rfl
theorem j7_28:((Rows.vouchAccusedRow.kinds==(if Rows.vouchAccusedRow.domain.isEmpty then []else Tryz.f7.params.toList.map fun t=>match Tryz.prog.underlying t with|some (.int k)=>some k|_=>none)))=true:=by kernel_rfl
theorem j7_29:((Rows.vouchAccusedRow.pinned==Rows.vouchAccusedRow.pinnedBy))=true:=by kernel_rfl
theorem j7_30:((Rows.vouchAccusedRow.veiled==(Tryz.f7.params.toList++Rows.vouchAccusedSpec.plain.varTypes Tryz.prog++Tryz.f7.resultTypes.toList).any (Tryz.prog.veiledRec ·)))=true:=by kernel_rfl
theorem j7_31:(Rows.vouchAccusedRow.veiledFits Tryz.prog Tryz.f7.params.toList (Tryz.f7.params.toList++Rows.vouchAccusedSpec.plain.varTypes Tryz.prog++Tryz.f7.resultTypes.toList))=true:=by kernel_rfl
set_option maxRecDepth 100000 in
theorem j7:joinedFacts Tryz.prog 7 Tryz.f7 Rows.vouchAccusedSpec Rows.vouchAccusedRow=true:=A1c (A1c (A1c (A1c (A1c (A1c (A1c (A1c (A1c (A1c (A1c (A1c (A1c (A1c (A1c (A1c (A1c (A1c (A1c (A1c (A1c (A1c (A1c (A1c (A1c (A1c (A1c (A1c (A1c (A1c (A1c (j7_0) j7_1) j7_2) j7_3) j7_4) j7_5) j7_6) j7_7) j7_8) j7_9) j7_10) j7_11) j7_12) j7_13) j7_14) j7_15) j7_16) j7_17) j7_18) j7_19) j7_20) j7_21) j7_22) j7_23) j7_24) j7_25) j7_26) j7_27) j7_28) j7_29) j7_30) j7_31
end Go.Proofs.YtiolobmgibdfmaaGreat
end
section
namespace Go.Proofs.YtiolobmgibdfmaaGreat
open Go Go.Pal Go.Conc Go.ConcM Go.RowKit Go.ChangeShapes Go.WideShapes Go.ChangeAt
theorem B0f:ownKnob Tryz.prog.godebug=none:=by kernel_rfl
set_option maxRecDepth 100000 in
theorem accused_lifted(os:Os)(started:os.Started)(H:Type)(enc:TypeId×Value→H)(F:Stop.Interp) :
    ReturnsInLeavingWide Rows.vouchAccusedRow.assume Tryz.checked os 7 .any (Rows.vouchAccusedSpec.pre6 enc Tryz.prog Tryz.f7 Rows.vouchAccusedRow.domain false) ((OpenSpec.ofChange Rows.vouchAccusedSpec).postWith enc Tryz.prog Tryz.f7 F (outsideKept [.timePasses]) false true false):=by
  refine returnsInLeavingWide_of_change_time (C:=Tryz.checked) B0f started Tryz.func7
    (ChangeSpec.witness6c (enc:=enc) (C:=Tryz.checked) ⟨#[],#[.slice none 0 0],[]⟩ 8 kR kR kR kR) ?_
  intro W base args ds gs before hval0 hW _ _ hass
  have hval:∀(j:Nat) t v,Tryz.f7.params[j]?=some t→args[j]?=some v→Value.okWide Tryz.prog W .any base t v:=hval0
  have hW':=hW
  obtain⟨p,q,hA0,hV,rfl,_,_⟩:=hW
  have hA:DataW.TrodAll enc Tryz.prog W 0 (fun _=>true) true Tryz.f7.params.toList args.toList ds p:=hA0
  rw [Tryz.params7]at hA hval
  obtain⟨v0,d0,rfl,rfl,h0⟩:=trodAll_one hA
  obtain⟨rfl,rfl⟩:=trodVars_none hV
  clear hA0 hval0
  simp only [List.append_nil]at hW'
  have hlt:∀x∈p,x.block<W.heap.size:=fun x hx=>by simpa using hW'.lt x hx
  obtain⟨a0,cap,ns,v,rfl,hag,hro,hns,hargs⟩:=B3a (hval 0 27 v0 rfl rfl) h0 hlt
  have hcalm:Calm W.tape:=hass.2.1 rfl
  obtain⟨M,last,o,w',t',r1,r2,r3,v',e,hp,g1,g2,g3,g4⟩:=law_run (P:=Tryz.prog) (W:=W) (v:=v) (args:=[.slice a0 ns.length cap]) Tryz.func7 rfl kR hag hro hcalm (accused_run hns)
  refine⟨M,last,o,w',t',r1,r2,r3,v',e,⟨?_,hp.2.2⟩,g1,g2,g3,g4⟩
  obtain⟨rfl,hbel,hos⟩:=hp
  exact⟨_,_,_,[],p,[],hW',trodAll_mk1 (shut_bool Tryz.underlying4 true),trodAll_mk1 (hargs _ hbel),rfl,hbel.frame _,fun h=>by cases h⟩
theorem accused_said:Rows.VouchAccusedSaid:=
  OpenClaim.holds_of_wide_leaving_time 7 Tryz.f7 rfl rfl rfl rfl rfl rfl rfl ⟨rfl,rfl,rfl,rfl,rfl⟩ rfl rfl rfl rfl rfl kR Tryz.func7 j7
    (of_decide_eq_true kR) (by unfold Func.isWrapper;first|(rw [if_pos (by decide +kernel)];kernel_rfl)|(rw [if_neg (by decide +kernel)];exact⟨rfl,rfl⟩))
    (fun os started H enc _ F=>accused_lifted os started H enc F)
end Go.Proofs.YtiolobmgibdfmaaGreat
end
#print axioms Go.Proofs.YtiolobmgibdfmaaGreat.accused_said
