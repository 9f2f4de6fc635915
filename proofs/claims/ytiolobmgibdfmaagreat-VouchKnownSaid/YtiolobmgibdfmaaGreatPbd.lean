/- Part 30 of the way to: 'palfreylaw06.VouchKnown' returns true whatever the start and whatever its goroutines do, as its row says it. No condition. -/
import Derived.Test.YtiolobmgibdfmaaGreatPbc
set_option linter.unusedVariables false
set_option linter.unusedSimpArgs false
section
namespace Go.Proofs.YtiolobmgibdfmaaGreat
open Go Go.Pal Go.Pal.Vo Go.Conc View
open Go.Proofs.Tryz
set_option maxHeartbeats 4000000
set_option maxRecDepth 20000
section
variable{P:Program}{mn:Who}{rd:Option Nat}{n:Nat}{Q:Exit→St→View→Prop}{ds:List Deferred}{ρ:Regs}{β:A0l}{v:View}{ops:Array Oper}{i:Nat}{l:List Oper}
theorem A2j{σ:St}(τ:St)(hs:Sub τ σ)(h:XR P mn rd n ops i l Q τ v):XR P mn rd n ops i l Q σ v:=fun hd a hf hb=>
  A3o (h hd a (hs.fits hf) (hs.bok (Le.refl _) hb).1) (hs.bok (Le.refl _) hb).2
end
def tailC:Nat→Option Code→Option Code
  | 0,c=>c
  | n+1,some (.seq _ y)=>tailC n (some y)
  | _,_=>none
theorem B2h{t:Option Code}{y:Code}{n:Nat}{Q:Exit→St→View→Prop}{σ:St}{v:View}(h:∃c,t=some c∧XC prog ⟨true,true⟩ none n c Q σ v)(hy:t=some y):XC prog ⟨true,true⟩ none n y Q σ v:=by
  obtain⟨c,hc,h⟩:=h
  rw [hc]at hy
  cases hy
  exact h
section
theorem known_6{v:View}:∃c,tailC 33 f20.body=some c∧XC prog ⟨true,true⟩ none f20.ntmps c (TopQ 0) ⟨[],[],[]⟩ v:=by
  refine⟨_,rfl,?_⟩
  repeat (first|refine st ?_|refine qb fun bx=>?_)
  refine Q_op fun ho=>A0h [] _ ho A5p rfl rfl rfl rfl rfl A0t (A3k) (fun x β' hR=>?_)
  clear ho
  obtain⟨a,cap,rfl,hS⟩:=hR
  have hc_hws:mareW.length≤cap:=(A1f hS dM).choose_spec.choose_spec.2.2.1
  refine A0j (β1:=β') (β2:=_) (fun _=>rfl) (fun hb=>?_)
  have hws:WdsAt (v.union (A0c (β'))) a mareW:=A0y hb hS
  generalize v.union (A0c (β'))=u1 at *
  clear hb
  clear hS
  refine Q_op fun ho=>A0q ho bod36 rfl rfl rfl rfl rfl (ask_a hws) ?_
  clear ho
  clear hc_hws
  clear hws
  repeat (first|refine st ?_|refine qb fun bx=>?_)
  refine A2j ⟨[],[(12,.int .i64 0),(14,.int .i64 1),(7,.int .i64 0)],_⟩ ⟨rfl,rg,fun p=>Nat.le_refl _⟩ ?_
  refine Q_op fun ho=>A0h [] _ ho A5p rfl rfl rfl rfl rfl A0t (A3k) (fun x β' hR=>?_)
  clear ho
  obtain⟨a,cap,rfl,hS⟩:=hR
  have hc_hws:mareW.length≤cap:=(A1f hS dM).choose_spec.choose_spec.2.2.1
  refine A0j (β1:=β') (β2:=_) (fun _=>rfl) (fun hb=>?_)
  have hws:WdsAt (u1.union (A0c (β'))) a mareW:=A0y hb hS
  generalize u1.union (A0c (β'))=u2 at *
  clear hb
  clear hS
  refine Q_op fun ho=>A0h [] [] ho bod38 rfl rfl rfl rfl rfl cntA (proof_a (v:=u2.union (A0c [])) (RowAt.le hws (A0a _ _))) (fun x β' hR=>?_)
  clear ho
  obtain⟨ap,cp,rfl,hpS⟩:=hR
  rw [A2b]at hpS
  clear hc_hws
  clear hws
  refine A0j (β1:=β') (β2:=_) (fun _=>rfl) (fun hb=>?_)
  have hp:RowAt (u2.union (A0c (β'))) ap ([0].map natV):=hpS
  generalize u2.union (A0c (β'))=u3 at *
  clear hb
  clear hpS
  repeat (first|refine st ?_|refine qb fun bx=>?_)
  refine A2j ⟨[],[(12,.int .i64 0),(14,.int .i64 1),(7,.int .i64 0),(6,.slice ap 1 cp),(9,.int .i64 0)],_⟩ ⟨rfl,rg,fun p=>Nat.le_refl _⟩ ?_
  refine Q_op fun ho=>A0h [] _ ho A5p rfl rfl rfl rfl rfl A0t (A3k) (fun x β' hR=>?_)
  clear ho
  obtain⟨a,cap,rfl,hS⟩:=hR
  have hc_hws:mareW.length≤cap:=(A1f hS dM).choose_spec.choose_spec.2.2.1
  refine A0j (β1:=β') (β2:=_) (fun _=>rfl) (fun hb=>?_)
  have hws:WdsAt (u3.union (A0c (β'))) a mareW:=A0y hb hS
  replace hp:=RowAt.le hp (A0a u3 (A0c (β')))
  generalize u3.union (A0c (β'))=u4 at *
  clear hb
  clear hS
  refine Q_op fun ho=>A0q ho A7y rfl rfl rfl rfl rfl A4z ?_
  clear ho
  refine Q_op fun ho=>A0h [] [] ho bod71 rfl rfl rfl rfl rfl cntA (add_a (v:=u4.union (A0c [])) (RowAt.le hws (A0a _ _)) hc_hws) (fun x β' hR=>?_)
  clear ho
  obtain⟨ay,cy,rfl,hyS⟩:=hR
  rw [A2b]at hyS
  clear hc_hws
  clear hws
  refine A0j (β1:=β') (β2:=_) (fun _=>rfl) (fun hb=>?_)
  have hy:WdsAt (u4.union (A0c (β'))) ay moreW:=hyS
  replace hp:=RowAt.le hp (A0a u4 (A0c (β')))
  generalize u4.union (A0c (β'))=u5 at *
  clear hb
  clear hyS
  repeat (first|refine st ?_|refine qb fun bx=>?_)
  rename Nat=>bx23
  refine A2j ⟨[],[(12,.int .i64 0),(14,.int .i64 1),(7,.int .i64 0),(6,.slice ap 1 cp),(9,.int .i64 0),(23,.pointer (some ⟨bx23,0,none⟩)),(11,.int .i64 0),(390,boV 1 0 none 0 0)],_⟩ ⟨rfl,rg,fun p=>Nat.le_refl _⟩ ?_
  refine Q_op fun ho=>A0q ho A7y rfl rfl rfl rfl rfl A4z ?_
  clear ho
  refine Q_op fun ho=>A0h [] _ ho bod71 rfl rfl rfl rfl rfl A0t (add_b) (fun x β' hR=>?_)
  clear ho
  obtain⟨tx,rfl⟩:=hR
  refine A0j (β1:=β') (β2:=_) (fun _=>rfl) (fun hb=>?_)
  replace hp:=RowAt.le hp (A0a u5 (A0c (β')))
  replace hy:=RowAt.le hy (A0a u5 (A0c (β')))
  generalize u5.union (A0c (β'))=u6 at *
  clear hb
  repeat (first|refine st ?_|refine qb fun bx=>?_)
  refine A2p [24,25,29,30] [0,1,2,3,4,5,6,7,8,9,10,11,12,13,14,15,16,17,18,19,20,21,22,23,24,25,26,27,28,29,30,31,32] A1w rfl kR ?_
  repeat (refine ss ?_)
  refine S_do kR (A3i tab rfl rfl rfl rfl rfl rfl rfl rfl rfl rfl (fun b8 c8 hL=>⟨Le.refl _,kp,?_⟩))
  repeat (refine ss ?_)
  refine S_do kR (A0h [(b8,c8,3)] _ rfl bod35 rfl rfl rfl rfl rfl (fun _=>rfl) (Ret1.box (fun hb=>A4v (l:=[0]) (m:=[0]) (RowAt.le hp ((A0a _ _).trans (A0a _ _))) (RowAt.own hb cntL hL) dM dM)) (fun x β' hR=>⟨Le.refl _,?_,?_⟩))
  · exact kp
  obtain⟨rfl,rfl⟩:=hR
  rw [show decide (([0]:List Nat)=[0])=true from rfl]
  repeat (refine ss ?_)
  refine S_do kR (A0h [] _ rfl bod75 rfl rfl rfl rfl rfl A0t (A9x) (fun x β' hR=>⟨Le.refl _,?_,?_⟩))
  · exact kp
  obtain⟨a5,c5,rfl,hS5⟩:=hR
  rename A0l=>β5
  repeat (refine ss ?_)
  refine S_do kR (A0h β5 _ rfl bod32 rfl rfl rfl rfl rfl (fun _=>rfl) (Ret1.box (fun hb=>sameV_x (ws:=moreW) (RowAt.le hy ((A0a _ _).trans (A0a _ _))) (RowAt.own hb cntL hS5) dM)) (fun x β' hR=>⟨Le.refl _,?_,?_⟩))
  · exact kp
  obtain⟨rfl,rfl⟩:=hR
  repeat (first|refine st ?_|refine qb fun bx=>?_)
  exact⟨rfl,rfl,rfl⟩
theorem known_5{b18 b19 b20:Nat}{a1 a2 a3 a4:Option Addr}{c1 c2 c3 c4:Nat}{v:View}:∃c,tailC 26 f20.body=some c∧XC prog ⟨true,true⟩ none f20.ntmps c (TopQ 0) ⟨[],[(18,.pointer (some ⟨b18,0,none⟩)),(19,.pointer (some ⟨b19,0,none⟩))],[(b20,(A3x 2 2).cells,42),(b19,(wldV a3 2 c3 a4 0 c4).cells,38),(b18,(wldV a1 1 c1 a2 1 c2).cells,38)]⟩ v:=by
  refine⟨_,rfl,?_⟩
  repeat (first|refine st ?_|refine qb fun bx=>?_)
  refine Q_op fun ho=>A0h [] _ ho A5p rfl rfl rfl rfl rfl A0t (A3k) (fun x β' hR=>?_)
  clear ho
  obtain⟨a,cap,rfl,hS⟩:=hR
  have hc_hws:mareW.length≤cap:=(A1f hS dM).choose_spec.choose_spec.2.2.1
  refine A0j (β1:=β') (β2:=_) (fun _=>rfl) (fun hb=>?_)
  have hws:WdsAt (v.union (A0c (β'))) a mareW:=A0y hb hS
  generalize v.union (A0c (β'))=u1 at *
  clear hb
  clear hS
  refine Q_op fun ho=>A0q ho A7y rfl rfl rfl rfl rfl A4z ?_
  clear ho
  refine Q_op fun ho=>A0q ho bod42 rfl rfl rfl rfl rfl (follows_a hws) ?_
  clear ho
  clear hc_hws
  clear hws
  repeat (first|refine st ?_|refine qb fun bx=>?_)
  refine A2j ⟨[],[(18,.pointer (some ⟨b18,0,none⟩)),(19,.pointer (some ⟨b19,0,none⟩)),(12,.int .i64 2),(7,.int .i64 0)],_⟩ ⟨rfl,rg,fun p=>Nat.le_refl _⟩ ?_
  refine Q_op fun ho=>A0h [] _ ho bod75 rfl rfl rfl rfl rfl A0t (A9x) (fun x β' hR=>?_)
  clear ho
  obtain⟨a,cap,rfl,hS⟩:=hR
  have hc_hws:moreW.length≤cap:=(A1f hS dM).choose_spec.choose_spec.2.2.1
  refine A0j (β1:=β') (β2:=_) (fun _=>rfl) (fun hb=>?_)
  have hws:WdsAt (u1.union (A0c (β'))) a moreW:=A0y hb hS
  generalize u1.union (A0c (β'))=u2 at *
  clear hb
  clear hS
  refine Q_op fun ho=>A0q ho A7y rfl rfl rfl rfl rfl A4z ?_
  clear ho
  refine Q_op fun ho=>A0q ho bod42 rfl rfl rfl rfl rfl (follows_b hws) ?_
  clear ho
  clear hc_hws
  clear hws
  repeat (first|refine st ?_|refine qb fun bx=>?_)
  refine A2j ⟨[],[(18,.pointer (some ⟨b18,0,none⟩)),(19,.pointer (some ⟨b19,0,none⟩)),(12,.int .i64 2),(7,.int .i64 0),(14,.int .i64 3),(9,.int .i64 0)],_⟩ ⟨rfl,rg,fun p=>Nat.le_refl _⟩ ?_
  refine Q_op fun ho=>A0h [] _ ho bod75 rfl rfl rfl rfl rfl A0t (A9x) (fun x β' hR=>?_)
  clear ho
  obtain⟨a,cap,rfl,hS⟩:=hR
  have hc_hws:moreW.length≤cap:=(A1f hS dM).choose_spec.choose_spec.2.2.1
  refine A0j (β1:=β') (β2:=_) (fun _=>rfl) (fun hb=>?_)
  have hws:WdsAt (u2.union (A0c (β'))) a moreW:=A0y hb hS
  generalize u2.union (A0c (β'))=u3 at *
  clear hb
  clear hS
  refine Q_op fun ho=>A0h [] _ ho bod61 rfl rfl rfl rfl rfl A0t (if_a (RowAt.le hws (A0a _ _))) (fun x β' hR=>?_)
  clear ho
  obtain⟨a1,c1,a2,c2,βw1,βw2,rfl,hS1,hS2,rfl⟩:=hR
  clear hc_hws
  clear hws
  refine A0j (β1:=βw1++βw2) (β2:=_) (fun _=>rfl) (fun hb=>?_)
  have hw1:RowAt (u3.union (A0c (βw1++βw2))) a1 ([2].map natV):=RowAt.own hb (show Subm βw1 (βw1++βw2)from cntL) hS1
  have hw2:RowAt (u3.union (A0c (βw1++βw2))) a2 (([]:List Nat).map natV):=RowAt.own hb (show Subm βw2 (βw1++βw2)from cntL) hS2
  generalize u3.union (A0c (βw1++βw2))=u4 at *
  clear hb
  clear hS1 hS2
  repeat (first|refine st ?_|refine qb fun bx=>?_)
  refine A2j ⟨[],[(18,.pointer (some ⟨b18,0,none⟩)),(19,.pointer (some ⟨b19,0,none⟩)),(12,.int .i64 2),(7,.int .i64 0),(14,.int .i64 3),(9,.int .i64 0),(11,.int .i64 0)],_⟩ ⟨rfl,rg,fun p=>Nat.le_refl _⟩ ?_
  refine Q_op fun ho=>A0h [] _ ho A5p rfl rfl rfl rfl rfl A0t (A3k) (fun x β' hR=>?_)
  clear ho
  obtain⟨a,cap,rfl,hS⟩:=hR
  have hc_hws:mareW.length≤cap:=(A1f hS dM).choose_spec.choose_spec.2.2.1
  refine A0j (β1:=β') (β2:=_) (fun _=>rfl) (fun hb=>?_)
  have hws:WdsAt (u4.union (A0c (β'))) a mareW:=A0y hb hS
  replace hw1:=RowAt.le hw1 (A0a u4 (A0c (β')))
  replace hw2:=RowAt.le hw2 (A0a u4 (A0c (β')))
  generalize u4.union (A0c (β'))=u5 at *
  clear hb
  clear hS
  refine Q_op fun ho=>A0h [] _ ho bod61 rfl rfl rfl rfl rfl A0t (if_c (RowAt.le hws (A0a _ _))) (fun x β' hR=>?_)
  clear ho
  obtain⟨tx,rfl⟩:=hR
  clear hc_hws
  clear hws
  refine A0j (β1:=β') (β2:=_) (fun _=>rfl) (fun hb=>?_)
  replace hw1:=RowAt.le hw1 (A0a u5 (A0c (β')))
  replace hw2:=RowAt.le hw2 (A0a u5 (A0c (β')))
  generalize u5.union (A0c (β'))=u6 at *
  clear hb
  repeat (first|refine st ?_|refine qb fun bx=>?_)
  refine A2j ⟨[],[(18,.pointer (some ⟨b18,0,none⟩)),(19,.pointer (some ⟨b19,0,none⟩)),(12,.int .i64 2),(7,.int .i64 0),(14,.int .i64 3),(9,.int .i64 0),(11,.int .i64 0),(13,.int .i64 11)],_⟩ ⟨rfl,rg,fun p=>Nat.le_refl _⟩ ?_
  refine Q_op fun ho=>A0h [] _ ho bod75 rfl rfl rfl rfl rfl A0t (A9x) (fun x β' hR=>?_)
  clear ho
  obtain⟨a,cap,rfl,hS⟩:=hR
  have hc_hws:moreW.length≤cap:=(A1f hS dM).choose_spec.choose_spec.2.2.1
  refine A0j (β1:=β') (β2:=_) (fun _=>rfl) (fun hb=>?_)
  have hws:WdsAt (u6.union (A0c (β'))) a moreW:=A0y hb hS
  replace hw1:=RowAt.le hw1 (A0a u6 (A0c (β')))
  replace hw2:=RowAt.le hw2 (A0a u6 (A0c (β')))
  generalize u6.union (A0c (β'))=u7 at *
  clear hb
  clear hS
  refine Q_op fun ho=>A0h [] _ ho bod61 rfl rfl rfl rfl rfl A0t (if_b (RowAt.le hws (A0a _ _))) (fun x β' hR=>?_)
  clear ho
  obtain⟨a1,c1,a2,c2,βw1,βw2,rfl,hS1,hS2,rfl⟩:=hR
  clear hc_hws
  clear hws
  refine A0j (β1:=βw1++βw2) (β2:=_) (fun _=>rfl) (fun hb=>?_)
  have hx1:RowAt (u7.union (A0c (βw1++βw2))) a1 ([1].map natV):=RowAt.own hb (show Subm βw1 (βw1++βw2)from cntL) hS1
  have hx2:RowAt (u7.union (A0c (βw1++βw2))) a2 ([0].map natV):=RowAt.own hb (show Subm βw2 (βw1++βw2)from cntL) hS2
  replace hw1:=RowAt.le hw1 (A0a u7 (A0c (βw1++βw2)))
  replace hw2:=RowAt.le hw2 (A0a u7 (A0c (βw1++βw2)))
  generalize u7.union (A0c (βw1++βw2))=u8 at *
  clear hb
  clear hS1 hS2
  repeat (first|refine st ?_|refine qb fun bx=>?_)
  refine A2j ⟨[],[(18,.pointer (some ⟨b18,0,none⟩)),(19,.pointer (some ⟨b19,0,none⟩)),(12,.int .i64 2),(7,.int .i64 0),(14,.int .i64 3),(9,.int .i64 0),(11,.int .i64 0),(13,.int .i64 11),(15,.int .i64 0)],_⟩ ⟨rfl,rg,fun p=>Nat.le_refl _⟩ ?_
  refine Q_op fun ho=>A0h [] _ ho A5p rfl rfl rfl rfl rfl A0t (A3k) (fun x β' hR=>?_)
  clear ho
  obtain⟨a,cap,rfl,hS⟩:=hR
  have hc_hws:mareW.length≤cap:=(A1f hS dM).choose_spec.choose_spec.2.2.1
  refine A0j (β1:=β') (β2:=_) (fun _=>rfl) (fun hb=>?_)
  have hws:WdsAt (u8.union (A0c (β'))) a mareW:=A0y hb hS
  replace hw1:=RowAt.le hw1 (A0a u8 (A0c (β')))
  replace hw2:=RowAt.le hw2 (A0a u8 (A0c (β')))
  replace hx1:=RowAt.le hx1 (A0a u8 (A0c (β')))
  replace hx2:=RowAt.le hx2 (A0a u8 (A0c (β')))
  generalize u8.union (A0c (β'))=u9 at *
  clear hb
  clear hS
  refine Q_op fun ho=>A0h [] _ ho bod33 rfl rfl rfl rfl rfl A0t (silent_a (RowAt.le hws (A0a _ _)) hc_hws) (fun x β' hR=>?_)
  clear ho
  obtain⟨al,cl,rfl⟩:=hR
  clear hc_hws
  clear hws
  refine A0j (β1:=β') (β2:=_) (fun _=>rfl) (fun hb=>?_)
  replace hw1:=RowAt.le hw1 (A0a u9 (A0c (β')))
  replace hw2:=RowAt.le hw2 (A0a u9 (A0c (β')))
  replace hx1:=RowAt.le hx1 (A0a u9 (A0c (β')))
  replace hx2:=RowAt.le hx2 (A0a u9 (A0c (β')))
  generalize u9.union (A0c (β'))=u10 at *
  clear hb
  repeat (first|refine sr ?_|refine qb fun bx=>?_)
  refine A6f (fun τ _=>τ=⟨[],[],[]⟩) (fun τ u e=>by subst e;exact B2h known_6 rfl) ?_
  repeat (first|refine st ?_|refine qb fun bx=>?_)
  refine Q_op fun ho=>A3i tab ho rfl rfl rfl rfl rfl rfl rfl rfl rfl (fun b1 c1 hL=>?_)
  clear ho
  refine A0j (β1:=[(b1,c1,3)]) (β2:=_) (fun _=>rfl) (fun hb=>?_)
  have hl1:RowAt (u10.union (A0c ([(b1,c1,3)]))) (some ⟨b1,0,none⟩) ([2].map natV):=RowAt.own hb (show Subm [(b1,c1,3)] [(b1,c1,3)]from cntL) hL
  replace hw1:=RowAt.le hw1 (A0a u10 (A0c ([(b1,c1,3)])))
  replace hw2:=RowAt.le hw2 (A0a u10 (A0c ([(b1,c1,3)])))
  replace hx1:=RowAt.le hx1 (A0a u10 (A0c ([(b1,c1,3)])))
  replace hx2:=RowAt.le hx2 (A0a u10 (A0c ([(b1,c1,3)])))
  generalize u10.union (A0c ([(b1,c1,3)]))=u11 at *
  clear hb
  clear hL
  repeat (first|refine st ?_|refine qb fun bx=>?_)
  refine Q_op fun ho=>A0q ho bod31 rfl rfl rfl rfl rfl (A5a (l1:=[2]) (l2:=[]) (m1:=[2]) (m2:=[]) hw1 hw2 hl1 (.inl rfl) dM dM dM dM) ?_
  clear ho
  rw [show(decide (([2]:List Nat)=[2])&&decide (([]:List Nat)=[]))=true from rfl]
  clear hl1
  repeat (first|refine st ?_|refine qb fun bx=>?_)
  refine Q_op fun ho=>A3i tab ho rfl rfl rfl rfl rfl rfl rfl rfl rfl (fun b1 c1 hL=>?_)
  clear ho
  refine A0j (β1:=[(b1,c1,3)]) (β2:=_) (fun _=>rfl) (fun hb=>?_)
  have hl1:RowAt (u11.union (A0c ([(b1,c1,3)]))) (some ⟨b1,0,none⟩) ([1].map natV):=RowAt.own hb (show Subm [(b1,c1,3)] [(b1,c1,3)]from cntL) hL
  replace hw1:=RowAt.le hw1 (A0a u11 (A0c ([(b1,c1,3)])))
  replace hw2:=RowAt.le hw2 (A0a u11 (A0c ([(b1,c1,3)])))
  replace hx1:=RowAt.le hx1 (A0a u11 (A0c ([(b1,c1,3)])))
  replace hx2:=RowAt.le hx2 (A0a u11 (A0c ([(b1,c1,3)])))
  generalize u11.union (A0c ([(b1,c1,3)]))=u12 at *
  clear hb
  clear hL
  refine Q_op fun ho=>A3i tab ho rfl rfl rfl rfl rfl rfl rfl rfl rfl (fun b2 c2 hL=>?_)
  clear ho
  refine A0j (β1:=[(b2,c2,3)]) (β2:=_) (fun _=>rfl) (fun hb=>?_)
  have hl2:RowAt (u12.union (A0c ([(b2,c2,3)]))) (some ⟨b2,0,none⟩) ([0].map natV):=RowAt.own hb (show Subm [(b2,c2,3)] [(b2,c2,3)]from cntL) hL
  replace hw1:=RowAt.le hw1 (A0a u12 (A0c ([(b2,c2,3)])))
  replace hw2:=RowAt.le hw2 (A0a u12 (A0c ([(b2,c2,3)])))
  replace hx1:=RowAt.le hx1 (A0a u12 (A0c ([(b2,c2,3)])))
  replace hx2:=RowAt.le hx2 (A0a u12 (A0c ([(b2,c2,3)])))
  replace hl1:=RowAt.le hl1 (A0a u12 (A0c ([(b2,c2,3)])))
  generalize u12.union (A0c ([(b2,c2,3)]))=u13 at *
  clear hb
  clear hL
  repeat (first|refine st ?_|refine qb fun bx=>?_)
  refine Q_op fun ho=>A0q ho bod31 rfl rfl rfl rfl rfl (A5a (l1:=[1]) (l2:=[0]) (m1:=[1]) (m2:=[0]) hx1 hx2 hl1 hl2 dM dM dM dM) ?_
  clear ho
  rw [show(decide (([1]:List Nat)=[1])&&decide (([0]:List Nat)=[0]))=true from rfl]
  clear hl1 hl2
  repeat (first|refine st ?_|refine qb fun bx=>?_)
  clear hw1 hw2 hx1 hx2
  exact A0e ⟨_,_,rfl,⟨rfl,trivial,cntL⟩,Le.refl _⟩
theorem known_4{b18 b19 b20:Nat}{a1 a2 a3 a4:Option Addr}{c1 c2 c3 c4:Nat}{v:View}:∃c,tailC 19 f20.body=some c∧XC prog ⟨true,true⟩ none f20.ntmps c (TopQ 0) ⟨[],[(18,.pointer (some ⟨b18,0,none⟩)),(19,.pointer (some ⟨b19,0,none⟩))],[(b20,(A3x 2 2).cells,42),(b19,(wldV a3 2 c3 a4 0 c4).cells,38),(b18,(wldV a1 1 c1 a2 1 c2).cells,38)]⟩ v:=by
  refine⟨_,rfl,?_⟩
  repeat (first|refine st ?_|refine qb fun bx=>?_)
  refine Q_op fun ho=>A0h [] _ ho A5p rfl rfl rfl rfl rfl A0t (A3k) (fun x β' hR=>?_)
  clear ho
  obtain⟨a,cap,rfl,hS⟩:=hR
  have hc_hws:mareW.length≤cap:=(A1f hS dM).choose_spec.choose_spec.2.2.1
  refine A0j (β1:=β') (β2:=_) (fun _=>rfl) (fun hb=>?_)
  have hws:WdsAt (v.union (A0c (β'))) a mareW:=A0y hb hS
  generalize v.union (A0c (β'))=u1 at *
  clear hb
  clear hS
  refine Q_op fun ho=>A0q ho bod41 rfl rfl rfl rfl rfl (person_a hws) ?_
  clear ho
  clear hc_hws
  clear hws
  repeat (first|refine st ?_|refine qb fun bx=>?_)
  refine A2j ⟨[],[(18,.pointer (some ⟨b18,0,none⟩)),(19,.pointer (some ⟨b19,0,none⟩)),(12,.int .i64 2),(7,.int .i64 0)],_⟩ ⟨rfl,rg,fun p=>Nat.le_refl _⟩ ?_
  refine Q_op fun ho=>A0h [] _ ho A5p rfl rfl rfl rfl rfl A0t (A3k) (fun x β' hR=>?_)
  clear ho
  obtain⟨a,cap,rfl,hS⟩:=hR
  have hc_hws:mareW.length≤cap:=(A1f hS dM).choose_spec.choose_spec.2.2.1
  refine A0j (β1:=β') (β2:=_) (fun _=>rfl) (fun hb=>?_)
  have hws:WdsAt (u1.union (A0c (β'))) a mareW:=A0y hb hS
  generalize u1.union (A0c (β'))=u2 at *
  clear hb
  clear hS
  refine Q_op fun ho=>A0q ho bod41 rfl rfl rfl rfl rfl (person_b hws) ?_
  clear ho
  clear hc_hws
  clear hws
  repeat (first|refine st ?_|refine qb fun bx=>?_)
  refine A2j ⟨[],[(18,.pointer (some ⟨b18,0,none⟩)),(19,.pointer (some ⟨b19,0,none⟩)),(12,.int .i64 2),(7,.int .i64 0),(14,.int .i64 3),(9,.int .i64 0)],_⟩ ⟨rfl,rg,fun p=>Nat.le_refl _⟩ ?_
  refine Q_op fun ho=>A0h [] _ ho bod77 rfl rfl rfl rfl rfl A0t (each_x) (fun x β' hR=>?_)
  clear ho
  obtain⟨a,cap,rfl,hS⟩:=hR
  have hc_hws:eachW.length≤cap:=(A1f hS dM).choose_spec.choose_spec.2.2.1
  refine A0j (β1:=β') (β2:=_) (fun _=>rfl) (fun hb=>?_)
  have hws:WdsAt (u2.union (A0c (β'))) a eachW:=A0y hb hS
  generalize u2.union (A0c (β'))=u3 at *
  clear hb
  clear hS
  refine Q_op fun ho=>A0q ho bod41 rfl rfl rfl rfl rfl (person_c hws) ?_
  clear ho
  clear hc_hws
  clear hws
  repeat (first|refine st ?_|refine qb fun bx=>?_)
  refine A2j ⟨[],[(18,.pointer (some ⟨b18,0,none⟩)),(19,.pointer (some ⟨b19,0,none⟩)),(12,.int .i64 2),(7,.int .i64 0),(14,.int .i64 3),(9,.int .i64 0),(16,.int .i64 3),(11,.int .i64 0)],_⟩ ⟨rfl,rg,fun p=>Nat.le_refl _⟩ ?_
  refine Q_op fun ho=>A0h [] _ ho A5p rfl rfl rfl rfl rfl A0t (A3k) (fun x β' hR=>?_)
  clear ho
  obtain⟨a,cap,rfl,hS⟩:=hR
  have hc_hws:mareW.length≤cap:=(A1f hS dM).choose_spec.choose_spec.2.2.1
  refine A0j (β1:=β') (β2:=_) (fun _=>rfl) (fun hb=>?_)
  have hws:WdsAt (u3.union (A0c (β'))) a mareW:=A0y hb hS
  generalize u3.union (A0c (β'))=u4 at *
  clear hb
  clear hS
  refine Q_op fun ho=>A0q ho bod52 rfl rfl rfl rfl rfl (fact_a hws) ?_
  clear ho
  clear hc_hws
  clear hws
  repeat (first|refine st ?_|refine qb fun bx=>?_)
  refine A2j ⟨[],[(18,.pointer (some ⟨b18,0,none⟩)),(19,.pointer (some ⟨b19,0,none⟩)),(12,.int .i64 2),(7,.int .i64 0),(14,.int .i64 3),(9,.int .i64 0),(16,.int .i64 3),(11,.int .i64 0),(21,.int .i64 3),(13,.int .i64 0)],_⟩ ⟨rfl,rg,fun p=>Nat.le_refl _⟩ ?_
  refine Q_op fun ho=>A0h [] _ ho bod75 rfl rfl rfl rfl rfl A0t (A9x) (fun x β' hR=>?_)
  clear ho
  obtain⟨a,cap,rfl,hS⟩:=hR
  have hc_hws:moreW.length≤cap:=(A1f hS dM).choose_spec.choose_spec.2.2.1
  refine A0j (β1:=β') (β2:=_) (fun _=>rfl) (fun hb=>?_)
  have hws:WdsAt (u4.union (A0c (β'))) a moreW:=A0y hb hS
  generalize u4.union (A0c (β'))=u5 at *
  clear hb
  clear hS
  refine Q_op fun ho=>A0q ho bod52 rfl rfl rfl rfl rfl (fact_b hws) ?_
  clear ho
  clear hc_hws
  clear hws
  repeat (first|refine st ?_|refine qb fun bx=>?_)
  refine A2j ⟨[],[(18,.pointer (some ⟨b18,0,none⟩)),(19,.pointer (some ⟨b19,0,none⟩)),(12,.int .i64 2),(7,.int .i64 0),(14,.int .i64 3),(9,.int .i64 0),(16,.int .i64 3),(11,.int .i64 0),(21,.int .i64 3),(13,.int .i64 0),(22,.int .i64 3),(15,.int .i64 0)],_⟩ ⟨rfl,rg,fun p=>Nat.le_refl _⟩ ?_
  refine Q_op fun ho=>A0h [] _ ho A5p rfl rfl rfl rfl rfl A0t (A3k) (fun x β' hR=>?_)
  clear ho
  obtain⟨a,cap,rfl,hS⟩:=hR
  have hc_hws:mareW.length≤cap:=(A1f hS dM).choose_spec.choose_spec.2.2.1
  refine A0j (β1:=β') (β2:=_) (fun _=>rfl) (fun hb=>?_)
  have hws:WdsAt (u5.union (A0c (β'))) a mareW:=A0y hb hS
  generalize u5.union (A0c (β'))=u6 at *
  clear hb
  clear hS
  refine Q_op fun ho=>A0q ho bod52 rfl rfl rfl rfl rfl (fact_c hws) ?_
  clear ho
  clear hc_hws
  clear hws
  repeat (first|refine sr ?_|refine qb fun bx=>?_)
  refine A6f (fun τ _=>∃(b18 b19 b20:Nat) (a1 a2 a3 a4:Option Addr) (c1 c2 c3 c4:Nat),τ=⟨[],[(18,.pointer (some ⟨b18,0,none⟩)),(19,.pointer (some ⟨b19,0,none⟩))],[(b20,(A3x 2 2).cells,42),(b19,(wldV a3 2 c3 a4 0 c4).cells,38),(b18,(wldV a1 1 c1 a2 1 c2).cells,38)]⟩) (fun τ u e=>by obtain⟨b18,b19,b20,a1,a2,a3,a4,c1,c2,c3,c4,rfl⟩:=e;exact B2h known_5 rfl) ?_
  repeat (first|refine st ?_|refine qb fun bx=>?_)
  exact A0e ⟨_,_,⟨_,_,_,_,_,_,_,_,_,_,_,rfl⟩,⟨rfl,⟨rfl,rfl,trivial⟩,fun p=>Nat.le_refl _⟩,Le.refl _⟩
theorem known_3{v:View}:∃c,tailC 14 f20.body=some c∧XC prog ⟨true,true⟩ none f20.ntmps c (TopQ 0) ⟨[],[],[]⟩ v:=by
  refine⟨_,rfl,?_⟩
  repeat (first|refine st ?_|refine qb fun bx=>?_)
  refine Q_op fun ho=>A0h [] _ ho A5p rfl rfl rfl rfl rfl A0t (A3k) (fun x β' hR=>?_)
  clear ho
  obtain⟨a,cap,rfl,hS⟩:=hR
  have hc_hws:mareW.length≤cap:=(A1f hS dM).choose_spec.choose_spec.2.2.1
  refine A0j (β1:=β') (β2:=_) (fun _=>rfl) (fun hb=>?_)
  have hws:WdsAt (v.union (A0c (β'))) a mareW:=A0y hb hS
  generalize v.union (A0c (β'))=u1 at *
  clear hb
  clear hS
  refine Q_op fun ho=>A0h [] _ ho bod27 rfl rfl rfl rfl rfl A0t (fewest_a (RowAt.le hws (A0a _ _))) (fun x β' hR=>?_)
  clear ho
  obtain⟨a1,c1,a2,c2,βw1,βw2,rfl,hS1,hS2,rfl⟩:=hR
  clear hc_hws
  clear hws
  refine A0j (β1:=βw1++βw2) (β2:=_) (fun _=>rfl) (fun hb=>?_)
  have hw1:RowAt (u1.union (A0c (βw1++βw2))) a1 ([1].map natV):=RowAt.own hb (show Subm βw1 (βw1++βw2)from cntL) hS1
  have hw2:RowAt (u1.union (A0c (βw1++βw2))) a2 ([0].map natV):=RowAt.own hb (show Subm βw2 (βw1++βw2)from cntL) hS2
  generalize u1.union (A0c (βw1++βw2))=u2 at *
  clear hb
  clear hS1 hS2
  repeat (first|refine st ?_|refine qb fun bx=>?_)
  rename Nat=>bx18
  refine A2j ⟨[],[(18,.pointer (some ⟨bx18,0,none⟩)),(7,.int .i64 0)],_⟩ ⟨rfl,rg,fun p=>Nat.le_refl _⟩ ?_
  refine Q_op fun ho=>A0h [] _ ho bod76 rfl rfl rfl rfl rfl A0t (itself_x) (fun x β' hR=>?_)
  clear ho
  obtain⟨a,cap,rfl,hS⟩:=hR
  have hc_hws:itselfW.length≤cap:=(A1f hS dM).choose_spec.choose_spec.2.2.1
  refine A0j (β1:=β') (β2:=_) (fun _=>rfl) (fun hb=>?_)
  have hws:WdsAt (u2.union (A0c (β'))) a itselfW:=A0y hb hS
  replace hw1:=RowAt.le hw1 (A0a u2 (A0c (β')))
  replace hw2:=RowAt.le hw2 (A0a u2 (A0c (β')))
  generalize u2.union (A0c (β'))=u3 at *
  clear hb
  clear hS
  refine Q_op fun ho=>A0h [] _ ho bod27 rfl rfl rfl rfl rfl A0t (fewest_i (RowAt.le hws (A0a _ _))) (fun x β' hR=>?_)
  clear ho
  obtain⟨tx,rfl⟩:=hR
  clear hc_hws
  clear hws
  refine A0j (β1:=β') (β2:=_) (fun _=>rfl) (fun hb=>?_)
  replace hw1:=RowAt.le hw1 (A0a u3 (A0c (β')))
  replace hw2:=RowAt.le hw2 (A0a u3 (A0c (β')))
  generalize u3.union (A0c (β'))=u4 at *
  clear hb
  repeat (first|refine st ?_|refine qb fun bx=>?_)
  refine A2j ⟨[],[(18,.pointer (some ⟨bx18,0,none⟩)),(7,.int .i64 0),(9,.int .i64 11)],_⟩ ⟨rfl,rg,fun p=>Nat.le_refl _⟩ ?_
  refine Q_op fun ho=>A0h [] _ ho bod77 rfl rfl rfl rfl rfl A0t (each_x) (fun x β' hR=>?_)
  clear ho
  obtain⟨a,cap,rfl,hS⟩:=hR
  have hc_hws:eachW.length≤cap:=(A1f hS dM).choose_spec.choose_spec.2.2.1
  refine A0j (β1:=β') (β2:=_) (fun _=>rfl) (fun hb=>?_)
  have hws:WdsAt (u4.union (A0c (β'))) a eachW:=A0y hb hS
  replace hw1:=RowAt.le hw1 (A0a u4 (A0c (β')))
  replace hw2:=RowAt.le hw2 (A0a u4 (A0c (β')))
  generalize u4.union (A0c (β'))=u5 at *
  clear hb
  clear hS
  refine Q_op fun ho=>A0h [] _ ho bod27 rfl rfl rfl rfl rfl A0t (fewest_e (RowAt.le hws (A0a _ _))) (fun x β' hR=>?_)
  clear ho
  obtain⟨a1,c1,a2,c2,βw1,βw2,rfl,hS1,hS2,rfl⟩:=hR
  clear hc_hws
  clear hws
  refine A0j (β1:=βw1++βw2) (β2:=_) (fun _=>rfl) (fun hb=>?_)
  have hx1:RowAt (u5.union (A0c (βw1++βw2))) a1 ([0,1].map natV):=RowAt.own hb (show Subm βw1 (βw1++βw2)from cntL) hS1
  have hx2:RowAt (u5.union (A0c (βw1++βw2))) a2 (([]:List Nat).map natV):=RowAt.own hb (show Subm βw2 (βw1++βw2)from cntL) hS2
  replace hw1:=RowAt.le hw1 (A0a u5 (A0c (βw1++βw2)))
  replace hw2:=RowAt.le hw2 (A0a u5 (A0c (βw1++βw2)))
  generalize u5.union (A0c (βw1++βw2))=u6 at *
  clear hb
  clear hS1 hS2
  repeat (first|refine st ?_|refine qb fun bx=>?_)
  rename Nat=>bx19
  refine A2j ⟨[],[(18,.pointer (some ⟨bx18,0,none⟩)),(7,.int .i64 0),(9,.int .i64 11),(19,.pointer (some ⟨bx19,0,none⟩)),(11,.int .i64 0)],_⟩ ⟨rfl,rg,fun p=>Nat.le_refl _⟩ ?_
  refine Q_op fun ho=>A0h [] _ ho A5p rfl rfl rfl rfl rfl A0t (A3k) (fun x β' hR=>?_)
  clear ho
  obtain⟨a,cap,rfl,hS⟩:=hR
  have hc_hws:mareW.length≤cap:=(A1f hS dM).choose_spec.choose_spec.2.2.1
  refine A0j (β1:=β') (β2:=_) (fun _=>rfl) (fun hb=>?_)
  have hws:WdsAt (u6.union (A0c (β'))) a mareW:=A0y hb hS
  replace hw1:=RowAt.le hw1 (A0a u6 (A0c (β')))
  replace hw2:=RowAt.le hw2 (A0a u6 (A0c (β')))
  replace hx1:=RowAt.le hx1 (A0a u6 (A0c (β')))
  replace hx2:=RowAt.le hx2 (A0a u6 (A0c (β')))
  generalize u6.union (A0c (β'))=u7 at *
  clear hb
  clear hS
  refine Q_op fun ho=>A0q ho bod29 rfl rfl rfl rfl rfl (liars_a hws) ?_
  clear ho
  clear hc_hws
  clear hws
  repeat (first|refine sr ?_|refine qb fun bx=>?_)
  refine A6f (fun τ _=>∃(b18 b19 b20:Nat) (a1 a2 a3 a4:Option Addr) (c1 c2 c3 c4:Nat),τ=⟨[],[(18,.pointer (some ⟨b18,0,none⟩)),(19,.pointer (some ⟨b19,0,none⟩))],[(b20,(A3x 2 2).cells,42),(b19,(wldV a3 2 c3 a4 0 c4).cells,38),(b18,(wldV a1 1 c1 a2 1 c2).cells,38)]⟩) (fun τ u e=>by obtain⟨b18,b19,b20,a1,a2,a3,a4,c1,c2,c3,c4,rfl⟩:=e;exact B2h known_4 rfl) ?_
  repeat (first|refine st ?_|refine qb fun bx=>?_)
  rename Nat=>bx20
  refine Q_op fun ho=>A_neqR (a:=2) (b:=2) (c:=2) (e:=2) ho rfl rfl rfl rfl ?_
  clear ho
  rw [show(!decide ((2:Int)=2∧(2:Int)=2))=false from rfl]
  repeat (first|refine st ?_|refine qb fun bx=>?_)
  refine Q_op fun ho=>A3i tab ho rfl rfl rfl rfl rfl rfl rfl rfl rfl (fun b1 c1 hL=>?_)
  clear ho
  refine A0j (β1:=[(b1,c1,3)]) (β2:=_) (fun _=>rfl) (fun hb=>?_)
  have hl1:RowAt (u7.union (A0c ([(b1,c1,3)]))) (some ⟨b1,0,none⟩) ([1].map natV):=RowAt.own hb (show Subm [(b1,c1,3)] [(b1,c1,3)]from cntL) hL
  replace hw1:=RowAt.le hw1 (A0a u7 (A0c ([(b1,c1,3)])))
  replace hw2:=RowAt.le hw2 (A0a u7 (A0c ([(b1,c1,3)])))
  replace hx1:=RowAt.le hx1 (A0a u7 (A0c ([(b1,c1,3)])))
  replace hx2:=RowAt.le hx2 (A0a u7 (A0c ([(b1,c1,3)])))
  generalize u7.union (A0c ([(b1,c1,3)]))=u8 at *
  clear hb
  clear hL
  refine Q_op fun ho=>A3i tab ho rfl rfl rfl rfl rfl rfl rfl rfl rfl (fun b2 c2 hL=>?_)
  clear ho
  refine A0j (β1:=[(b2,c2,3)]) (β2:=_) (fun _=>rfl) (fun hb=>?_)
  have hl2:RowAt (u8.union (A0c ([(b2,c2,3)]))) (some ⟨b2,0,none⟩) ([0].map natV):=RowAt.own hb (show Subm [(b2,c2,3)] [(b2,c2,3)]from cntL) hL
  replace hw1:=RowAt.le hw1 (A0a u8 (A0c ([(b2,c2,3)])))
  replace hw2:=RowAt.le hw2 (A0a u8 (A0c ([(b2,c2,3)])))
  replace hx1:=RowAt.le hx1 (A0a u8 (A0c ([(b2,c2,3)])))
  replace hx2:=RowAt.le hx2 (A0a u8 (A0c ([(b2,c2,3)])))
  replace hl1:=RowAt.le hl1 (A0a u8 (A0c ([(b2,c2,3)])))
  generalize u8.union (A0c ([(b2,c2,3)]))=u9 at *
  clear hb
  clear hL
  repeat (first|refine st ?_|refine qb fun bx=>?_)
  refine Q_op fun ho=>A0q ho bod31 rfl rfl rfl rfl rfl (A5a (l1:=[1]) (l2:=[0]) (m1:=[1]) (m2:=[0]) hw1 hw2 hl1 hl2 dM dM dM dM) ?_
  clear ho
  rw [show(decide (([1]:List Nat)=[1])&&decide (([0]:List Nat)=[0]))=true from rfl]
  clear hl1 hl2
  repeat (first|refine st ?_|refine qb fun bx=>?_)
  refine Q_op fun ho=>A3i tab ho rfl rfl rfl rfl rfl rfl rfl rfl rfl (fun b1 c1 hL=>?_)
  clear ho
  refine A0j (β1:=[(b1,c1,3)]) (β2:=_) (fun _=>rfl) (fun hb=>?_)
  have hl1:RowAt (u9.union (A0c ([(b1,c1,3)]))) (some ⟨b1,0,none⟩) ([0,1].map natV):=RowAt.own hb (show Subm [(b1,c1,3)] [(b1,c1,3)]from cntL) hL
  replace hw1:=RowAt.le hw1 (A0a u9 (A0c ([(b1,c1,3)])))
  replace hw2:=RowAt.le hw2 (A0a u9 (A0c ([(b1,c1,3)])))
  replace hx1:=RowAt.le hx1 (A0a u9 (A0c ([(b1,c1,3)])))
  replace hx2:=RowAt.le hx2 (A0a u9 (A0c ([(b1,c1,3)])))
  generalize u9.union (A0c ([(b1,c1,3)]))=u10 at *
  clear hb
  clear hL
  repeat (first|refine st ?_|refine qb fun bx=>?_)
  refine Q_op fun ho=>A0q ho bod31 rfl rfl rfl rfl rfl (A5a (l1:=[0,1]) (l2:=[]) (m1:=[0,1]) (m2:=[]) hx1 hx2 hl1 (.inl rfl) dM dM dM dM) ?_
  clear ho
  rw [show(decide (([0,1]:List Nat)=[0,1])&&decide (([]:List Nat)=[]))=true from rfl]
  clear hl1
  repeat (first|refine st ?_|refine qb fun bx=>?_)
  clear hw1 hw2 hx1 hx2
  exact A0e ⟨_,_,⟨_,_,_,_,_,_,_,_,_,_,_,rfl⟩,⟨rfl,⟨rfl,rfl,trivial⟩,fun p=>Nat.le_refl _⟩,Le.refl _⟩
theorem known_2{v:View}:∃c,tailC 7 f20.body=some c∧XC prog ⟨true,true⟩ none f20.ntmps c (TopQ 0) ⟨[],[],[]⟩ v:=by
  refine⟨_,rfl,?_⟩
  repeat (first|refine st ?_|refine qb fun bx=>?_)
  refine Q_op fun ho=>A0h [] _ ho A5p rfl rfl rfl rfl rfl A0t (A3k) (fun x β' hR=>?_)
  clear ho
  obtain⟨a,cap,rfl,hS⟩:=hR
  have hc_hws:mareW.length≤cap:=(A1f hS dM).choose_spec.choose_spec.2.2.1
  refine A0j (β1:=β') (β2:=_) (fun _=>rfl) (fun hb=>?_)
  have hws:WdsAt (v.union (A0c (β'))) a mareW:=A0y hb hS
  generalize v.union (A0c (β'))=u1 at *
  clear hb
  clear hS
  refine Q_op fun ho=>A3i tab ho rfl rfl rfl rfl rfl rfl rfl rfl rfl (fun b1 c1 hL=>?_)
  clear ho
  refine A0j (β1:=[(b1,c1,3)]) (β2:=_) (fun _=>rfl) (fun hb=>?_)
  have hl1:RowAt (u1.union (A0c ([(b1,c1,3)]))) (some ⟨b1,0,none⟩) ([(1:Int)].map (Value.int .i64)):=RowAt.own hb (show Subm [(b1,c1,3)] [(b1,c1,3)]from cntL) hL
  replace hws:=RowAt.le hws (A0a u1 (A0c ([(b1,c1,3)])))
  generalize u1.union (A0c ([(b1,c1,3)]))=u2 at *
  clear hb
  clear hL
  refine Q_op fun ho=>A3i tab ho rfl rfl rfl rfl rfl rfl rfl rfl rfl (fun b2 c2 hL=>?_)
  clear ho
  refine A0j (β1:=[(b2,c2,3)]) (β2:=_) (fun _=>rfl) (fun hb=>?_)
  have hl2:RowAt (u2.union (A0c ([(b2,c2,3)]))) (some ⟨b2,0,none⟩) ([(0:Int)].map (Value.int .i64)):=RowAt.own hb (show Subm [(b2,c2,3)] [(b2,c2,3)]from cntL) hL
  replace hws:=RowAt.le hws (A0a u2 (A0c ([(b2,c2,3)])))
  replace hl1:=RowAt.le hl1 (A0a u2 (A0c ([(b2,c2,3)])))
  generalize u2.union (A0c ([(b2,c2,3)]))=u3 at *
  clear hb
  clear hL
  repeat (first|refine st ?_|refine qb fun bx=>?_)
  refine Q_op fun ho=>A0h [] _ ho bod56 rfl rfl rfl rfl rfl A0t (wrong_a (RowAt.le hws (A0a _ _)) (RowAt.le hl1 (A0a _ _)) (RowAt.le hl2 (A0a _ _))) (fun x β' hR=>?_)
  clear ho
  obtain⟨ax,cx,rfl⟩:=hR
  clear hc_hws
  clear hws
  clear hl1 hl2
  refine A0j (β1:=β') (β2:=_) (fun _=>rfl) (fun hb=>?_)
  generalize u3.union (A0c (β'))=u4 at *
  clear hb
  repeat (first|refine st ?_|refine qb fun bx=>?_)
  refine A2j ⟨[],[(6,.slice ax 0 cx),(7,.int .i64 0)],_⟩ ⟨rfl,rg,fun p=>Nat.le_refl _⟩ ?_
  refine Q_op fun ho=>A0h [] _ ho A5p rfl rfl rfl rfl rfl A0t (A3k) (fun x β' hR=>?_)
  clear ho
  obtain⟨a,cap,rfl,hS⟩:=hR
  have hc_hws:mareW.length≤cap:=(A1f hS dM).choose_spec.choose_spec.2.2.1
  refine A0j (β1:=β') (β2:=_) (fun _=>rfl) (fun hb=>?_)
  have hws:WdsAt (u4.union (A0c (β'))) a mareW:=A0y hb hS
  generalize u4.union (A0c (β'))=u5 at *
  clear hb
  clear hS
  repeat (first|refine st ?_|refine qb fun bx=>?_)
  refine Q_op fun ho=>A0h [] _ ho bod56 rfl rfl rfl rfl rfl A0t (wrong_b (RowAt.le hws (A0a _ _))) (fun x β' hR=>?_)
  clear ho
  obtain⟨am,cm,rfl,hmS⟩:=hR
  clear hc_hws
  clear hws
  refine A0j (β1:=β') (β2:=_) (fun _=>rfl) (fun hb=>?_)
  have hm:RowAt (u5.union (A0c (β'))) am ([0,2].map natV):=A0y hb hmS
  generalize u5.union (A0c (β'))=u6 at *
  clear hb
  clear hmS
  repeat (first|refine st ?_|refine qb fun bx=>?_)
  refine A2j ⟨[],[(6,.slice ax 0 cx),(7,.int .i64 0),(8,.slice am 2 cm),(9,.int .i64 0)],_⟩ ⟨rfl,rg,fun p=>Nat.le_refl _⟩ ?_
  refine Q_op fun ho=>A0h [] _ ho A5p rfl rfl rfl rfl rfl A0t (A3k) (fun x β' hR=>?_)
  clear ho
  obtain⟨a,cap,rfl,hS⟩:=hR
  have hc_hws:mareW.length≤cap:=(A1f hS dM).choose_spec.choose_spec.2.2.1
  refine A0j (β1:=β') (β2:=_) (fun _=>rfl) (fun hb=>?_)
  have hws:WdsAt (u6.union (A0c (β'))) a mareW:=A0y hb hS
  replace hm:=RowAt.le hm (A0a u6 (A0c (β')))
  generalize u6.union (A0c (β'))=u7 at *
  clear hb
  clear hS
  refine Q_op fun ho=>A3i tab ho rfl rfl rfl rfl rfl rfl rfl rfl rfl (fun b1 c1 hL=>?_)
  clear ho
  refine A0j (β1:=[(b1,c1,3)]) (β2:=_) (fun _=>rfl) (fun hb=>?_)
  have hl1:RowAt (u7.union (A0c ([(b1,c1,3)]))) (some ⟨b1,0,none⟩) ([(2:Int),1].map (Value.int .i64)):=RowAt.own hb (show Subm [(b1,c1,3)] [(b1,c1,3)]from cntL) hL
  replace hm:=RowAt.le hm (A0a u7 (A0c ([(b1,c1,3)])))
  replace hws:=RowAt.le hws (A0a u7 (A0c ([(b1,c1,3)])))
  generalize u7.union (A0c ([(b1,c1,3)]))=u8 at *
  clear hb
  clear hL
  repeat (first|refine st ?_|refine qb fun bx=>?_)
  refine Q_op fun ho=>A0h [] _ ho bod56 rfl rfl rfl rfl rfl A0t (wrong_c (RowAt.le hws (A0a _ _)) (RowAt.le hl1 (A0a _ _))) (fun x β' hR=>?_)
  clear ho
  obtain⟨tx,rfl⟩:=hR
  clear hc_hws
  clear hws
  clear hl1
  refine A0j (β1:=β') (β2:=_) (fun _=>rfl) (fun hb=>?_)
  replace hm:=RowAt.le hm (A0a u8 (A0c (β')))
  generalize u8.union (A0c (β'))=u9 at *
  clear hb
  repeat (first|refine st ?_|refine qb fun bx=>?_)
  refine A2j ⟨[],[(6,.slice ax 0 cx),(7,.int .i64 0),(8,.slice am 2 cm),(9,.int .i64 0),(11,.int .i64 5)],_⟩ ⟨rfl,rg,fun p=>Nat.le_refl _⟩ ?_
  refine Q_op fun ho=>A0h [] _ ho bod75 rfl rfl rfl rfl rfl A0t (A9x) (fun x β' hR=>?_)
  clear ho
  obtain⟨a,cap,rfl,hS⟩:=hR
  have hc_hws:moreW.length≤cap:=(A1f hS dM).choose_spec.choose_spec.2.2.1
  refine A0j (β1:=β') (β2:=_) (fun _=>rfl) (fun hb=>?_)
  have hws:WdsAt (u9.union (A0c (β'))) a moreW:=A0y hb hS
  replace hm:=RowAt.le hm (A0a u9 (A0c (β')))
  generalize u9.union (A0c (β'))=u10 at *
  clear hb
  clear hS
  refine Q_op fun ho=>A0q ho bod25 rfl rfl rfl rfl rfl (count_o hws) ?_
  clear ho
  clear hc_hws
  clear hws
  repeat (first|refine st ?_|refine qb fun bx=>?_)
  refine A2j ⟨[],[(6,.slice ax 0 cx),(7,.int .i64 0),(8,.slice am 2 cm),(9,.int .i64 0),(11,.int .i64 5),(12,.int .i64 2),(13,.int .i64 0)],_⟩ ⟨rfl,rg,fun p=>Nat.le_refl _⟩ ?_
  refine Q_op fun ho=>A0h [] _ ho bod76 rfl rfl rfl rfl rfl A0t (itself_x) (fun x β' hR=>?_)
  clear ho
  obtain⟨a,cap,rfl,hS⟩:=hR
  have hc_hws:itselfW.length≤cap:=(A1f hS dM).choose_spec.choose_spec.2.2.1
  refine A0j (β1:=β') (β2:=_) (fun _=>rfl) (fun hb=>?_)
  have hws:WdsAt (u10.union (A0c (β'))) a itselfW:=A0y hb hS
  replace hm:=RowAt.le hm (A0a u10 (A0c (β')))
  generalize u10.union (A0c (β'))=u11 at *
  clear hb
  clear hS
  refine Q_op fun ho=>A0q ho bod25 rfl rfl rfl rfl rfl (count_i hws) ?_
  clear ho
  clear hc_hws
  clear hws
  repeat (first|refine st ?_|refine qb fun bx=>?_)
  refine A2j ⟨[],[(6,.slice ax 0 cx),(7,.int .i64 0),(8,.slice am 2 cm),(9,.int .i64 0),(11,.int .i64 5),(12,.int .i64 2),(13,.int .i64 0),(14,.int .i64 0),(15,.int .i64 0)],_⟩ ⟨rfl,rg,fun p=>Nat.le_refl _⟩ ?_
  refine Q_op fun ho=>A0h [] _ ho bod77 rfl rfl rfl rfl rfl A0t (each_x) (fun x β' hR=>?_)
  clear ho
  obtain⟨a,cap,rfl,hS⟩:=hR
  have hc_hws:eachW.length≤cap:=(A1f hS dM).choose_spec.choose_spec.2.2.1
  refine A0j (β1:=β') (β2:=_) (fun _=>rfl) (fun hb=>?_)
  have hws:WdsAt (u11.union (A0c (β'))) a eachW:=A0y hb hS
  replace hm:=RowAt.le hm (A0a u11 (A0c (β')))
  generalize u11.union (A0c (β'))=u12 at *
  clear hb
  clear hS
  refine Q_op fun ho=>A0q ho bod25 rfl rfl rfl rfl rfl (count_e hws) ?_
  clear ho
  clear hc_hws
  clear hws
  repeat (first|refine sr ?_|refine qb fun bx=>?_)
  refine A6f (fun τ _=>τ=⟨[],[],[]⟩) (fun τ u e=>by subst e;exact B2h known_3 rfl) ?_
  repeat (first|refine st ?_|refine qb fun bx=>?_)
  refine Q_op fun ho=>A3i tab ho rfl rfl rfl rfl rfl rfl rfl rfl rfl (fun b8 c8 hL=>?_)
  clear ho
  refine A0j (β1:=[(b8,c8,3)]) (β2:=_) (fun _=>rfl) (fun hb=>?_)
  have h8:RowAt (u12.union (A0c ([(b8,c8,3)]))) (some ⟨b8,0,none⟩) ([0,2].map natV):=RowAt.own hb (show Subm [(b8,c8,3)] [(b8,c8,3)]from cntL) hL
  replace hm:=RowAt.le hm (A0a u12 (A0c ([(b8,c8,3)])))
  generalize u12.union (A0c ([(b8,c8,3)]))=u13 at *
  clear hb
  clear hL
  refine Q_op fun ho=>A0q ho bod35 rfl rfl rfl rfl rfl (A4v (l:=[0,2]) (m:=[0,2]) hm h8 dM dM) ?_
  clear ho
  rw [show decide (([0,2]:List Nat)=[0,2])=true from rfl]
  clear hm h8
  repeat (first|refine st ?_|refine qb fun bx=>?_)
  exact A0e ⟨_,_,rfl,⟨rfl,trivial,cntL⟩,Le.refl _⟩
theorem known_run{v:View}:Run prog ⟨true,true⟩ (AtTop 20 0) v (G (Frame.enter prog 20 (List.toArray []) .normal) []):=by
  refine top_run func20 rfl nB ?_
  repeat (first|refine st ?_|refine qb fun bx=>?_)
  refine Q_op fun ho=>A0h [] _ ho A5p rfl rfl rfl rfl rfl A0t (A3k) (fun x β' hR=>?_)
  clear ho
  obtain⟨a1,p1,rfl,hS⟩:=hR
  have hc_h1:mareW.length≤p1:=(A1f hS dM).choose_spec.choose_spec.2.2.1
  refine A0j (β1:=β') (β2:=_) (fun _=>rfl) (fun hb=>?_)
  have h1:WdsAt (v.union (A0c (β'))) a1 mareW:=A0y hb hS
  generalize v.union (A0c (β'))=u1 at *
  clear hb
  clear hS
  refine Q_op fun ho=>A0h [] _ ho A5p rfl rfl rfl rfl rfl A0t (A3k) (fun x β' hR=>?_)
  clear ho
  obtain⟨a2,p2,rfl,hS⟩:=hR
  have hc_h2:mareW.length≤p2:=(A1f hS dM).choose_spec.choose_spec.2.2.1
  refine A0j (β1:=β') (β2:=_) (fun _=>rfl) (fun hb=>?_)
  have h2:WdsAt (u1.union (A0c (β'))) a2 mareW:=A0y hb hS
  replace h1:=RowAt.le h1 (A0a u1 (A0c (β')))
  generalize u1.union (A0c (β'))=u2 at *
  clear hb
  clear hS
  repeat (first|refine st ?_|refine qb fun bx=>?_)
  rename_i bx1
  refine Q_op fun ho=>A0q ho bod21 rfl rfl rfl rfl rfl (heard_x) ?_
  clear ho
  repeat (first|refine st ?_|refine qb fun bx=>?_)
  refine Q_op fun ho=>A0h [] _ ho A5p rfl rfl rfl rfl rfl A0t (A3k) (fun x β' hR=>?_)
  clear ho
  obtain⟨a,cap,rfl,hS⟩:=hR
  have hc_hws:mareW.length≤cap:=(A1f hS dM).choose_spec.choose_spec.2.2.1
  refine A0j (β1:=β') (β2:=_) (fun _=>rfl) (fun hb=>?_)
  have hws:WdsAt (u2.union (A0c (β'))) a mareW:=A0y hb hS
  replace h1:=RowAt.le h1 (A0a u2 (A0c (β')))
  replace h2:=RowAt.le h2 (A0a u2 (A0c (β')))
  generalize u2.union (A0c (β'))=u3 at *
  clear hb
  clear hS
  refine Q_op fun ho=>A0q ho bod67 rfl rfl rfl rfl rfl (check_0 hws) ?_
  clear ho
  clear hc_hws
  clear hws
  repeat (first|refine st ?_|refine qb fun bx=>?_)
  refine Q_op fun ho=>A0q ho bod67 rfl rfl rfl rfl rfl (check_5 h1) ?_
  clear ho
  repeat (first|refine st ?_|refine qb fun bx=>?_)
  refine Q_op fun ho=>A0q ho bod67 rfl rfl rfl rfl rfl (check_4 h2) ?_
  clear ho
  repeat (first|refine st ?_|refine qb fun bx=>?_)
  clear h1 h2
  clear hc_h1 hc_h2
  refine Q_op fun ho=>A0q ho A7y rfl rfl rfl rfl rfl A4z ?_
  clear ho
  refine Q_op fun ho=>A0q ho A7y rfl rfl rfl rfl rfl A4z ?_
  clear ho
  refine Q_op fun ho=>A0q ho A7y rfl rfl rfl rfl rfl A4z ?_
  clear ho
  refine Q_op fun ho=>A0q ho A7y rfl rfl rfl rfl rfl A4z ?_
  clear ho
  refine Q_op fun ho=>A0q ho A7y rfl rfl rfl rfl rfl A4z ?_
  clear ho
  refine Q_op fun ho=>A3i tab ho rfl rfl rfl rfl rfl rfl rfl rfl rfl (fun bw cw hL=>?_)
  clear ho
  refine A0j (β1:=[(bw,cw,26)]) (β2:=_) (fun _=>rfl) (fun hb=>?_)
  have hW:WdsAt (u3.union (A0c ([(bw,cw,26)]))) (some ⟨bw,0,none⟩) wordsW:=RowAt.own hb (show Subm [(bw,cw,26)] [(bw,cw,26)]from cntL) hL
  generalize u3.union (A0c ([(bw,cw,26)]))=u4 at *
  clear hb
  clear hL
  repeat (first|refine st ?_|refine qb fun bx=>?_)
  refine Q_op fun ho=>A3i tab ho rfl rfl rfl rfl rfl rfl rfl rfl rfl (fun bd cd hL=>?_)
  clear ho
  refine A0j (β1:=[(bd,cd,34)]) (β2:=_) (fun _=>rfl) (fun hb=>?_)
  have hD:RowAt (u4.union (A0c ([(bd,cd,34)]))) (some ⟨bd,0,none⟩) (duesL.map (Value.int .i64)):=RowAt.own hb (show Subm [(bd,cd,34)] [(bd,cd,34)]from cntL) hL
  replace hW:=RowAt.le hW (A0a u4 (A0c ([(bd,cd,34)])))
  generalize u4.union (A0c ([(bd,cd,34)]))=u5 at *
  clear hb
  clear hL
  repeat (first|refine sr ?_|refine qb fun bx=>?_)
  refine A6f (fun τ _=>τ=⟨[],[],[]⟩) (fun τ u e=>by subst e;exact B2h known_2 rfl) ?_
  repeat (first|refine st ?_|refine qb fun bx=>?_)
  refine A1u (α:=Nat) (fun i=>⟨[],[(5,.int .i64 i),(3,.slice (some ⟨bw,0,none⟩) wordsW.length 5),(4,.slice (some ⟨bd,0,none⟩) duesL.length 5)],[]⟩)
    (fun i u=>u=u5∧i≤5) (fun i=>5-i) 0 ⟨rfl,rg,cntL⟩ (Le.refl _) ⟨rfl,Nat.zero_le _⟩ ?_
  rintro i u ⟨rfl,hi⟩
  repeat (first|refine st ?_|refine qb fun bx=>?_)
  refine A0x rfl (fun h=>?_) (fun h=>?_)
  · replace h:=fa h
    have hlt:i<wordsW.length:=by have:wordsW.length=5:=rfl;omega
    have hlt':i<duesL.length:=hlt
    obtain⟨b1,o1,p1,k1,e1,f1,e,hv1,hc1⟩:=WdsAt.get hW hlt
    cases e
    obtain⟨b2,o2,p2,k2,e2,f2,e,hv2,hc2⟩:=hD.ints hlt'
    cases e
    clear h
    repeat (first|refine st ?_|refine qb fun bx=>?_)
    refine A2p [0,5,6,13,18] [1,2,3,4,7,8,9,10,0,5,6,11,12,14,15,16,17,19,20,21,22,13,18,23,24] A1w rfl kR ?_
    repeat (refine ss ?_)
    refine A0u tab i rfl rfl rfl kR rfl rfl rfl rfl rfl hlt ?_
    refine A6m tab rfl rfl rfl kR rfl hv1 (A1z tab rfl rfl rfl (hc1 i hlt)) ?_
    repeat (refine ss ?_)
    refine A0u tab i rfl rfl rfl kR rfl rfl rfl rfl rfl hlt' ?_
    refine A6m tab rfl rfl rfl kR rfl hv2 (A1a tab rfl rfl rfl (by rw [Nat.mul_one];exact hc2 i hlt')) ?_
    repeat (refine ss ?_)
    refine S_do kR (A0h [] _ rfl A5p rfl rfl rfl rfl rfl A0t (A3k) (fun x β' hR=>⟨Le.refl _,?_,?_⟩))
    · exact kp
    obtain⟨am,cm,rfl,hSm⟩:=hR
    rename A0l=>βm
    repeat (refine ss ?_)
    refine S_do kR (A0h βm [] rfl bod64 rfl rfl rfl rfl rfl (fun _=>rfl) (CallsB.kept (fun hb=>with_x (x:=wordsW[i]) (RowAt.own hb cntL hSm) dM)) (fun x β' hR=>⟨Le.refl _,?_,?_⟩))
    · exact kp
    obtain⟨β3,⟨a3,c3,rfl,hS3⟩,rfl⟩:=hR
    repeat (refine ss ?_)
    refine S_do kR (A0h (β3++βm) [] rfl bod67 rfl rfl rfl rfl rfl (fun _=>rfl) (Ret1.box (fun hb=>check_i hlt hlt' (RowAt.own hb cntL hS3))) (fun x β' hR=>⟨Le.refl _,?_,?_⟩))
    · exact kp
    obtain⟨rfl,rfl⟩:=hR
    repeat (refine ss ?_)
    rw [show(duesL[i] != duesL[i])=false from by simp]
    repeat (refine ss ?_)
    refine A0u tab i rfl rfl rfl kR rfl rfl rfl rfl rfl hlt ?_
    refine A6m tab rfl rfl rfl kR rfl hv1 (A1z tab rfl rfl rfl (hc1 i hlt)) ?_
    repeat (refine ss ?_)
    refine A0u tab i rfl rfl rfl kR rfl rfl rfl rfl rfl hlt' ?_
    refine A6m tab rfl rfl rfl kR rfl hv2 (A1a tab rfl rfl rfl (by rw [Nat.mul_one];exact hc2 i hlt')) ?_
    repeat (refine ss ?_)
    refine S_do kR (A0h [] _ rfl A5p rfl rfl rfl rfl rfl A0t (A3k) (fun x β' hR=>⟨Le.refl _,?_,?_⟩))
    · exact kp
    obtain⟨a4,c4,rfl,hS4⟩:=hR
    rename A0l=>β4
    repeat (refine ss ?_)
    refine S_do kR (A0h β4 _ rfl bod69 rfl rfl rfl rfl rfl (fun _=>rfl) (Ret1.box (fun hb=>cword_i hlt hlt' (RowAt.own hb cntL hS4))) (fun x β' hR=>⟨Le.refl _,?_,?_⟩))
    · exact kp
    obtain⟨rfl,rfl⟩:=hR
    repeat (refine ss ?_)
    rw [show(duesL[i] != duesL[i])=false from by simp]
    repeat (first|refine st ?_|refine qb fun bx=>?_)
    exact A0e ⟨i+1,_,(by have:wordsW.length=5:=rfl;omega),⟨rfl,rg,cntL⟩,Le.refl _,rfl,hlt⟩
  clear h
  repeat (first|refine st ?_|refine qb fun bx=>?_)
  exact A0e ⟨_,_,rfl,⟨rfl,trivial,cntL⟩,Le.refl _⟩
end
end Go.Proofs.YtiolobmgibdfmaaGreat
end
