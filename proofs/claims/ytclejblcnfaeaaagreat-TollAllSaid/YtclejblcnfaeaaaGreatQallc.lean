/- Part 45. -/
import Derived.Test.YtclejblcnfaeaaaGreatQallb
set_option linter.all false
section
namespace Go.Proofs.YtclejblcnfaeaaaGreat
open Go Go.Pal Go.Pal.To Go.Conc View
open Go.Proofs.Tryz
set_option maxHeartbeats 4000000
set_option maxRecDepth 20000
structure LvS where
 n:Nat
 aN:Option Addr
 cN:Nat
 rN:List (List Value)
 aO:Option Addr
 cO:Nat
 sO:A0e
 rO:List (List Value)
structure LjS where
 i:Nat
 aO:Option Addr
 cO:Nat
 sO:A0e
 rO:List (List Value)
 aX:Option Addr
 cX:Nat
 sX:A0e
 rX:List (List Value)
def AwS(regs:Regs)(u0:View)(O X:List Lw)(σ:St)(u:View):Prop:=
 u0.Le u∧∃aO cO sO rO aX cX sX rX sR,σ=⟨[],(7,.slice aX X.length cX)::(6,.slice aO O.length cO)::regs,sO++(sX++sR)⟩∧OwnS 91 2 sO aO O.length cO (List.flatten rO)∧OwnS 91 2 sX aX X.length cX (List.flatten rX)∧(Bok sR u→LwsAt (u.union (A0c sR)) rO O∧LwsAt (u.union (A0c sR)) rX X)
section
variable{mn:Who}{v:View}{p q:List MA}{aA aB:Option Addr}{cA' cB':Nat}
theorem waysL_x(hp:p.length≤4)(hq:q.length≤4)(ha:ActsAt v aA p)(hb:ActsAt v aB q) :
    A6l prog mn 118 [.slice aA p.length cA',.slice aB q.length cB'] (fun x u=>∃al cl rows,x = .slice al (allW p q).length cl∧RowAt u al (List.flatten rows)∧LwsAt u rows (allW p q)) v:=by
  refine A3k tab func118 Y nB (args:=[_,_]) ?_
  refine su ?_
  refine Q_op fun ho=>A3w tab ho Y Y Y Y Y Y Y Y Y (fun b0 c0 hL=>?_)
  clear ho
  refine A8x (β1:=[(b0,c0,91)]) (β2:=[]) cntA (fun hbk=>?_)
  have r0:RowAt _ (some ⟨b0,0,none⟩) (List.flatten [lwC none 0 0 none 0 0]):=RowAt.own hbk (by exact cntL) hL
  have hv1:=A0g v (A0c [(b0,c0,91)])
  clear hbk hL
  generalize v.union (A0c [(b0,c0,91)])=v1 at *
  have hN:∀n,n≤p.length+q.length+1→3 ^ n≤19683:=fun n hn=>Nat.le_trans (Nat.pow_le_pow_right dM (show n≤9 by omega)) dM
  refine su ?_
  refine A1q (α:=LvS) (fun z=>⟨[],[(6,.slice z.aO (outs p q z.n).length z.cO),(5,.slice z.aN (lev p q z.n).length z.cN),(0,.slice aA p.length cA'),(1,.slice aB q.length cB')],z.sO⟩)
    (fun z u=>v1.Le u∧z.n≤p.length+q.length+1∧RowAt u z.aN (List.flatten z.rN)∧LwsAt u z.rN (lev p q z.n)∧OwnS 91 2 z.sO z.aO (outs p q z.n).length z.cO (List.flatten z.rO)∧LwsAt u z.rO (outs p q z.n)) (fun z=>p.length+q.length+1-z.n)
    ⟨0,some ⟨b0,0,none⟩,1,[lwC none 0 0 none 0 0],none,0,[],[]⟩ ⟨Y,rg,cntL⟩ (Le.refl _) ⟨Le.refl _,Nat.zero_le _,r0,.cons ⟨none,0,none,0,Y,.inl Y,.inl Y⟩ .nil,.nil,.nil⟩ ?_
  rintro⟨n,aN,cN,rN,aO,cO,sO,rO⟩ u ⟨hvu,hn,hrN,hwN,hO,hwO⟩
  dsimp only at hn hrN hwN hO hwO⊢
  refine su ?_
  by_cases hl0:lev p q n=[]
  · rw [hl0]
    obtain⟨j,hj⟩:∃j,p.length+q.length+1=n+j:=⟨p.length+q.length+1-n,oM⟩
    have he:outs p q n=allW p q:=by unfold allW;rw [hj,outs_stop hl0 j]
    rw [he]at hO hwO⊢
    refine su ?_
    refine A2m tab (by exact .tmp rfl .nil) (hv1.trans hvu) fun hb2 hle=>?_
    exact⟨aO,cO,rO,Y,RowAt.own hb2 cntL hO,hwO.le hle⟩
  · have hll:(lev p q n).length≠0:=fun e=>hl0 (List.length_eq_zero_iff.1 e)
    rw [show decide (((lev p q n).length:Int) > 0)=true from decide_eq_true oM]
    have hn2:n≤p.length+q.length:=Nat.le_of_not_lt fun h=>hl0 (lev_end h)
    have h3:=hN n hn
    have h4:=hN (n+1) oM
    have hLl:=lev_len p q n
    have hXl:=lev_len p q (n+1)
    have hOl:=outs_len p q n
    have hOl2:=outs_len p q (n+1)
    have hLf:∀w∈lev p q n,LevF p q n w:=fun w hw=>lev_facts hw
    have hOs:=outs_succ p q n
    rw [show lev p q (n+1)=(lev p q n).flatMap (nxt p q)from rfl]at hXl
    have hLs:lev p q (n+1)=(lev p q n).flatMap (nxt p q):=rfl
    obtain⟨L1,hL1⟩:∃L1,L1=lev p q (n+1):=⟨_,rfl⟩
    rw [←hL1]at hLs
    generalize lev p q n=L at *
    refine su ?_
    refine A1q (α:=LjS) (fun z=>⟨[],[(8,.int .i64 z.i),(7,.slice z.aX ((L.take z.i).flatMap (nxt p q)).length z.cX),(6,.slice z.aO (outs p q n++(L.take z.i).filter (full p q)).length z.cO),(5,.slice aN L.length cN),(0,.slice aA p.length cA'),(1,.slice aB q.length cB')],z.sO++z.sX⟩)
      (fun z w=>u.Le w∧z.i≤L.length∧OwnS 91 2 z.sO z.aO (outs p q n++(L.take z.i).filter (full p q)).length z.cO (List.flatten z.rO)∧LwsAt w z.rO (outs p q n++(L.take z.i).filter (full p q))∧OwnS 91 2 z.sX z.aX ((L.take z.i).flatMap (nxt p q)).length z.cX (List.flatten z.rX)∧LwsAt w z.rX ((L.take z.i).flatMap (nxt p q))) (fun z=>L.length-z.i)
      ⟨0,aO,cO,sO,rO,none,0,[],[]⟩ ⟨Y,(by dsimp only;simp only [List.take_zero,List.flatMap_nil,List.filter_nil,List.append_nil];exact rg),cntL⟩ (Le.refl _) ⟨Le.refl _,Nat.zero_le _,by dsimp only;simpa using hO,by dsimp only;simpa using hwO,.nil,.nil⟩ ?_
    clear hO hwO
    rintro⟨i,aO,cO,sO,rO,aX,cX,sX,rX⟩ w ⟨huw,hi,hO,hwO,hX,hwX⟩
    dsimp only at hi hO hwO hX hwX⊢
    have hXi:=flat_len3 (nxt_len p q) (L.take i)
    have hOi:=List.length_filter_le (full p q) (L.take i)
    rw [List.length_take]at hXi hOi
    refine su ?_
    refine A1i Y (fun h=>?_) (fun h=>?_)
    · have hli:i<L.length:=by have:=of_decide_eq_true h;omega
      clear h
      have htF:=take_flat (f:=nxt p q) hli
      have htO:=take_filter (f:=full p q) hli
      have hXf:((L.take (i+1)).flatMap (nxt p q)).length≤40000:=by
        rw [htF,List.length_append]
        have:=nxt_len p q L[i]
        omega
      have hOf:(outs p q n++(L.take (i+1)).filter (full p q)).length≤40000:=by
        rw [htO,←List.append_assoc,List.length_append,List.length_append]
        have:(if full p q L[i]=true then [L[i]]else []).length≤1:=by split<;>simp
        omega
      refine ru ?_
      refine A6q (AwS [(8,.int .i64 i),(5,.slice aN L.length cN),(0,.slice aA p.length cA'),(1,.slice aB q.length cB')] w (outs p q n++(L.take (i+1)).filter (full p q)) ((L.take (i+1)).flatMap (nxt p q))) ?_ ?_
      rotate_left
      · rw [htF]at hXf⊢
        rw [htO]at hOf⊢
        obtain⟨bN,oN,kN,dN,eN,fN,am,cm,ab,cb,rfl,hvN,hcN,hcN0,hcN1,hm,hbk⟩:=lws_read (hrN.le huw) (hwN.le huw) hli
        have hwf:=hLf _ (List.getElem_mem hli)
        generalize L[i]=wy at *
        obtain⟨hwa,hwb,hml,hbl,hmem⟩:=hwf
        refine su ?_
        refine A1q (α:=Nat) (fun k=>⟨[],[(11,.int .i64 k),(9,natV (cA (wy.marks.take k))),(10,natV (cB (wy.marks.take k))),(8,.int .i64 i),(7,.slice aX ((L.take i).flatMap (nxt p q)).length cX),(6,.slice aO (outs p q n++(L.take i).filter (full p q)).length cO),(5,.slice (some ⟨bN,oN,none⟩) L.length cN),(0,.slice aA p.length cA'),(1,.slice aB q.length cB')],sO++sX⟩)
          (fun k z=>z=w∧k≤wy.marks.length) (fun k=>wy.marks.length-k) 0 ⟨Y,rg,cntL⟩ (Le.refl _) ⟨Y,Nat.zero_le _⟩ ?_
        rintro k z ⟨rfl,hk⟩
        have hca:=cA_le wy.marks k
        have hcb:=cB_le wy.marks k
        refine su ?_
        refine A6d tab i Y Y Y Y Y Y Y hli ?_
        refine su ?_
        refine A2b tab Y Y Y hvN (A0l tab Y Y Y hcN0) ?_
        refine su ?_
        refine A1i Y (fun h=>?_) (fun h=>?_)
        · have hlk:k<wy.marks.length:=by have:=of_decide_eq_true h;omega
          clear h
          have eA:=cA_take hlk
          have eB:=cB_take hlk
          obtain⟨bm,om,pm,dm,em,fm,rfl,hvm,hcm⟩:=RowAt.get hm hlk
          replace hcm:=hcm k hlk
          generalize wy.marks[k]=mk at *
          refine su ?_
          refine A6d tab i Y Y Y Y Y Y Y hli ?_
          refine su ?_
          refine A2b tab Y Y Y hvN (A0l tab Y Y Y hcN0) ?_
          refine su ?_
          refine A6d tab k Y Y Y Y Y Y Y hlk ?_
          refine A2b tab Y Y Y hvm (A0l tab Y Y Y (by rw [Nat.mul_one];exact hcm)) ?_
          refine su ?_
          cases h2:(mk != 2)
          all_goals
            rw [h2]at eA
            refine su ?_
            refine A6d tab i Y Y Y Y Y Y Y hli ?_
            refine su ?_
            refine A2b tab Y Y Y hvN (A0l tab Y Y Y hcN0) ?_
            refine su ?_
            refine A6d tab k Y Y Y Y Y Y Y hlk ?_
            refine A2b tab Y Y Y hvm (A0l tab Y Y Y (by rw [Nat.mul_one];exact hcm)) ?_
            refine su ?_
            cases h1:(mk != 1)
            all_goals
              rw [h1]at eB
              refine su ?_
              refine A0b ⟨k+1,z,oM,⟨Y,?_,cntL⟩,Le.refl _,Y,hlk⟩
              rw [eA,eB]
              exact rg
        · have hkn:k=wy.marks.length:=by have:=of_decide_eq_false h;omega
          clear h
          subst hkn
          rw [List.take_length]at hca hcb⊢
          refine ru ?_
          refine A6q (AwS [(9,natV (cA wy.marks)),(10,natV (cB wy.marks)),(8,.int .i64 i),(5,.slice (some ⟨bN,oN,none⟩) L.length cN),(0,.slice aA p.length cA'),(1,.slice aB q.length cB')] z (outs p q n++((L.take i).filter (full p q)++if full p q wy=true then [wy]else [])) ((L.take i).flatMap (nxt p q))) ?_ ?_
          rotate_left
          · refine su ?_
            rw [show full p q wy=(cA wy.marks==p.length&&cB wy.marks==q.length)from rfl]
            have hOx:(outs p q n++(L.take i).filter (full p q)).length≤39366:=by rw [List.length_append];omega
            by_cases hfa:cA wy.marks=p.length
            · rw [show(((cA wy.marks:Nat):Int)==((p.length:Nat):Int))=true from by rw [beq_iff_eq];omega,show(cA wy.marks==p.length)=true from by rw [beq_iff_eq];exact hfa,Bool.true_and]
              refine su ?_
              by_cases hfb:cB wy.marks=q.length
              · rw [show(((cB wy.marks:Nat):Int)==((q.length:Nat):Int))=true from by rw [beq_iff_eq];omega,show(cB wy.marks==q.length)=true from by rw [beq_iff_eq];exact hfb,if_pos rfl]
                refine su ?_
                refine A6d tab i Y Y Y Y Y Y Y hli ?_
                refine su ?_
                refine A2b tab Y Y Y hvN (A1g tab (x:=lwC am wy.marks.length cm ab wy.book.length cb) Y Y Y hcN) ?_
                refine Q_op fun ho=>A3w tab ho Y Y Y Y Y Y Y Y Y (fun b5 c5 hL5=>?_)
                clear ho
                refine Q_op fun ho=>A3x tab (xs:=lwC am wy.marks.length cm ab wy.book.length cb) sO [(b5,c5,91)] sX ho Y Y Y Y Y Y Y Y Y Y cntA hO (fun hb=>RowAt.own hb cntL hL5) Y Y oM oM (fun sg a1 c1 hS=>?_)
                clear ho
                refine su ?_
                refine A0b ⟨_,_,⟨Le.refl _,a1,c1,sg,rO++[lwC am wy.marks.length cm ab wy.book.length cb],aX,cX,sX,rX,[],Y,?_,hX,fun _=>?_⟩,⟨Y,?_,cntL⟩,Le.refl _⟩
                · rw [List.flatten_append,←List.append_assoc,List.length_append]
                  simpa using hS
                · rw [A1r,←List.append_assoc]
                  exact⟨LwsAt.app (.cons ⟨am,cm,ab,cb,Y,hm,hbk⟩ .nil) hwO,hwX⟩
                · rw [←List.append_assoc,List.length_append (bs:=[wy])]
                  exact rg
              · rw [show(((cB wy.marks:Nat):Int)==((q.length:Nat):Int))=false from by rw [beq_eq_false_iff_ne];omega,show(cB wy.marks==q.length)=false from by rw [beq_eq_false_iff_ne];exact hfb,if_neg dM,List.append_nil]
                refine su ?_
                exact A0b ⟨_,_,⟨Le.refl _,aO,cO,sO,rO,aX,cX,sX,rX,[],Y,hO,hX,fun _=>by rw [A1r];exact⟨hwO,hwX⟩⟩,⟨Y,rg,cntL⟩,Le.refl _⟩
            · rw [show(((cA wy.marks:Nat):Int)==((p.length:Nat):Int))=false from by rw [beq_eq_false_iff_ne];omega,show(cA wy.marks==p.length)=false from by rw [beq_eq_false_iff_ne];exact hfa,Bool.false_and,if_neg dM,List.append_nil]
              refine su ?_
              exact A0b ⟨_,_,⟨Le.refl _,aO,cO,sO,rO,aX,cX,sX,rX,[],Y,hO,hX,fun _=>by rw [A1r];exact⟨hwO,hwX⟩⟩,⟨Y,rg,cntL⟩,Le.refl _⟩
          clear hO hwO hX hwX
          rintro σ w1 ⟨hw1,aO,cO,sO,rO,aX,cX,sX,rX,sR,rfl,hO,hX,hR⟩
          refine XC_retire (β1:=sR) (β2:=sO++sX) cntA (fun hbz=>?_)
          obtain⟨hwO,hwX⟩:=hR hbz
          replace hw1:=hw1.trans (A0g w1 (A0c sR))
          replace huw:=huw.trans hw1
          replace hvN:=hw1 _ _ hvN
          replace hm:=hm.le hw1
          replace hbk:=ActsAt.le hbk hw1
          have hzz:=hw1
          clear hbz hR hw1
          generalize w1.union (A0c sR)=z1 at *
          have hX1:(((L.take i).flatMap (nxt p q))++nx0 p q wy).length≤30000:=by rw [List.length_append];have:=nxt_len p q wy;unfold nxt at this;rw [List.length_append,List.length_append]at this;omega
          refine ru ?_
          refine A6q (AwS [(9,natV (cA wy.marks)),(10,natV (cB wy.marks)),(8,.int .i64 i),(5,.slice (some ⟨bN,oN,none⟩) L.length cN),(0,.slice aA p.length cA'),(1,.slice aB q.length cB')] z1 (outs p q n++((L.take i).filter (full p q)++if full p q wy=true then [wy]else [])) (((L.take i).flatMap (nxt p q))++nx0 p q wy)) ?_ ?_
          rotate_left
          · by_cases hia:cA wy.marks<p.length∧cB wy.marks<q.length
            · obtain⟨hia,hib⟩:=hia
              obtain⟨bP,oP,kP,dP,eP,fP,rfl,hPv,hPc⟩:=ActsAt.get (ActsAt.le ha (hv1.trans (hvu.trans huw))) (i:=cA wy.marks) hia
              replace hPc:=hPc _ hia
              have hPi:=hia
              have hPx:p[cA wy.marks]?=some p[cA wy.marks]:=List.getElem?_eq_getElem hia
              obtain⟨bQ,oQ,kQ,dQ,eQ,fQ,rfl,hQv,hQc⟩:=ActsAt.get (ActsAt.le hb (hv1.trans (hvu.trans huw))) (i:=cB wy.marks) hib
              replace hQc:=hQc _ hib
              have hQi:=hib
              have hQx:q[cB wy.marks]?=some q[cB wy.marks]:=List.getElem?_eq_getElem hib
              rw [nx0_some hPx hQx]
              generalize p[cA wy.marks]=xP at *
              generalize q[cB wy.marks]=xQ at *
              refine A4i ?_
              refine XC_lex A1e Y kR ?_
              refine su ?_
              rw [show decide (((cA wy.marks:Nat):Int)<((p.length:Nat):Int))=true from decide_eq_true oM]
              refine su ?_
              rw [show decide (((cB wy.marks:Nat):Int)<((q.length:Nat):Int))=true from decide_eq_true oM]
              refine su ?_
              refine A1m tab (cA wy.marks) Y Y Y Y Y Y Y hPi ?_
              refine su ?_
              refine A4l tab Y Y Y hPv (A1g tab (x:=xP.cells) Y Y Y hPc) ?_
              refine su ?_
              refine A1m tab (cB wy.marks) Y Y Y Y Y Y Y hQi ?_
              refine su ?_
              refine A4l tab Y Y Y hQv (A1g tab (x:=xQ.cells) Y Y Y hQc) ?_
              refine su ?_
              refine L_eqlA (a:=xP) (b:=xQ) Y Y Y Y ?_
              by_cases hxy:xP=xQ
              · rw [decide_eq_true hxy,if_pos hxy]
                refine su ?_
                refine A1d [9,10,11] [0,1,2,3,4,5,6,7,8,9,10,11,12] A1e Y kR ?_
                refine su ?_
                refine A0s tab i Y Y Y kR Y Y Y Y Y hli ?_
                refine su ?_
                refine A8v tab Y Y Y kR Y hvN (A1g tab (x:=lwC am wy.marks.length cm ab wy.book.length cb) Y Y Y hcN) ?_
                refine su ?_
                refine A0s tab (cA wy.marks) Y Y Y kR Y Y Y Y Y hPi ?_
                refine su ?_
                refine A8v tab Y Y Y kR Y hPv (A1g tab (x:=xP.cells) Y Y Y hPc) ?_
                refine su ?_
                refine S_do kR (A0o [] _ Y bod142 Y Y Y Y Y A7s (longer_x (x:=xP) (w:=wy) (mark:=0) (y:=lwC am wy.marks.length cm ab wy.book.length cb) ⟨am,cm,ab,cb,Y,hm.le (A0g _ _),ActsAt.le hbk (A0g _ _)⟩ oM oM) (fun z2 β2 hR=>⟨Le.refl _,kp,?_⟩))
                obtain⟨am2,cm2,ab2,cb2,rfl,hy'⟩:=hR
                refine su ?_
                refine S_do kR (A3w tab Y Y Y Y Y Y Y Y Y Y (fun b5 c5 hL5=>⟨Le.refl _,kp,?_⟩))
                refine su ?_
                refine S_do kR (A3x tab (xs:=lwC am2 (wy.marks++[0]).length cm2 ab2 (wy.book++[xP]).length cb2) sX [(b5,c5,91)] (β2++sO) Y Y Y Y Y Y Y Y Y Y Y cntA hX (fun hb=>RowAt.own hb cntL hL5) Y Y oM oM (fun sg a1 c1 hS=>⟨Le.refl _,kp,?_⟩))
                refine su ?_
                refine A0b ⟨_,_,⟨Le.refl _,aO,cO,sO,rO,a1,c1,sg,rX++[lwC am2 (wy.marks++[0]).length cm2 ab2 (wy.book++[xP]).length cb2],β2,Y,hO,?_,fun hb=>⟨hwO.le (A0g _ _),LwsAt.app (.cons (hy' _ hb) .nil) (hwX.le (A0g _ _))⟩⟩,⟨Y,?_,cntL⟩,Le.refl _⟩
                · rw [List.flatten_append,List.length_append]
                  simpa using hS
                · rw [List.length_append (bs:=[_])]
                  exact rg
              · rw [decide_eq_false hxy,if_neg hxy,List.append_nil]
                refine su ?_
                exact A0b ⟨_,_,⟨Le.refl _,aO,cO,sO,rO,aX,cX,sX,rX,[],Y,hO,hX,fun _=>by rw [A1r];exact⟨hwO,hwX⟩⟩,⟨Y,rg,cntL⟩,Le.refl _⟩
            · rw [nx0_none hia,List.append_nil]
              refine A4i ?_
              refine XC_lex A1e Y kR ?_
              refine su ?_
              by_cases hi1:cA wy.marks<p.length
              · rw [show decide (((cA wy.marks:Nat):Int)<((p.length:Nat):Int))=true from decide_eq_true oM]
                refine su ?_
                rw [show decide (((cB wy.marks:Nat):Int)<((q.length:Nat):Int))=false from decide_eq_false oM]
                refine su ?_
                exact A0b ⟨_,_,⟨Le.refl _,aO,cO,sO,rO,aX,cX,sX,rX,[],Y,hO,hX,fun _=>by rw [A1r];exact⟨hwO,hwX⟩⟩,⟨Y,rg,cntL⟩,Le.refl _⟩
              · rw [show decide (((cA wy.marks:Nat):Int)<((p.length:Nat):Int))=false from decide_eq_false oM]
                refine su ?_
                exact A0b ⟨_,_,⟨Le.refl _,aO,cO,sO,rO,aX,cX,sX,rX,[],Y,hO,hX,fun _=>by rw [A1r];exact⟨hwO,hwX⟩⟩,⟨Y,rg,cntL⟩,Le.refl _⟩
          clear hO hwO hX hwX
          rintro σ w1 ⟨hw1,aO,cO,sO,rO,aX,cX,sX,rX,sR,rfl,hO,hX,hR⟩
          refine XC_retire (β1:=sR) (β2:=sO++sX) cntA (fun hbz=>?_)
          obtain⟨hwO,hwX⟩:=hR hbz
          replace hw1:=hw1.trans (A0g w1 (A0c sR))
          replace huw:=huw.trans hw1
          replace hvN:=hw1 _ _ hvN
          replace hm:=hm.le hw1
          replace hbk:=ActsAt.le hbk hw1
          replace hzz:=hzz.trans hw1
          clear hbz hR hw1
          generalize w1.union (A0c sR)=z2 at *
          have hX2:((((L.take i).flatMap (nxt p q))++nx0 p q wy)++nx1 p wy).length≤30000:=by rw [List.length_append,List.length_append];have:=nxt_len p q wy;unfold nxt at this;rw [List.length_append,List.length_append]at this;omega
          refine ru ?_
          refine A6q (AwS [(9,natV (cA wy.marks)),(10,natV (cB wy.marks)),(8,.int .i64 i),(5,.slice (some ⟨bN,oN,none⟩) L.length cN),(0,.slice aA p.length cA'),(1,.slice aB q.length cB')] z2 (outs p q n++((L.take i).filter (full p q)++if full p q wy=true then [wy]else [])) ((((L.take i).flatMap (nxt p q))++nx0 p q wy)++nx1 p wy)) ?_ ?_
          rotate_left
          · refine su ?_
            by_cases hia:cA wy.marks<p.length
            ·
              obtain⟨bP,oP,kP,dP,eP,fP,rfl,hPv,hPc⟩:=ActsAt.get (ActsAt.le ha (hv1.trans (hvu.trans huw))) (i:=cA wy.marks) hia
              replace hPc:=hPc _ hia
              have hPi:=hia
              have hPx:p[cA wy.marks]?=some p[cA wy.marks]:=List.getElem?_eq_getElem hia
              rw [nx1_some hPx]
              generalize p[cA wy.marks]=xP at *
              rw [show decide (((cA wy.marks:Nat):Int)<((p.length:Nat):Int))=true from decide_eq_true oM]
              refine su ?_
              refine A1d [9,10,11] [0,1,2,3,4,5,6,7,8,9,10,11,12] A1e Y kR ?_
              refine su ?_
              refine A0s tab i Y Y Y kR Y Y Y Y Y hli ?_
              refine su ?_
              refine A8v tab Y Y Y kR Y hvN (A1g tab (x:=lwC am wy.marks.length cm ab wy.book.length cb) Y Y Y hcN) ?_
              refine su ?_
              refine A0s tab (cA wy.marks) Y Y Y kR Y Y Y Y Y hPi ?_
              refine su ?_
              refine A8v tab Y Y Y kR Y hPv (A1g tab (x:=xP.cells) Y Y Y hPc) ?_
              refine su ?_
              refine S_do kR (A0o [] _ Y bod142 Y Y Y Y Y A7s (longer_x (x:=xP) (w:=wy) (mark:=1) (y:=lwC am wy.marks.length cm ab wy.book.length cb) ⟨am,cm,ab,cb,Y,hm.le (A0g _ _),ActsAt.le hbk (A0g _ _)⟩ oM oM) (fun z2 β2 hR=>⟨Le.refl _,kp,?_⟩))
              obtain⟨am2,cm2,ab2,cb2,rfl,hy'⟩:=hR
              refine su ?_
              refine S_do kR (A3w tab Y Y Y Y Y Y Y Y Y Y (fun b5 c5 hL5=>⟨Le.refl _,kp,?_⟩))
              refine su ?_
              refine S_do kR (A3x tab (xs:=lwC am2 (wy.marks++[1]).length cm2 ab2 (wy.book++[xP]).length cb2) sX [(b5,c5,91)] (β2++sO) Y Y Y Y Y Y Y Y Y Y Y cntA hX (fun hb=>RowAt.own hb cntL hL5) Y Y oM oM (fun sg a1 c1 hS=>⟨Le.refl _,kp,?_⟩))
              refine su ?_
              refine A0b ⟨_,_,⟨Le.refl _,aO,cO,sO,rO,a1,c1,sg,rX++[lwC am2 (wy.marks++[1]).length cm2 ab2 (wy.book++[xP]).length cb2],β2,Y,hO,?_,fun hb=>⟨hwO.le (A0g _ _),LwsAt.app (.cons (hy' _ hb) .nil) (hwX.le (A0g _ _))⟩⟩,⟨Y,?_,cntL⟩,Le.refl _⟩
              · rw [List.flatten_append,List.length_append]
                simpa using hS
              · rw [List.length_append (bs:=[_])]
                exact rg
            · rw [nx1_none hia,List.append_nil]
              rw [show decide (((cA wy.marks:Nat):Int)<((p.length:Nat):Int))=false from decide_eq_false oM]
              refine su ?_
              exact A0b ⟨_,_,⟨Le.refl _,aO,cO,sO,rO,aX,cX,sX,rX,[],Y,hO,hX,fun _=>by rw [A1r];exact⟨hwO,hwX⟩⟩,⟨Y,rg,cntL⟩,Le.refl _⟩
          clear hO hwO hX hwX
          rintro σ w1 ⟨hw1,aO,cO,sO,rO,aX,cX,sX,rX,sR,rfl,hO,hX,hR⟩
          refine XC_retire (β1:=sR) (β2:=sO++sX) cntA (fun hbz=>?_)
          obtain⟨hwO,hwX⟩:=hR hbz
          replace hw1:=hw1.trans (A0g w1 (A0c sR))
          replace huw:=huw.trans hw1
          replace hvN:=hw1 _ _ hvN
          replace hm:=hm.le hw1
          replace hbk:=ActsAt.le hbk hw1
          replace hzz:=hzz.trans hw1
          clear hbz hR hw1
          generalize w1.union (A0c sR)=z3 at *
          rw [show((L.take i).flatMap (nxt p q)++nxt p q wy)=(((((L.take i).flatMap (nxt p q))++nx0 p q wy)++nx1 p wy)++nx2 q wy)from by unfold nxt;simp only [List.append_assoc]]at hXf⊢
          refine su ?_
          by_cases hia:cB wy.marks<q.length
          ·
            obtain⟨bQ,oQ,kQ,dQ,eQ,fQ,rfl,hQv,hQc⟩:=ActsAt.get (ActsAt.le hb (hv1.trans (hvu.trans huw))) (i:=cB wy.marks) hia
            replace hQc:=hQc _ hia
            have hQi:=hia
            have hQx:q[cB wy.marks]?=some q[cB wy.marks]:=List.getElem?_eq_getElem hia
            rw [nx2_some hQx]
            generalize q[cB wy.marks]=xQ at *
            rw [show decide (((cB wy.marks:Nat):Int)<((q.length:Nat):Int))=true from decide_eq_true oM]
            refine su ?_
            refine A1d [9,10,11] [0,1,2,3,4,5,6,7,8,9,10,11,12] A1e Y kR ?_
            refine su ?_
            refine A0s tab i Y Y Y kR Y Y Y Y Y hli ?_
            refine su ?_
            refine A8v tab Y Y Y kR Y hvN (A1g tab (x:=lwC am wy.marks.length cm ab wy.book.length cb) Y Y Y hcN) ?_
            refine su ?_
            refine A0s tab (cB wy.marks) Y Y Y kR Y Y Y Y Y hQi ?_
            refine su ?_
            refine A8v tab Y Y Y kR Y hQv (A1g tab (x:=xQ.cells) Y Y Y hQc) ?_
            refine su ?_
            refine S_do kR (A0o [] _ Y bod142 Y Y Y Y Y A7s (longer_x (x:=xQ) (w:=wy) (mark:=2) (y:=lwC am wy.marks.length cm ab wy.book.length cb) ⟨am,cm,ab,cb,Y,hm.le (A0g _ _),ActsAt.le hbk (A0g _ _)⟩ oM oM) (fun z2 β2 hR=>⟨Le.refl _,kp,?_⟩))
            obtain⟨am2,cm2,ab2,cb2,rfl,hy'⟩:=hR
            refine su ?_
            refine S_do kR (A3w tab Y Y Y Y Y Y Y Y Y Y (fun b5 c5 hL5=>⟨Le.refl _,kp,?_⟩))
            refine su ?_
            refine S_do kR (A3x tab (xs:=lwC am2 (wy.marks++[2]).length cm2 ab2 (wy.book++[xQ]).length cb2) sX [(b5,c5,91)] (β2++sO) Y Y Y Y Y Y Y Y Y Y Y cntA hX (fun hb=>RowAt.own hb cntL hL5) Y Y oM oM (fun sg a1 c1 hS=>⟨Le.refl _,kp,?_⟩))
            refine su ?_
            refine A0b ⟨_,_,⟨hzz,aO,cO,sO,rO,a1,c1,sg,rX++[lwC am2 (wy.marks++[2]).length cm2 ab2 (wy.book++[xQ]).length cb2],β2,Y,hO,?_,fun hb=>⟨hwO.le (A0g _ _),LwsAt.app (.cons (hy' _ hb) .nil) (hwX.le (A0g _ _))⟩⟩,⟨Y,?_,cntL⟩,Le.refl _⟩
            · rw [List.flatten_append,List.length_append]
              simpa using hS
            · rw [List.length_append (bs:=[_])]
              exact rg
          · rw [nx2_none hia,List.append_nil]
            rw [show decide (((cB wy.marks:Nat):Int)<((q.length:Nat):Int))=false from decide_eq_false oM]
            refine su ?_
            exact A0b ⟨_,_,⟨hzz,aO,cO,sO,rO,aX,cX,sX,rX,[],Y,hO,hX,fun _=>by rw [A1r];exact⟨hwO,hwX⟩⟩,⟨Y,rg,cntL⟩,Le.refl _⟩
      clear hO hwO hX hwX
      rintro σ w1 ⟨hw1,aO,cO,sO,rO,aX,cX,sX,rX,sR,rfl,hO,hX,hR⟩
      refine XC_retire (β1:=sR) (β2:=sO++sX) cntA (fun hbz=>?_)
      obtain⟨hwO,hwX⟩:=hR hbz
      replace hw1:=hw1.trans (A0g w1 (A0c sR))
      replace huw:=huw.trans hw1
      clear hbz hR hw1
      generalize w1.union (A0c sR)=w2 at *
      refine su ?_
      exact A0b ⟨⟨i+1,aO,cO,sO,rO,aX,cX,sX,rX⟩,w2,by dsimp only;omega,⟨Y,rg,cntL⟩,Le.refl _,huw,hli,hO,hwO,hX,hwX⟩
    · have hin:i=L.length:=by have:=of_decide_eq_false h;omega
      clear h
      subst hin
      rw [List.take_length]at hO hwO hX hwX⊢
      rw [←hOs]at hO hwO⊢
      rw [←hLs]at hX hwX⊢
      refine XC_retire (β1:=sX) (β2:=sO) cntA (fun hbz=>?_)
      have rX2:=RowAt.own hbz (by exact cntL) hX
      have hw1:=A0g w (A0c sX)
      replace huw:=huw.trans hw1
      replace hwO:=hwO.le hw1
      replace hwX:=hwX.le hw1
      clear hbz hX hw1
      generalize w.union (A0c sX)=w2 at *
      rw [hL1]at hwX⊢
      refine su ?_
      exact A0b ⟨⟨n+1,aX,cX,rX,aO,cO,sO,rO⟩,w2,by dsimp only;omega,⟨Y,rg,cntL⟩,Le.refl _,hvu.trans huw,by dsimp only;omega,rX2,hwX,hO,hwO⟩
end
end Go.Proofs.YtclejblcnfaeaaaGreat
end
section
namespace Go.Pal.To
open Go
structure Sub(n:Nat)(l:List Int):Prop where
 asc:l.Pairwise (· < ·)
 all:∀x∈l,0≤x∧x<n
end Go.Pal.To
end
section
namespace Go.Proofs.YtclejblcnfaeaaaGreat
open Go Go.Pal Go.Pal.To Go.Conc View
open Go.Proofs.Tryz
set_option maxHeartbeats 4000000
set_option maxRecDepth 20000
theorem ltL_drop{l m:List Int}{i:Nat}(h:l.take i=m.take i):ltL l m=ltL (l.drop i) (m.drop i):=by
 conv=>lhs;rw [←List.take_append_drop i l,←List.take_append_drop i m,h,ltL_pre]
section
variable{mn:Who}{v:View}
theorem earlier_x{a a':Option Addr}{cap cap':Nat}{l m:List Int}(hl:RowAt v a (l.map intV))(hm:RowAt v a' (m.map intV))(h1:l.length<2^30)(h2:m.length<2^30) :
  Ret1 prog mn 47 [.slice a l.length cap,.slice a' m.length cap'] (.bool (ltL l m)) v:=by
 refine A0d tab func47 Y nB (args:=[_,_]) ?_
 refine su ?_
 refine A1q (α:=Nat) (fun i=>⟨[],[(5,.int .i64 i),(0,.slice a l.length cap),(1,.slice a' m.length cap')],[]⟩)
  (fun i u=>u=v∧i≤l.length∧i≤m.length∧l.take i=m.take i) (fun i=>m.length-i) 0 ⟨Y,rg,cntL⟩ (Le.refl _) ⟨Y,Nat.zero_le _,Nat.zero_le _,Y⟩ ?_
 rintro i u ⟨rfl,hi,hi',hp⟩
 have hd:=ltL_drop hp
 refine su ?_
 refine A1i Y (fun h=>?_) (fun h=>?_)
 ·have hlt':i<m.length:=by have:=of_decide_eq_true h;omega
  clear h
  refine su ?_
  refine A1i Y (fun h=>?_) (fun h=>?_)
  ·have hin:i=l.length:=by have:=eq_of_beq h;omega
   clear h
   refine su ?_
   refine A0f tab [] (by exact .tmp rfl .nil) (Back.here cntL) ?_
   have:ltL l m=true:=by
    rw [hd,List.drop_eq_getElem_cons hlt',show l.drop i=[]from by rw [hin,List.drop_length]]
    rfl
   rw [this];exact⟨Y,Y⟩
  ·have hlt:i<l.length:=by have:=beq_eq_false_iff_ne.1 h;omega
   clear h
   obtain⟨b1,o1,p1,k1,e1,f1,rfl,hv1,hc1⟩:=hl.get hlt
   obtain⟨b2,o2,p2,k2,e2,f2,rfl,hv2,hc2⟩:=hm.get hlt'
   rw [List.drop_eq_getElem_cons hlt,List.drop_eq_getElem_cons hlt']at hd
   refine su ?_
   refine A1m tab i Y Y Y Y Y Y Y hlt ?_
   refine A4l tab Y Y Y hv1 (A0l tab Y Y Y (by rw [Nat.mul_one];exact hc1 i hlt)) ?_
   refine su ?_
   refine A1m tab i Y Y Y Y Y Y Y hlt' ?_
   refine A4l tab Y Y Y hv2 (A0l tab Y Y Y (by rw [Nat.mul_one];exact hc2 i hlt')) ?_
   refine su ?_
   refine A1i Y (fun h=>?_) (fun h=>?_)
   ·have hne:¬l[i]=m[i]:=bne_iff_ne.1 h
    clear h
    refine su ?_
    refine A1m tab i Y Y Y Y Y Y Y hlt ?_
    refine A4l tab Y Y Y hv1 (A0l tab Y Y Y (by rw [Nat.mul_one];exact hc1 i hlt)) ?_
    refine su ?_
    refine A1m tab i Y Y Y Y Y Y Y hlt' ?_
    refine A4l tab Y Y Y hv2 (A0l tab Y Y Y (by rw [Nat.mul_one];exact hc2 i hlt')) ?_
    refine su ?_
    refine A0f tab [] (by exact .tmp rfl .nil) (Back.here cntL) ?_
    rw [hd]
    refine⟨?_,Y⟩
    unfold ltL
    rw [if_neg hne]
    rfl
   ·have he:l[i]=m[i]:=by simpa using h
    clear h
    refine su ?_
    refine A0b ⟨i+1,u,oM,⟨Y,rg,cntL⟩,Le.refl _,Y,hlt,hlt',?_⟩
    rw [List.take_succ_eq_append_getElem hlt,List.take_succ_eq_append_getElem hlt',hp,he]
 ·have hin:i=m.length:=by have:=of_decide_eq_false h;omega
  clear h
  refine su ?_
  refine A0f tab [] (by exact .tmp rfl .nil) (Back.here cntL) ?_
  have:ltL l m=false:=by
   rw [hd,show m.drop i=[]from by rw [hin,List.drop_length]]
   cases l.drop i<;>rfl
  rw [this];exact⟨Y,Y⟩
end
end Go.Proofs.YtclejblcnfaeaaaGreat
end
section
namespace Go.Pal.To
def frW(w:Wy):Lw:=⟨w.marks,w.book⟩
def B2z(p q:List MA)(d:List Int)(i:Nat):Nat×List Wy:=A1n ((((allW p q).take i).filter (okW d)).map (toWy d))
def B3a(p q:List MA)(d:List Int):List Wy:=(A1n (((allW p q).filter (okW d)).map (toWy d))).2
theorem keepI_end(p q:List MA)(d:List Int):(B2z p q d (allW p q).length).2=B3a p q d:=by unfold B2z B3a;rw [List.take_length]
theorem keepI_no{p q:List MA}{d:List Int}{i:Nat}(h:i<(allW p q).length)(hk:okW d (allW p q)[i]=false):B2z p q d (i+1)=B2z p q d i:=by
 unfold B2z
 rw [take_filter h,hk];simp
theorem keepI_yes{p q:List MA}{d:List Int}{i:Nat}(h:i<(allW p q).length)(hk:okW d (allW p q)[i]=true):B2z p q d (i+1)=addF (B2z p q d i) (toWy d (allW p q)[i]):=by
 unfold B2z
 rw [take_filter h,hk,if_pos Y,List.map_append]
 exact B1z _ _
structure AllF(p q:List MA)(w:Lw):Prop where
 bl:w.book.length=w.marks.length
 le:w.book.length≤p.length+q.length
 mem:∀x∈w.book,x∈p∨x∈q
theorem all_facts{p q:List MA}{w:Lw}(h:w∈allW p q):AllF p q w:=by
 obtain⟨ms,e,hF⟩:=mem_all.1 h
 have hf:=hF.facts
 have h1:w.marks.length=ms.length:=by rw [e];simp [zN]
 exact⟨by rw [hf.len,h1],by rw [hf.len];exact hf.le,hf.mem⟩
theorem keepI_mem{p q:List MA}{d:List Int}{i:Nat}{u:Wy}(h:u∈(B2z p q d i).2):lenW u=(B2z p q d i).1∧∃w∈allW p q,u=toWy d w:=by
 obtain⟨h1,h2⟩:=A9v h
 obtain⟨w,hw,rfl⟩:=List.mem_map.1 h1
 exact⟨h2,w,List.mem_of_mem_take (List.mem_filter.1 hw).1,Y⟩
theorem keepI_len{p q:List MA}{d:List Int}{i:Nat}:(B2z p q d i).2.length≤(allW p q).length:=by
 unfold B2z
 by_cases e:(((allW p q).take i).filter (okW d)).map (toWy d)=[]
 ·rw [e];simp [A1n]
 ·rw [(A6a e).2.2]
  refine Nat.le_trans (List.length_filter_le _ _) ?_
  rw [List.length_map]
  exact Nat.le_trans (List.length_filter_le _ _) (List.length_take_le' _ _)
theorem all_len{p q:List MA}(h:p.length+q.length≤8):(allW p q).length≤19683:=
 Nat.le_trans (outs_len p q _) (Nat.le_trans (Nat.pow_le_pow_right dM (show p.length+q.length+1≤9 by omega)) dM)
theorem addF_new{s:Nat×List Wy}{w:Wy}(h:s.2=[]∨lenW w<s.1):addF s w=(lenW w,[w]):=by unfold addF;rw [if_pos h]
theorem addF_more{s:Nat×List Wy}{w:Wy}(h:s.2≠[])(e:lenW w=s.1):addF s w=(s.1,s.2++[w]):=by
 unfold addF
 rw [if_neg (by rintro(h'|h');exact h h';omega),if_pos e]
theorem addF_old{s:Nat×List Wy}{w:Wy}(h:s.2≠[])(e:s.1<lenW w):addF s w=s:=by
 unfold addF
 rw [if_neg (by rintro(h'|h');exact h h';omega),if_neg oM]
theorem least_head{p q:List MA}{d:List Int}{b:Nat}(hb:b<(B3a p q d).length)(hmin:∀w∈B3a p q d,ltL w.marks (B3a p q d)[b].marks=false):∃l,A6k p q d=(B3a p q d)[b]::l:=by
 have hP:=keep_perm p q d
 have hs:=bests_sorted p q d
 have hm:(B3a p q d)[b]∈A6k p q d:=hP.mem_iff.1 (List.getElem_mem hb)
 cases e:A6k p q d with
 | nil=>rw [e]at hm;cases hm
 | cons h t=>
  rw [e]at hm hs
  rcases List.mem_cons.1 hm with h1|h1
  ·exact⟨t,by rw [h1]⟩
  ·have h2:=(List.pairwise_cons.1 hs).1 _ h1
   have h3:=hmin h (hP.mem_iff.2 (by rw [e];exact List.mem_cons_self ..))
   rw [h3]at h2;cases h2
end Go.Pal.To
end
section
namespace Go.Proofs.YtclejblcnfaeaaaGreat
open Go Go.Pal Go.Pal.To Go.Conc View
open Go.Proofs.Tryz
set_option maxHeartbeats 4000000
set_option maxRecDepth 20000
theorem lws_head{u:View}{rows:List (List Value)}{w:Lw}{ws:List Lw}(h:LwsAt u rows (w::ws)):∃am cm ab cb rest,rows=lwC am w.marks.length cm ab w.book.length cb::rest:=by
 cases h with
 | cons h r=>obtain⟨am,cm,ab,cb,rfl,_,_⟩:=h;exact⟨am,cm,ab,cb,_,rfl⟩
def RowsZ(v:View)(rows:List Value)(ls:List (List Int)):Prop:=rows.length=ls.length∧∀i (hi:i<ls.length),∃a c,rows[i]?=some (.slice a ls[i].length c)∧RowAt v a (ls[i].map intV)
theorem RowsZ.le{u v:View}{rows:List Value}{ls:List (List Int)}(h:RowsZ u rows ls)(hl:u.Le v):RowsZ v rows ls:=
 ⟨h.1,fun i hi=>by obtain⟨a,c,h1,h2⟩:=h.2 i hi;exact⟨a,c,h1,h2.le hl⟩⟩
theorem RowsZ.nil{v:View}:RowsZ v [] []:=⟨Y,fun i hi=>absurd hi (Nat.not_lt_zero _)⟩
theorem RowsZ.snoc{v:View}{rows:List Value}{ls:List (List Int)}(h:RowsZ v rows ls){l:List Int}{a:Option Addr}{c:Nat}(hr:RowAt v a (l.map intV)):RowsZ v (rows++[.slice a l.length c]) (ls++[l]):=by
 refine⟨by simp [h.1],fun i hi=>?_⟩
 by_cases e:i<ls.length
 ·obtain⟨a',c',h1,h2⟩:=h.2 i e
  refine⟨a',c',?_,?_⟩
  ·rw [List.getElem_append_left e,List.getElem?_append_left (by rw [h.1];exact e)];exact h1
  ·rw [List.getElem_append_left e];exact h2
 ·have:i=ls.length:=by rw [List.length_append]at hi;simp at hi;omega
  subst this
  refine⟨a,c,?_,?_⟩
  ·rw [List.getElem_append_right (Nat.le_refl _),List.getElem?_append_right (by rw [h.1];exact Nat.le_refl _),h.1];simp
  ·rw [List.getElem_append_right (Nat.le_refl _)];simpa using hr
structure BlS where
 i:Nat
 aO:Option Addr
 cO:Nat
 sO:A0e
 rO:List (List Value)
 aZ:Option Addr
 cZ:Nat
 sZ:A0e
 rZ:List Value
section
variable{v:View}{P:Int}{d:List Int}{p q:List MA}{aD aA aB:Option Addr}{cD cA' cB':Nat}
theorem bestsL_x(hL:LOk P d p q)(hd:RowAt v aD (d.map intV))(ha:ActsAt v aA p)(hb:ActsAt v aB q) :
    A6l prog ⟨true,true⟩ 63 [moV P aD d.length cD,.slice aA p.length cA',.slice aB q.length cB'] (fun x u=>∃aO cO rO aZ cZ rZ,x = .tuple (List.toArray [.slice aO (B3a p q d).length cO,.slice aZ (B3a p q d).length cZ,.bool true])∧
      RowAt u aO (List.flatten rO)∧LwsAt u rO ((B3a p q d).map frW)∧RowAt u aZ rZ∧RowsZ u rZ ((B3a p q d).map Wy.dusk)) v:=by
  have hla:=hL.la
  have hlb:=hL.lb
  have hdl:=hL.m.len
  have hAl:=all_len (p:=p) (q:=q) oM
  refine A3k tab func63 Y nB (args:=[_,_,_]) ?_
  refine sw fun bx=>?_
  obtain⟨b3,rfl⟩:∃x:Nat,x=bx:=⟨bx,rfl⟩
  refine Q_op fun ho=>A1p ho bod118 Y Y Y Y Y (waysL_x hla hlb ha hb) (fun x v1 hv1 hR=>?_)
  clear ho
  obtain⟨aL,cL,rows,rfl,hrow,hrows⟩:=hR
  have hAf:∀w∈allW p q,AllF p q w:=fun w hw=>all_facts hw
  have hKl:∀i,(B2z p q d i).2.length≤19683:=fun i=>Nat.le_trans keepI_len hAl
  refine su ?_
  refine A1q (α:=BlS) (fun z=>⟨[],[(12,.int .i64 z.i),(11,.slice aL (allW p q).length cL),(9,.slice z.aO (B2z p q d z.i).2.length z.cO),(10,.slice z.aZ (B2z p q d z.i).2.length z.cZ),(3,.pointer (some ⟨b3,0,none⟩))],z.sO++(z.sZ++[(b3,(moV P aD d.length cD).cells,24)])⟩)
    (fun z u=>v1.Le u∧z.i≤(allW p q).length∧OwnS 91 2 z.sO z.aO (B2z p q d z.i).2.length z.cO (List.flatten z.rO)∧LwsAt u z.rO ((B2z p q d z.i).2.map frW)∧OwnS 22 1 z.sZ z.aZ (B2z p q d z.i).2.length z.cZ z.rZ∧RowsZ u z.rZ ((B2z p q d z.i).2.map Wy.dusk)) (fun z=>(allW p q).length-z.i)
    ⟨0,none,0,[],[],none,0,[],[]⟩ ⟨Y,rg,cntL⟩ (Le.refl _) ⟨Le.refl _,Nat.zero_le _,.nil,.nil,.nil,.nil⟩ ?_
  rintro⟨i,aO,cO,sO,rO,aZ,cZ,sZ,rZ⟩ u ⟨hvu,hi,hO,hwO,hZ,hwZ⟩
  dsimp only at hi hO hwO hZ hwZ⊢
  have hKi:=hKl i
  refine su ?_
  refine A1i Y (fun h=>?_) (fun h=>?_)
  · have hli:i<(allW p q).length:=by have:=of_decide_eq_true h;omega
    clear h
    obtain⟨bN,oN,kN,dN,eN,fN,am,cm,ab,cb,rfl,hvN,hcN,hcN0,hcN1,hm,hbk⟩:=lws_read (hrow.le hvu) (hrows.le hvu) hli
    have hf:=hAf _ (List.getElem_mem hli)
    have hno:=keepI_no (d:=d) hli
    have hyes:=keepI_yes (d:=d) hli
    have hmem:=fun w=>@keepI_mem p q d i w
    have hKi2:=hKl (i+1)
    generalize (allW p q)[i]=wy at *
    obtain⟨hbl,hble,hbm⟩:=hf
    have hOk:HOk P d wy.book:=⟨hL.m,oM,fun x hx=>(hbm x hx).elim (hL.a x) (hL.b x)⟩
    refine su ?_
    refine A1d [6] [0,1,2,3,4,5,6,7,8,9,10,11,12,13] A1e Y kR ?_
    refine su ?_
    refine A0s tab i Y Y Y kR Y Y Y Y Y hli ?_
    refine su ?_
    refine A8v tab Y Y Y kR Y hvN (A0l tab Y Y Y hcN1) ?_
    refine su ?_
    refine S_do kR (A1p Y bod43 Y Y Y Y Y (right_x (P:=P) (cD:=cD) (cA:=cb) ((hd.le hv1).le hvu) hbk hOk) (fun x w hw hR=>⟨hw,kp,?_⟩))
    obtain⟨aR,cR,rfl,rR⟩:=hR
    replace hvu:=hvu.trans hw
    replace hvN:=hw _ _ hvN
    replace hm:=hm.le hw
    replace hbk:=ActsAt.le hbk hw
    replace hwO:=hwO.le hw
    replace hwZ:=hwZ.le hw
    clear hw
    have hdk:(A3z d wy.book).length=d.length:=A9w _ _
    have hhead:∀u∈(B2z p q d i).2,u.book.length=(B2z p q d i).1:=fun u hu=>by
      obtain⟨e1,w',hw',rfl⟩:=hmem u hu
      rw [←e1]
      exact(hAf w' hw').bl
    have hlw:lenW (toWy d wy)=wy.book.length:=hbl.symm
    refine ru ?_
    refine A4i ?_
    refine ru ?_
    by_cases hskip:okL d wy.book=false∨((B2z p q d i).2≠[]∧(B2z p q d i).1<wy.book.length)
    · have hsame:B2z p q d (i+1)=B2z p q d i:=by
        rcases hskip with hk|⟨hK0,hlt⟩
        · exact hno hk
        · cases hk:okL d wy.book with
          | false=>exact hno hk
          | true=>rw [hyes hk];exact addF_old hK0 (by rw [hlw];exact hlt)
      have hend:∀{ρ:Regs},Subm (sO++(sZ++[(b3,(moV P aD d.length cD).cells,24)])) (sO++(sZ++[(b3,(moV P aD d.length cD).cells,24)])):=cntL
      by_cases hk:okL d wy.book=false
      · rw [hk]
        refine su ?_
        refine A0b ⟨⟨i+1,aO,cO,sO,rO,aZ,cZ,sZ,rZ⟩,w,by dsimp only;omega,⟨Y,?_,cntL⟩,Le.refl _,hvu,hli,?_,?_,?_,?_⟩
        all_goals (try dsimp only)
        all_goals rw [hsame]
        · exact rg
        · exact hO
        · exact hwO
        · exact hZ
        · exact hwZ
      · obtain⟨hK0,hlt⟩:=hskip.resolve_left hk
        rw [show okL d wy.book=true from by simpa using hk]
        obtain⟨h0,t0,eK⟩:=List.exists_cons_of_ne_nil hK0
        have hb0:=hhead h0 (by rw [eK];exact List.mem_cons_self ..)
        have hKp:0<(B2z p q d i).2.length:=by rw [eK];exact Nat.succ_pos _
        have hwO2:=hwO
        rw [eK]at hwO2
        obtain⟨am0,cm0,ab0,cb0,rest0,erO⟩:=lws_head hwO2
        obtain⟨bO,cOc,rfl,rfl,hcap,hcs,hcc⟩:=own_box hO hKp
        have hfl:rO.flatten[0+0*2+1]?=some (.slice ab0 (frW h0).book.length cb0):=by rw [erO];rfl
        have hfb:(frW h0).book.length=(B2z p q d i).1:=hb0
        refine su ?_
        rw [show decide ((((B2z p q d i).2.length:Nat):Int) > 0)=true from decide_eq_true oM]
        refine su ?_
        refine A1m tab i Y Y Y Y Y Y Y hli ?_
        refine su ?_
        refine A4l tab Y Y Y hvN (A0l tab Y Y Y hcN1) ?_
        refine su ?_
        refine A1m tab 0 Y Y Y Y Y Y Y oM ?_
        refine su ?_
        refine A1j tab Y Y Y ib (A0l tab Y Y Y (hcc _ _ hfl)) ?_
        refine su ?_
        rw [show decide (((wy.book.length:Nat):Int) > (((frW h0).book.length:Nat):Int))=true from decide_eq_true oM]
        refine su ?_
        refine A0b ⟨⟨i+1,some ⟨bO,0,none⟩,cO,[(bO,cOc,91)],rO,aZ,cZ,sZ,rZ⟩,w,by dsimp only;omega,⟨Y,?_,cntL⟩,Le.refl _,hvu,hli,?_,?_,?_,?_⟩
        all_goals (try dsimp only)
        all_goals rw [hsame]
        · exact rg
        · exact hO
        · exact hwO
        · exact hZ
        · exact hwZ
    · have hk:okL d wy.book=true:=by
        cases e:okL d wy.book with
        | true=>rfl
        | false=>exact absurd (.inl e) hskip
      have hle:(B2z p q d i).2≠[]→wy.book.length≤(B2z p q d i).1:=fun hK0=>Nat.le_of_not_lt fun h=>hskip (.inr ⟨hK0,h⟩)
      clear hskip hno
      replace hyes:=hyes hk
      rw [hk]
      refine A6q (fun σ w'=>w'=w∧σ=⟨[],[(13,.bool true),(14,.slice aR d.length cR),(15,.bool true),(12,.int .i64 i),(11,.slice (some ⟨bN,oN,none⟩) (allW p q).length cL),(9,.slice aO (B2z p q d i).2.length cO),(10,.slice aZ (B2z p q d i).2.length cZ),(3,.pointer (some ⟨b3,0,none⟩))],sO++(sZ++[(b3,(moV P aD d.length cD).cells,24)])⟩) ?_ ?_
      rotate_left
      · by_cases hK0:(B2z p q d i).2=[]
        · refine su ?_
          rw [show decide ((((B2z p q d i).2.length:Nat):Int) > 0)=false from by rw [hK0];rfl]
          refine su ?_
          exact A0b ⟨_,_,⟨Y,Y⟩,⟨Y,rg,cntL⟩,Le.refl _⟩
        · have hle:=hle hK0
          obtain⟨h0,t0,eK⟩:=List.exists_cons_of_ne_nil hK0
          have hb0:=hhead h0 (by rw [eK];exact List.mem_cons_self ..)
          have hKp:0<(B2z p q d i).2.length:=by rw [eK];exact Nat.succ_pos _
          have hwO2:=hwO
          rw [eK]at hwO2
          obtain⟨am0,cm0,ab0,cb0,rest0,erO⟩:=lws_head hwO2
          obtain⟨bO,cOc,rfl,rfl,hcap,hcs,hcc⟩:=own_box hO hKp
          have hfl:rO.flatten[0+0*2+1]?=some (.slice ab0 (frW h0).book.length cb0):=by rw [erO];rfl
          have hfb:(frW h0).book.length=(B2z p q d i).1:=hb0
          refine su ?_
          rw [show decide ((((B2z p q d i).2.length:Nat):Int) > 0)=true from decide_eq_true oM]
          refine su ?_
          refine A1m tab i Y Y Y Y Y Y Y hli ?_
          refine su ?_
          refine A4l tab Y Y Y hvN (A0l tab Y Y Y hcN1) ?_
          refine su ?_
          refine A1m tab 0 Y Y Y Y Y Y Y oM ?_
          refine su ?_
          refine A1j tab Y Y Y ib (A0l tab Y Y Y (hcc _ _ hfl)) ?_
          refine su ?_
          rw [show decide (((wy.book.length:Nat):Int) > (((frW h0).book.length:Nat):Int))=false from decide_eq_false oM]
          refine su ?_
          exact A0b ⟨_,_,⟨Y,Y⟩,⟨Y,rg,cntL⟩,Le.refl _⟩
      rintro σ w' ⟨rfl,rfl⟩
      refine A6q (fun σ w2=>w2=w'∧∃(B:List Wy) (aO:Option Addr) (cO:Nat) (sO:A0e) (rO:List (List Value)) (aZ:Option Addr) (cZ:Nat) (sZ:A0e) (rZ:List Value),σ=⟨[],[(13,.bool true),(14,.slice aR d.length cR),(15,.bool true),(12,.int .i64 i),(11,.slice (some ⟨bN,oN,none⟩) (allW p q).length cL),(9,.slice aO B.length cO),(10,.slice aZ B.length cZ),(3,.pointer (some ⟨b3,0,none⟩))],sO++(sZ++[(b3,(moV P aD d.length cD).cells,24)])⟩∧
        (B2z p q d (i+1)).2=B++[toWy d wy]∧OwnS 91 2 sO aO B.length cO (List.flatten rO)∧LwsAt w' rO (B.map frW)∧OwnS 22 1 sZ aZ B.length cZ rZ∧RowsZ w' rZ (B.map Wy.dusk)) ?_ ?_
      rotate_left
      · by_cases hK0:(B2z p q d i).2=[]
        · have e2:(B2z p q d (i+1)).2=[]++[toWy d wy]:=by rw [hyes,addF_new (.inl hK0)];rfl
          refine su ?_
          rw [show decide ((((B2z p q d i).2.length:Nat):Int) > 0)=false from by rw [hK0];rfl]
          refine su ?_
          rw [hK0]at hO hwO hZ hwZ⊢
          exact A0b ⟨_,_,⟨Y,[],aO,cO,sO,rO,aZ,cZ,sZ,rZ,Y,e2,hO,hwO,hZ,hwZ⟩,⟨Y,rg,cntL⟩,Le.refl _⟩
        · have hle:=hle hK0
          obtain⟨h0,t0,eK⟩:=List.exists_cons_of_ne_nil hK0
          have hb0:=hhead h0 (by rw [eK];exact List.mem_cons_self ..)
          have hKp:0<(B2z p q d i).2.length:=by rw [eK];exact Nat.succ_pos _
          have hwO2:=hwO
          rw [eK]at hwO2
          obtain⟨am0,cm0,ab0,cb0,rest0,erO⟩:=lws_head hwO2
          obtain⟨bO,cOc,rfl,rfl,hcap,hcs,hcc⟩:=own_box hO hKp
          have hfl:rO.flatten[0+0*2+1]?=some (.slice ab0 (frW h0).book.length cb0):=by rw [erO];rfl
          have hfb:(frW h0).book.length=(B2z p q d i).1:=hb0
          refine su ?_
          rw [show decide ((((B2z p q d i).2.length:Nat):Int) > 0)=true from decide_eq_true oM]
          refine su ?_
          refine A1m tab i Y Y Y Y Y Y Y hli ?_
          refine su ?_
          refine A4l tab Y Y Y hvN (A0l tab Y Y Y hcN1) ?_
          refine su ?_
          refine A1m tab 0 Y Y Y Y Y Y Y oM ?_
          refine su ?_
          refine A1j tab Y Y Y ib (A0l tab Y Y Y (hcc _ _ hfl)) ?_
          refine su ?_
          by_cases hlt:wy.book.length<(B2z p q d i).1
          · rw [show decide (((wy.book.length:Nat):Int)<(((frW h0).book.length:Nat):Int))=true from decide_eq_true oM]
            refine su ?_
            exact A0b ⟨_,_,⟨Y,[],none,0,[],[],none,0,[],[],Y,by rw [hyes,addF_new (.inr (by rw [hlw];exact hlt))];rfl,.nil,.nil,.nil,.nil⟩,⟨Y,rg,cntL⟩,Le.refl _⟩
          · rw [show decide (((wy.book.length:Nat):Int)<(((frW h0).book.length:Nat):Int))=false from decide_eq_false oM]
            refine su ?_
            exact A0b ⟨_,_,⟨Y,(B2z p q d i).2,some ⟨bO,0,none⟩,cO,[(bO,cOc,91)],rO,aZ,cZ,sZ,rZ,Y,by rw [hyes,addF_more hK0 (by rw [hlw];omega)],hO,hwO,hZ,hwZ⟩,⟨Y,rg,cntL⟩,Le.refl _⟩
      clear hO hwO hZ hwZ aO cO sO rO aZ cZ sZ rZ
      rintro σ w2 ⟨rfl,B,aO,cO,sO,rO,aZ,cZ,sZ,rZ,rfl,eK,hO,hwO,hZ,hwZ⟩
      have hBl:B.length≤19683:=by rw [eK,List.length_append]at hKi2;omega
      refine su ?_
      refine A6d tab i Y Y Y Y Y Y Y hli ?_
      refine su ?_
      refine A2b tab Y Y Y hvN (A1g tab (x:=lwC am wy.marks.length cm ab wy.book.length cb) Y Y Y hcN) ?_
      refine Q_op fun ho=>A3w tab ho Y Y Y Y Y Y Y Y Y (fun b5 c5 hL5=>?_)
      clear ho
      refine Q_op fun ho=>A3x tab (xs:=lwC am wy.marks.length cm ab wy.book.length cb) sO [(b5,c5,91)] (sZ++[(b3,(moV P aD d.length cD).cells,24)]) ho Y Y Y Y Y Y Y Y Y Y cntA hO (fun hb=>RowAt.own hb cntL hL5) Y Y oM oM (fun sg a1 c1 hS=>?_)
      clear ho
      refine su ?_
      refine Q_op fun ho=>A3w tab ho Y Y Y Y Y Y Y Y Y (fun b6 c6 hL6=>?_)
      clear ho
      refine Q_op fun ho=>A3x tab (xs:=[.slice aR d.length cR]) sZ [(b6,c6,22)] (sg++[(b3,(moV P aD d.length cD).cells,24)]) ho Y Y Y Y Y Y Y Y Y Y cntA hZ (fun hb=>RowAt.own hb cntL hL6) Y Y oM oM (fun sg2 a2 c2 hS2=>?_)
      clear ho
      refine su ?_
      refine A0b ⟨⟨i+1,a1,c1,sg,rO++[lwC am wy.marks.length cm ab wy.book.length cb],a2,c2,sg2,rZ++[.slice aR d.length cR]⟩,_,by dsimp only;omega,⟨Y,?_,cntL⟩,Le.refl _,hvu,hli,?_,?_,?_,?_⟩
      all_goals (try dsimp only)
      all_goals rw [eK]
      · rw [List.length_append]
        exact rg
      · rw [List.length_append,List.flatten_append]
        simpa using hS
      · rw [List.map_append]
        exact LwsAt.app (.cons ⟨am,cm,ab,cb,Y,hm,hbk⟩ .nil) hwO
      · rw [List.length_append]
        exact hS2
      · rw [List.map_append]
        have:=RowsZ.snoc hwZ (c:=cR) rR
        rw [hdk]at this
        exact this
  · have hin:i=(allW p q).length:=by have:=of_decide_eq_false h;omega
    clear h
    subst hin
    rw [keepI_end]at hO hwO hZ hwZ⊢
    refine su ?_
    refine A2m tab (by exact .tmp rfl (.tmp rfl (.tmp rfl .nil))) (hv1.trans hvu) fun hb2 hle=>?_
    exact⟨aO,cO,rO,aZ,cZ,rZ,Y,RowAt.own hb2 cntL hO,hwO.le hle,RowAt.own hb2 cntL hZ,hwZ.le hle⟩
theorem leastL_x{mn:Who}{L:List Lw}{aO:Option Addr}{cO:Nat}{rO:List (List Value)}(hrow:RowAt v aO (List.flatten rO))(hrs:LwsAt v rO L)(hl:L.length<2^30)(hm:∀w∈L,w.marks.length<2^20)(h0:L≠[]) :
  CallsB prog mn 64 #[.slice aO L.length cO] (RetB fun r β'=>∃b:Nat,r=natV b∧β'=[]∧∃hb:b<L.length,∀w∈L,ltL w.marks L[b].marks=false) [] v:=by
 have hl0:0<L.length:=List.length_pos_iff.2 h0
 refine A0d tab func64 Y nB (args:=[_]) ?_
 refine su ?_
 refine A1q (α:=Nat×Nat) (fun z=>⟨[],[(4,.int .i64 z.1),(3,.int .i64 z.2),(0,.slice aO L.length cO)],[]⟩)
  (fun z u=>u=v∧z.1≤L.length∧∃hb:z.2<L.length,∀j (hj:j<z.1) (hj2:j<L.length),ltL L[j].marks L[z.2].marks=false) (fun z=>L.length-z.1) (0,0) ⟨Y,rg,cntL⟩ (Le.refl _) ⟨Y,Nat.zero_le _,hl0,fun j hj=>absurd hj (Nat.not_lt_zero _)⟩ ?_
 rintro⟨i,b⟩ u ⟨rfl,hi,hb,hmin⟩
 dsimp only at hi hb hmin⊢
 refine su ?_
 refine A1i Y (fun h=>?_) (fun h=>?_)
 ·have hli:i<L.length:=by have:=of_decide_eq_true h;omega
  clear h
  obtain⟨bN,oN,kN,dN,eN,fN,am,cm,ab,cb,rfl,hvN,hcN,hcN0,hcN1,hm1,hbk⟩:=lws_read hrow hrs hli
  obtain⟨bN',oN',kN',dN',eN',fN',am',cm',ab',cb',e',hvN',hcN',hcN0',hcN1',hm2,hbk'⟩:=lws_read hrow hrs hb
  cases e'
  have k1:=hm _ (List.getElem_mem hli)
  have k2:=hm _ (List.getElem_mem hb)
  have hE:=earlier_x (mn:=mn) (cap:=cm) (cap':=cm') hm1 hm2 oM oM
  refine su ?_
  refine XC_lex A1e Y kR ?_
  refine su ?_
  refine A1m tab i Y Y Y Y Y Y Y hli ?_
  refine su ?_
  refine A4l tab Y Y Y hvN (A0l tab Y Y Y hcN0) ?_
  refine su ?_
  refine A1m tab b Y Y Y Y Y Y Y hb ?_
  refine su ?_
  refine A4l tab Y Y Y hvN' (A0l tab Y Y Y hcN0') ?_
  refine A2w bod47 Y Y Y Y Y hE ?_
  cases hlt:ltL L[i].marks L[b].marks with
  | true=>
   refine su ?_
   refine A0b ⟨(i+1,i),_,by dsimp only;omega,⟨Y,rg,cntL⟩,Le.refl _,Y,hli,hli,fun j hj hj2=>?_⟩
   by_cases e:j=i
   ·subst e;exact A7k _
   ·have h1:=hmin j (by dsimp only at hj;omega) hj2
    cases h2:ltL L[j].marks L[i].marks with
    | false=>rfl
    | true=>
     have:=A6y h2 hlt
     rw [h1]at this;cases this
  | false=>
   refine su ?_
   refine A0b ⟨(i+1,b),_,by dsimp only;omega,⟨Y,rg,cntL⟩,Le.refl _,Y,hli,hb,fun j hj hj2=>?_⟩
   by_cases e:j=i
   ·subst e;exact hlt
   ·exact hmin j (by dsimp only at hj;omega) hj2
 ·have hin:i=L.length:=by have:=of_decide_eq_false h;omega
  clear h
  subst hin
  refine su ?_
  refine A0f tab [] (by exact .tmp rfl .nil) (Back.here cntL) ?_
  refine⟨b,Y,Y,hb,fun w hw=>?_⟩
  obtain⟨j,hj,rfl⟩:=List.getElem_of_mem hw
  exact hmin j hj hj
end
section
variable{mn:Who}{v:View}{P:Int}{aD:Option Addr}{cD:Nat}{d:List Int}
theorem knowsH_x{b1 b2:Nat}{h:Int}{p1 p2:Bool}{f1 f2:Nat×Nat}(h1:v b1=some (p1,.cells (List.toArray [intV h]) 3 f1))(h2:v b2=some (p2,.cells (List.toArray [intV P,.slice aD d.length cD]) 24 f2))(hdl:d.length<2^30) :
  Ret1 prog mn 112 [.pointer (some ⟨b1,0,none⟩),.pointer (some ⟨b2,0,none⟩)] (.bool (knows h d.length)) v:=by
 refine A0d tab func112 Y nB (args:=[_,_]) ?_
 refine su ?_
 refine A2b tab Y Y Y h1 (A0l tab Y Y Y Y) ?_
 refine su ?_
 refine A2b tab Y Y Y h2 (A0l tab Y Y Y Y) ?_
 refine su ?_
 refine Q_op fun ho=>A0u ho bod81 Y Y Y Y Y A3g ?_
 clear ho
 refine su ?_
 refine A0f tab [] (by exact .tmp rfl .nil) (Back.here cntL) ?_
 exact⟨Y,Y⟩
end
end Go.Proofs.YtclejblcnfaeaaaGreat
end
section
namespace Go.Proofs.YtclejblcnfaeaaaGreat.I
open Go Go.Pal Go.Conc View
open Go.Proofs.Tryz
open Go.Proofs.YtclejblcnfaeaaaGreat.W (lexL)
open Go.Sort (swp PermIn SortedIn Below SWO insInner insOuter insertionSort)
set_option maxHeartbeats 4000000
set_option maxRecDepth 20000
def ltI(x y:Int):Bool:=decide (x<y)
theorem A1f(x:Int):(intV x).cells.size=1:=rfl
theorem A1v(x:Int):(intV x).cells.toList.all A2k=true:=rfl
def okI(_:Int):Prop:=True
structure DBi(cap:Nat)(d:Array Int)(c:Array Value):Prop where
 db:DB 1 (fun x:Int=>[intV x]) okI cap d c
abbrev slV(b n cap:Nat):Value:=.slice (some ⟨b,0,none⟩) n cap
section
variable{cap:Nat}{d:Array Int}{c:Array Value}
theorem DBi.le(h:DBi cap d c):d.size≤cap:=h.db.le
theorem DBi.rdE(h:DBi cap d c){i:Nat}(hi:i<d.size):A4k tab 3 c (0+i*1)=some (intV d[i]!):=A0l tab Y Y Y (h.db.one Y hi Y)
theorem DBi.ok(h:DBi cap d c){i:Nat}(hi:i<d.size):okI d[i]!:=h.db.ok hi
theorem DBi.off(h:DBi cap d c){i:Nat}(hi:i<d.size){n:Nat}(hn:n=1):Nat.ble (0+i*1+n) c.size=true:=h.db.off hi hn
theorem DBi.set(h:DBi cap d c){i:Nat}(hi:i<d.size){x:Int}(hx:okI x):DBi cap (d.setIfInBounds i x) (A0z c (0+i*1) (intV x).cells.toList):=⟨h.db.set hi hx⟩
theorem DBi.swp(h:DBi cap d c){i j:Nat}(hi:i<d.size)(hj:j<d.size):DBi cap (swp d i j) (A0z (A0z c (0+i*1) (intV d[j]!).cells.toList) (0+j*1) (intV d[i]!).cells.toList):=⟨h.db.swp hi hj⟩
def IBox(cap b:Nat)(p:Array Int→Prop)(β':A0e):Prop:=∃d' c',β'=[(b,c',3)]∧DBi cap d' c'∧p d'
end
section
variable{mn:Who}{v:View}
theorem isNaN_x{x:Int}:Ret1 prog mn 163 [intV x] (.bool false) v:=by
 refine A0d tab func163 Y nB (args:=[_]) ?_
 refine su ?_
 rw [show(x != x)=false from by simp]
 refine A0f tab [] (by exact .tmp rfl .nil) (Back.here cntL) ?_
 exact⟨Y,Y⟩
theorem less_x{x y:Int}:Ret1 prog mn 174 [intV x,intV y] (.bool (ltI x y)) v:=by
 refine A0d tab func174 Y nB (args:=[_,_]) ?_
 refine su ?_
 refine Q_op fun ho=>A0u ho bod163 Y Y Y Y Y isNaN_x ?_
 clear ho
 refine su ?_
 refine A0f tab [] (by exact .tmp rfl .nil) (Back.here cntL) ?_
 exact⟨Y,Y⟩
end
section
variable{mn:Who}{v:View}{cap:Nat}{d:Array Int}{c:Array Value}
abbrev AS:=Nat×Array Int×Array Value
theorem B1w{b x y:Nat}(hD:DBi cap d c)(hcap:d.size<2^30)(hxy:x≤y)(hy:y≤d.size) :
  CallsB prog mn 168 #[slV b d.size cap,.int .i64 x,.int .i64 y] (RetB fun r β'=>r = .tuple #[]∧IBox cap b (fun d'=>d'.size=d.size∧d'=insertionSort ltI d x y) β') [(b,c,3)] v:=by
 refine A0d tab func168 Y nB (args:=[_,_,_]) ?_
 have hle:=hD.le
 refine su ?_
 refine A1q (α:=AS) (fun z=>⟨[],[(6,.int .i64 z.1),(0,slV b d.size cap),(1,.int .i64 x),(2,.int .i64 y)],[(b,z.2.2,3)]⟩)
  (fun z u=>u=v∧DBi cap z.2.1 z.2.2∧z.2.1.size=d.size∧x<z.1∧z.1≤y+1∧insOuter ltI x y z.1 z.2.1=insertionSort ltI d x y) (fun z=>y+1-z.1) (x+1,d,c)
  ⟨Y,rg,cntL⟩ (Le.refl _) ⟨Y,hD,Y,by simp only;omega,by simp only;omega,Y⟩ ?_
 rintro⟨i,d1,c1⟩ u ⟨rfl,hD1,hs1,hxi,hiy,hr1⟩
 simp only at hD1 hs1 hxi hiy hr1
 dsimp only
 rw [insOuter]at hr1
 refine su ?_
 refine A1i Y (fun h=>?_) (fun h=>?_)
 ·replace h:=fa h
  rw [if_pos oM]at hr1
  refine su ?_
  refine A1q (α:=AS) (fun z=>⟨[],[(7,.int .i64 z.1),(6,.int .i64 i),(0,slV b d.size cap),(1,.int .i64 x),(2,.int .i64 y)],[(b,z.2.2,3)]⟩)
   (fun z w=>w=u∧DBi cap z.2.1 z.2.2∧z.2.1.size=d.size∧z.1≤i∧insInner ltI x z.1 z.2.1=insInner ltI x i d1) (fun z=>z.1) (i,d1,c1)
   ⟨Y,rg,cntL⟩ (Le.refl _) ⟨Y,hD1,hs1,Nat.le_refl _,Y⟩ ?_
  rintro⟨j,d2,c2⟩ w ⟨rfl,hD2,hs2,hji,hr2⟩
  simp only at hD2 hs2 hji hr2
  dsimp only
  refine su ?_
  refine lexL A1e Y kR ?_
  refine su ?_
  refine A7d Y Y (fun h=>?_) (fun h=>?_)
  ·replace h:=fa h
   obtain⟨j,rfl⟩:∃k,j=k+1:=⟨j-1,oM⟩
   refine su ?_
   refine A1m tab (j+1) Y Y Y Y Y Y Y oM ?_
   refine A1j tab Y Y Y InB.head (hD2.rdE oM) ?_
   refine su ?_
   refine A1m tab j Y Y Y Y oM Y Y oM ?_
   refine A1j tab Y Y Y InB.head (hD2.rdE oM) ?_
   refine su ?_
   refine A2w bod174 Y Y Y Y Y less_x ?_
   refine su ?_
   rw [show insInner ltI x (j+1) d2=(if decide (j+1 > x)&&ltI d2[j+1]! d2[j]! then insInner ltI x j (swp d2 (j+1) j)else d2)from rfl]at hr2
   refine A1i Y (fun h=>?_) (fun h=>?_)
   ·have h':ltI d2[j+1]! d2[j]! = true:=h
    rw [if_pos (by rw [h'];simp;omega)]at hr2
    refine su ?_
    ((refine A1d [15,17] [0,1,2,3,4,5,6,7,8,9,10,11,12,13,14,15,16,17] A1e Y kR ?_);(repeat (refine ss ?_));(refine A0s tab (j) Y Y Y kR Y Y (by first|rfl|omega) Y Y oM ?_);(refine A1a tab Y Y Y kR Y ib (hD2.rdE oM) ?_);(repeat (refine ss ?_));(refine A0s tab (j+1) Y Y Y kR Y Y (by first|rfl|omega) Y Y oM ?_);(refine A1a tab Y Y Y kR Y ib (hD2.rdE oM) ?_);(refine A0s tab (j+1) Y Y Y kR Y Y (by first|rfl|omega) Y Y oM ?_);(refine S_do kR (A1c tab Y Y Y Y Y (by first|exact A1f _|rfl) (by first|exact A1v _|rfl) ib (hD2.off oM Y) sb ⟨Le.refl _,kp,?_⟩));(refine A0s tab (j) Y Y Y kR Y Y (by first|rfl|omega) Y Y oM ?_);(refine S_do kR (A1c tab Y Y Y Y Y (by first|exact A1f _|rfl) (by first|exact A1v _|rfl) ib ((hD2.set oM (hD2.ok oM)).off (by first|simpa using oM|(simp;omega)) Y) sb ⟨Le.refl _,kp,?_⟩));(repeat (refine ss ?_)))
    refine su ?_
    refine A0b ⟨(j,swp d2 (j+1) j,_),w,by simp only;omega,⟨Y,?_,cntL⟩,Le.refl _,Y,hD2.swp oM oM,by rw [Go.Sort.size_swp,hs2],by simp only;omega,hr2⟩
    refine⟨?_,rg⟩
    show some (Value.int .i64 (((j+1:Nat):Int)-1))=some (Value.int .i64 (j:Int))
    congr 2;omega
   ·have h':ltI d2[j+1]! d2[j]! = false:=h
    rw [if_neg (by rw [h'];simp)]at hr2
    refine su ?_
    refine A0b ⟨(i+1,d2,c2),w,by simp only;omega,⟨Y,rg,cntL⟩,Le.refl _,Y,hD2,hs2,by simp only;omega,by simp only;omega,?_⟩
    rw [hr2];exact hr1
  ·replace h:=fa h
   have hr3:d2=insInner ltI x i d1:=by
    rw [←hr2]
    cases j with
    | zero=>rfl
    | succ j=>unfold insInner;rw [if_neg (by simp;omega)]
   refine su ?_
   refine A0b ⟨(i+1,d2,c2),w,by simp only;omega,⟨Y,rg,cntL⟩,Le.refl _,Y,hD2,hs2,by simp only;omega,by simp only;omega,?_⟩
   rw [hr3];exact hr1
 ·replace h:=fa h
  rw [if_neg oM]at hr1
  refine su ?_
  refine A1o tab [(b,c1,3)] .nil (Back.here cntL) ?_
  exact⟨Y,d1,c1,Y,hD1,hs1,hr1⟩
theorem pdq_x{b k:Nat}(hD:DBi cap d c)(hd:d.size≤12) :
  CallsB prog mn 141 #[slV b d.size cap,.int .i64 (0:Nat),.int .i64 d.size,.int .i64 k] (RetB fun r β'=>r = .tuple #[]∧IBox cap b (fun d'=>d'.size=d.size∧d'=insertionSort ltI d 0 d.size) β') [(b,c,3)] v:=by
 refine A0d tab func141 Y nB (args:=[_,_,_,_]) ?_
 refine su ?_
 refine A1q (α:=Unit) (fun _=>⟨[],[(0,slV b d.size cap),(1,.int .i64 (0:Nat)),(2,.int .i64 d.size),(3,.int .i64 k)],[(b,c,3)]⟩) (fun _ u=>u=v) (fun _=>0) () ⟨Y,rg,cntL⟩ (Le.refl _) Y ?_
 rintro⟨⟩ u rfl
 have hle:=hD.le
 refine su ?_
 rw [show decide ((d.size:Int)-((0:Nat):Int)≤12)=true from decide_eq_true oM]
 refine su ?_
 refine Q_op fun ho=>A0o [(b,c,3)] [] ho bod168 Y Y Y Y Y cntA (B1w (x:=0) (y:=d.size) hD oM (Nat.zero_le _) (Nat.le_refl _)) (fun x β' hR=>?_)
 clear ho
 obtain⟨rfl,d2,c2,rfl,hD2,hs2,hp2⟩:=hR
 rw [List.append_nil]
 refine su ?_
 refine A0f tab [(b,c2,3)] .nil (Back.here cntL) ?_
 exact⟨Y,d2,c2,Y,hD2,hs2,hp2⟩
theorem sort_x{b:Nat}(hD:DBi cap d c)(hd:d.size≤12) :
  CallsB prog mn 114 #[slV b d.size cap] (RetB fun r β'=>r = .tuple #[]∧IBox cap b (fun d'=>d'.size=d.size∧d'=insertionSort ltI d 0 d.size) β') [(b,c,3)] v:=by
 refine A0d tab func114 Y nB (args:=[_]) ?_
 refine su ?_
 rw [W.wrapU oM]
 refine Q_op fun ho=>A0u ho bod128 Y Y Y Y Y (W.len_x (x:=d.size) oM) ?_
 clear ho
 refine su ?_
 refine Q_op fun ho=>A0o [(b,c,3)] [] ho bod141 Y Y Y Y Y cntA (pdq_x hD hd) (fun x β' hR=>?_)
 clear ho
 obtain⟨rfl,d2,c2,rfl,hD2,hs2,hp2⟩:=hR
 rw [List.append_nil]
 refine su ?_
 refine A1o tab [(b,c2,3)] .nil (Back.here cntL) ?_
 exact⟨Y,d2,c2,Y,hD2,hs2,hp2⟩
end
end Go.Proofs.YtclejblcnfaeaaaGreat.I
end
