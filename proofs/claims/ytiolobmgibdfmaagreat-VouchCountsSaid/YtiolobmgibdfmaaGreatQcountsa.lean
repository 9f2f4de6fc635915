/- 'palfreylaw06.VouchCounts' returns true for all arguments, whatever the goroutines of its calls do, and the arguments read as they did, as its row says it. No condition. -/
import Derived.JoinedOf
import Derived.Test.YtiolobmgibdfmaaGreatQcomb
set_option linter.all false
section
namespace Go.Proofs.YtiolobmgibdfmaaGreat
open Go Go.Pal Go.Proofs.Tryz
theorem bod22:A0n Tryz.prog 22:=⟨_,_,func22,Z,by decide⟩
theorem bod24:A0n Tryz.prog 24:=⟨_,_,func24,Z,by decide⟩
theorem bod26:A0n Tryz.prog 26:=⟨_,_,func26,Z,by decide⟩
theorem bod28:A0n Tryz.prog 28:=⟨_,_,func28,Z,by decide⟩
theorem bod30:A0n Tryz.prog 30:=⟨_,_,func30,Z,by decide⟩
theorem bod32:A0n Tryz.prog 32:=⟨_,_,func32,Z,by decide⟩
theorem bod84:A0n Tryz.prog 84:=⟨_,_,func84,Z,by decide⟩
end Go.Proofs.YtiolobmgibdfmaaGreat
end
section
namespace Go.Proofs.YtiolobmgibdfmaaGreat
open Go Go.Pal Go.Pal.Vo Go.Conc View
open Go.Proofs.Tryz
set_option maxHeartbeats 4000000
set_option maxRecDepth 20000
theorem ext_two{c:Array Value}{o:Nat}{x y:Value}(h1:c[o]?=some x)(h2:c[o+1]?=some y):o+2≤c.size∧c.extract o (o+2)=[x,y].toArray:=by
 have k1:=(Array.getElem?_eq_some_iff.1 h1)
 have k2:=(Array.getElem?_eq_some_iff.1 h2)
 obtain⟨l1,e1⟩:=k1
 obtain⟨l2,e2⟩:=k2
 refine⟨l2,Array.ext (by simp;omega) fun i hi hj=>?_⟩
 have hi2:i<2:=by simpa using hj
 rw [Array.getElem_extract]
 rcases i with _|_|i
 ·simpa using e1
 ·simpa using e2
 ·omega
theorem wlsB_ne{P F:Int}{ws:List Wd}{k:Bool}(h:errB P F ws k=0):A2h P F ws=0∧k=true∧wlsB P F ws k=A0g P.toNat F.toNat ws∧0<(A0g P.toNat F.toNat ws).length:=by
 have e:wlsB P F ws k=A0g P.toNat F.toNat ws:=if_pos h
 unfold errB at h
 by_cases h0:A2h P F ws=0
 ·rw [if_pos h0]at h
  cases k with
  | false=>cases h
  | true=>
   refine⟨h0,Z,e,?_⟩
   cases hw:A0g P.toNat F.toNat ws with
   | nil=>rw [hw]at h;cases h
   | cons x l=>exact Nat.succ_pos _
 ·rw [if_neg h0]at h;exact absurd h h0
section
variable{v:View}
theorem errB_true{P F:Int}{ws:List Wd}:errB P F ws true=errS P F ws:=rfl
theorem wlsB_true{P F:Int}{ws:List Wd}:wlsB P F ws true=wlsE P F ws:=by
 unfold wlsB wlsE errB
 by_cases h:A2h P F ws=0
 ·rw [if_pos h,if_pos h]
  cases hw:A0g P.toNat F.toNat ws with
  | nil=>split<;>rfl
  | cons x l=>rfl
 ·rw [if_neg h,if_neg h]
theorem CountR{mn:Who}{P F:Int}{ws:List Wd}{wa:Option Addr}{wc:Nat}(hws:WdsAt v wa ws)(hwl:ws.length<2^30):Ret1 prog mn 26 [boV P F wa ws.length wc] (countV P F ws) v:=by
 refine A0f tab func26 Z nB (args:=[_]) ?_
 unfold countV
 repeat (first|refine st ?_|refine qb fun bx=>?_)
 refine q1 bod68 Z Z Z Z Z (CheckR_x hws hwl) ?_
 repeat refine st ?_
 refine A0t Z (fun h=>?_) (fun h=>?_)
 ·have h0:A2h P F ws≠0:=bne_iff_ne.1 h
  clear h
  rw [if_neg h0]
  repeat refine st ?_
  refine A0l tab (β':=[]) (xs:=[_,_]) (by exact .tmp rfl (.tmp rfl .nil)) (Back.here fun p=>Nat.zero_le _) ?_
  exact⟨Z,Z⟩
 have h0:A2h P F ws=0:=by simpa using h
 clear h
 rw [if_pos h0,h0]
 obtain⟨P,F,rfl,rfl,hv⟩:=A4w h0
 simp only [Int.toNat_natCast]
 repeat refine st ?_
 refine Q_op fun ho=>A0i [] _ ho bod81 Z Z Z Z Z A1n (Worlds_r hv (hws.le (A0b _ _))) (fun x β' hR=>?_)
 clear ho
 obtain⟨a,n,cap,rfl,hW⟩:=hR
 have hn:n=(A0g P F ws).length:=by obtain⟨_,_,_,_,hn,_⟩:=hW;exact hn
 subst hn
 repeat refine st ?_
 refine A0l tab (β':=[]) (xs:=[_,_]) (by exact .tmp rfl (.tmp rfl .nil)) (Back.here fun p=>Nat.zero_le _) ?_
 exact⟨Z,Z⟩
theorem FewestR{mn:Who}{P F:Int}{ws:List Wd}{wa:Option Addr}{wc:Nat}(hws:WdsAt v wa ws)(hwl:ws.length<2^30):CallsB prog mn 28 #[boV P F wa ws.length wc] (RetB fun r β'=>∃t,r = .tuple #[t,.int .i64 (errS P F ws)]∧OwnW2 β' t ((wlsE P F ws).headD (0,0))) [] v:=by
 refine A0f tab func28 Z nB (args:=[_]) ?_
 rw [←errB_true,←wlsB_true]
 repeat (first|refine st ?_|refine qb fun bx=>?_)
 rename_i b1
 obtain⟨b2,rfl⟩:∃b:Nat,b=bx:=⟨bx,rfl⟩
 refine Q_op fun ho=>A0i [] _ ho bod84 Z Z Z Z Z A1n (begin_r (k:=true) (hws.le (A0b _ _)) hwl) (fun x β' hR=>?_)
 clear ho
 obtain⟨a,n,cap,rfl,hW⟩:=hR
 repeat refine st ?_
 refine A0t Z (fun h=>?_) (fun h=>?_)
 ·have h0:errB P F ws true≠0:=bne_iff_ne.1 h
  clear h
  rw [show wlsB P F ws true=[]from if_neg h0]
  repeat refine st ?_
  refine A0l tab (β':=[]) (xs:=[wldV none 0 0 none 0 0,.int .i64 (errB P F ws true)]) (by exact .cell rfl ib rfl (.tmp rfl .nil)) (Back.here fun p=>Nat.zero_le _) ?_
  exact⟨_,Z,OwnW2.zero⟩
 have h0:errB P F ws true=0:=by simpa using h
 clear h
 obtain⟨hc0,_,e,hlen⟩:=wlsB_ne h0
 rw [h0]
 rw [e]at hW⊢
 obtain⟨P,F,rfl,rfl,hv⟩:=A4w hc0
 simp only [Int.toNat_natCast]at hW hlen⊢
 refine XC_retire (β1:=β') (β2:=[(b2,(Value.agg #[Value.slice none 0 0,Value.slice none 0 0]).cells,38),(b1,(boV P F wa ws.length wc).cells,24)]) cntA (fun hb=>?_)
 obtain⟨rfl,b,off,q,c,ec,f,rfl,hvb,hc⟩:=hW.lie hb hlen
 obtain⟨a1,c1,a2,c2,k1,k2,k3⟩:=hc 0 hlen
 repeat refine st ?_
 refine A2t tab 0 Z Z Z Z Z Z Z hlen ?_
 refine A2p tab Z Z Z hvb (A2d tab Z Z Z (ext_two k1 k2)) ?_
 repeat refine st ?_
 refine A0l tab (β':=β') (xs:=[wldV a1 (lst (A0g P F ws)[0].1).length c1 a2 (lst (A0g P F ws)[0].2).length c2,.int .i64 0]) (by exact .cell rfl ib rfl (.tmp rfl .nil)) (back_all hb) ?_
 have e1:(A0g P F ws).headD (0,0)=(A0g P F ws)[0]:=headD_get hlen
 rw [e1]
 exact⟨_,Z,a1,c1,a2,c2,Z,k3⟩
theorem LiarsR{mn:Who}{P F:Int}{ws:List Wd}{wa:Option Addr}{wc:Nat}(hws:WdsAt v wa ws)(hwl:ws.length<2^30):Ret1 prog mn 30 [boV P F wa ws.length wc] (.tuple #[liarsV P.toNat (wlsE P F ws),.int .i64 (errS P F ws)]) v:=by
 refine A0f tab func30 Z nB (args:=[_]) ?_
 rw [←errB_true,←wlsB_true]
 repeat (first|refine st ?_|refine qb fun bx=>?_)
 rename_i b1
 obtain⟨b2,rfl⟩:∃b:Nat,b=bx:=⟨bx,rfl⟩
 refine Q_op fun ho=>A0i [] _ ho bod84 Z Z Z Z Z A1n (begin_r (k:=true) (hws.le (A0b _ _)) hwl) (fun x β' hR=>?_)
 clear ho
 obtain⟨a,n,cap,rfl,hW⟩:=hR
 repeat refine st ?_
 refine A0t Z (fun h=>?_) (fun h=>?_)
 ·have h0:errB P F ws true≠0:=bne_iff_ne.1 h
  clear h
  rw [show wlsB P F ws true=[]from if_neg h0]
  repeat refine st ?_
  refine A0l tab (β':=[]) (xs:=[.agg #[.int .i64 0,.int .i64 0],.int .i64 (errB P F ws true)]) (by exact .cell rfl ib rfl (.tmp rfl .nil)) (Back.here fun p=>Nat.zero_le _) ?_
  exact⟨Z,Z⟩
 have h0:errB P F ws true=0:=by simpa using h
 clear h
 obtain⟨hc0,_,e,hlen⟩:=wlsB_ne h0
 rw [h0]
 rw [e]at hW⊢
 obtain⟨P,F,rfl,rfl,hv⟩:=A4w hc0
 simp only [Int.toNat_natCast]at hW hlen⊢
 have hWl:=A4s (ws:=ws) hv.p4 hv.f3
 have hp4:=hv.p4
 refine XC_retire (β1:=β') (β2:=[(b2,(Value.agg #[Value.int .i64 0,Value.int .i64 0]).cells,42),(b1,(boV P F wa ws.length wc).cells,24)]) cntA (fun hb=>?_)
 obtain⟨rfl,b,off,q,c,ec,f,rfl,hvb,hc⟩:=hW.lie hb hlen
 obtain⟨a1,c1,a2,c2,k1,k2,_⟩:=hc 0 hlen
 obtain⟨d1,e1,d2,e2,m1,m2,_⟩:=hc ((A0g P F ws).length-1) oM
 have l1:=lst_len8 (A0g P F ws)[0].1
 have l2:=lst_len8 (A0g P F ws)[(A0g P F ws).length-1].1
 rw [liarsV_ne hlen]
 unfold Go.Pal.Vo.cnt
 repeat refine st ?_
 refine A2u [20] [0,1,2,3,4,5,6,7,8,9,10,11,12,13,14,15,16,17,18,19,20,21] A1w Z kR ?_
 repeat refine st ?_
 refine A0v tab 0 Z Z Z kR Z Z Z Z Z hlen ?_
 repeat refine st ?_
 refine A8d tab Z Z Z kR Z hvb (A1b tab Z Z Z k1) ?_
 repeat refine st ?_
 refine A0v tab ((A0g P F ws).length-1) Z Z Z kR Z Z oM Z Z oM ?_
 repeat refine st ?_
 refine A8d tab Z Z Z kR Z hvb (A1b tab Z Z Z m1) ?_
 repeat refine st ?_
 refine A0l tab (β':=[]) (xs:=[.agg #[.int .i64 ((P:Int)-(lst (A0g P F ws)[0].1).length),.int .i64 ((P:Int)-(lst (A0g P F ws)[(A0g P F ws).length-1].1).length)],.int .i64 0]) (by exact .cell rfl ib rfl (.tmp rfl .nil)) (Back.forget hb (Back.here fun p=>Nat.zero_le _)) ?_
 exact⟨Z,Z⟩
end
section
variable{mn:Who}{rd:Option Nat}{n:Nat}{Q:Exit→St→View→Prop}{ds:List Deferred}{ρ:Regs}{β:A0j}{v:View}
 {ops:Array Oper}{l:List Oper}{d:Nat}{ty:TypeId}{pos:String}{af:Array Edge}{gu:Option (Nat×Bool)}
theorem L_neqR{y z:Operand}{t2:TypeId}{a b:Int}(hw:A0x ops gu ρ=some true)(hn:Nat.blt d n=true)(hy:ρ.val y=some (A5u a b))(hz:ρ.val z=some (A5u a b))
  (h:XL prog mn n ops Q l ⟨ds,(d,.bool false)::ρ,β⟩ v):XL prog mn n ops Q (⟨some d,.binOp .neq 42 y z t2,ty,pos,af,gu⟩::l) ⟨ds,ρ,β⟩ v:=by
 refine A8u (o:=⟨some d,.binOp .neq 42 y z t2,ty,pos,af,gu⟩) (x:=.bool false) (A0p hw) hn (fun ev hev hbk w hle=>?_) h
 have hg:prog.eqGuardType prog.depth 42=false:=by kernel_rfl
 simp only [execOp,A0d,hev _ _ hy,hev _ _ hz,eqGuard,binOp,A3v,hg]
 simp only [Bool.not_true,Bool.false_eq_true,if_false,A0d]
 rw [A3v,A3v,hg]
 simp only [Bool.not_true,Bool.not_false,Bool.false_eq_true,if_false,if_true,A0m,A0d]
 refine range_eq ?_
 refine⟨Le.refl _,?_⟩
 simp
end
section
variable{v:View}
theorem counts_run{y:Vc}{xw:Wd}{a0:Option Addr}{cap0:Nat}{ns:List Int}(hy:WdsAt v y.a y.ws)(hns:RowAt v a0 (ns.map (.int .i64))):Run prog ⟨true,true⟩ (AtTop 3 6) v (G (Frame.enter prog 3 (List.toArray [vcV y,wdV xw,.slice a0 ns.length cap0]) .normal) []):=by
 refine top_run func3 Z nB ?_
 repeat (first|refine st ?_|refine qb fun bx=>?_)
 rename_i b3
 obtain⟨b4,rfl⟩:∃b:Nat,b=bx:=⟨bx,rfl⟩
 refine A0t Z (fun h=>?_) (fun h=>?_)
 ·clear h
  repeat (first|refine st ?_|refine qb fun bx=>?_)
  refine q1 bod21 Z Z Z Z Z A9k ?_
  repeat (first|refine st ?_|refine qb fun bx=>?_)
  exact⟨Z,Z,Z⟩
 have hl20:y.ws.length≤20:=by have:=of_decide_eq_false h;omega
 clear h
 repeat (first|refine st ?_|refine qb fun bx=>?_)
 refine A2u [3,4] [0,1,2,3,4,5] A1w Z kR ?_
 repeat (first|refine st ?_|refine qb fun bx=>?_)
 refine S_do kR (A0i [] _ Z bod23 Z Z Z Z Z A1n (newBag_x) (fun x β' hR=>⟨Le.refl _,?_,?_⟩))
 ·exact kp
 obtain⟨b,rfl,hB⟩:=hR
 rename A0j=>β1
 repeat (first|refine st ?_|refine qb fun bx=>?_)
 refine S_do kR (A0i β1 _ Z bod22 Z Z Z Z Z A0k (several_x (g:=⟨b,a0,cap0,ns⟩) (x:=xw) (y:=y) (RowAt.le hns (A0b _ _)) hB dM (hy.le (A0b _ _))) (fun x β' hR=>⟨Le.refl _,?_,?_⟩))
 ·exact kp
 obtain⟨βV,β2,a,c,l,rfl,hl3,hcnt,hVc⟩:=hR.at (rest:=[(b4,(wdV xw).cells,26),(b3,(vcV y).cells,24)]) hy hl20 (fun _=>rfl)
 clear hR hB
 repeat (first|refine st ?_|refine qb fun bx=>?_)
 refine XC_retire (β1:=βV) (β2:=β2) hcnt (fun hb=>?_)
 have hV:=hVc hb
 clear hVc hcnt
 generalize v.union (A0e βV)=u at hV⊢
 clear hb hns hy
 repeat (first|refine st ?_|refine qb fun bx=>?_)
 refine A1o (α:=Nat) (fun i=>⟨[],[(8,.int .i64 i),(7,.slice a 3 c)],[]⟩) (fun i w=>VcAt w a l∧i≤3) (fun i=>3-i) 0 ⟨Z,rg,cntL⟩ (Le.refl _) ⟨hV,Nat.zero_le _⟩ ?_
 clear hV
 rintro i u ⟨hV,hi⟩
 repeat (first|refine st ?_|refine qb fun bx=>?_)
 refine A0t Z (fun h=>?_) (fun h=>?_)
 ·have hil:i<l.length:=by have:=of_decide_eq_true h;omega
  have hil3:i<3:=oM
  clear h
  obtain⟨bb,off,q,cc,e,f,rfl,hv,hc1⟩:=hV.get hil
  obtain⟨hw,hw20⟩:=hV.wd _ (List.getElem_mem hil)
  generalize l[i]=z at hc1 hw hw20
  obtain⟨P,F,ws,wa,wc⟩:=z
  dsimp only at hw hw20
  replace hc1:off+i*3+3≤cc.size∧cc.extract (off+i*3) (off+i*3+3)=List.toArray [.int .i64 P,.int .i64 F,.slice wa ws.length wc]:=hc1
  repeat (first|refine st ?_|refine qb fun bx=>?_)
  refine A2t tab i Z Z Z Z Z Z Z hil3 ?_
  refine A2p tab Z Z Z hv (A2d tab Z Z Z hc1) ?_
  refine Q_op fun ho=>A0i [] _ ho bod24 Z Z Z Z Z A1n (ownVouch_x (P:=P) (F:=F) (hw.le (A0b _ _)) oM) (fun x β' hR=>?_)
  clear ho
  obtain⟨aY,cY,rfl,hSY⟩:=hR
  refine A0w (β1:=β') cntA (fun hb=>?_)
  have hwY:WdsAt (u.union (A0e β')) aY ws:=A2m hb hSY
  replace hV:=hV.le (A0b u (A0e β'))
  replace hw:=hw.le (A0b u (A0e β'))
  replace hv:=A0b u (A0e β') _ _ hv
  generalize u.union (A0e β')=u1 at hwY hV hw hv⊢
  clear hb hSY
  obtain⟨n1,e1,hcv⟩:∃n e:Int,countV P F ws = .tuple #[.int .i64 n,.int .i64 e]:=⟨_,_,rfl⟩
  obtain⟨lo,hi_,hlv⟩:∃lo hi:Int,liarsV P.toNat (wlsE P F ws) = .agg #[.int .i64 lo,.int .i64 hi]:=by
   cases hwl:wlsE P F ws with
   | nil=>exact⟨_,_,rfl⟩
   | cons y l=>exact⟨_,_,rfl⟩
  have kC1:=fun {w:View} (h:Le u1 w)=>Count_x (v:=w) (wc:=cY) (P:=P) (F:=F) (hwY.le h) oM
  have kC2:=fun {w:View} (h:Le u1 w)=>CountR (v:=w) (mn:=⟨true,true⟩) (wc:=wc) (P:=P) (F:=F) (hw.le h) oM
  have kL1:=fun {w:View} (h:Le u1 w)=>Liars_x (v:=w) (wc:=cY) (P:=P) (F:=F) (hwY.le h) oM
  have kL2:=fun {w:View} (h:Le u1 w)=>LiarsR (v:=w) (mn:=⟨true,true⟩) (wc:=wc) (P:=P) (F:=F) (hw.le h) oM
  have kF1:=fun {w:View} (h:Le u1 w)=>Fewest_x (v:=w) (wc:=cY) (P:=P) (F:=F) (hwY.le h) oM
  have kF2:=fun {w:View} (h:Le u1 w)=>FewestR (v:=w) (mn:=⟨true,true⟩) (wc:=wc) (P:=P) (F:=F) (hw.le h) oM
  have kS:=fun {w:View} (h:Le u1 w)=>sameV_x (v:=w) (mn:=⟨true,true⟩) (P:=P) (F:=F) (c:=cY) (d:=wc) (hwY.le h) (hw.le h) oM
  rw [hcv]at kC1 kC2
  rw [hlv]at kL1 kL2
  generalize errS P F ws=eS at kL1 kL2 kF1 kF2
  generalize (wlsE P F ws).headD (0,0)=w0 at kF1 kF2
  clear hlv hcv hw hwY
  repeat (first|refine st ?_|refine qb fun bx=>?_)
  refine q1 bod25 Z Z Z Z Z (kC1 (Le.refl _)) ?_
  repeat (first|refine st ?_|refine qb fun bx=>?_)
  refine A2t tab i Z Z Z Z Z Z Z hil3 ?_
  refine A2p tab Z Z Z hv (A2d tab Z Z Z hc1) ?_
  refine q1 bod26 Z Z Z Z Z (kC2 (Le.refl _)) ?_
  repeat (first|refine st ?_|refine qb fun bx=>?_)
  refine Q_op fun ho=>A0i [] _ ho bod27 Z Z Z Z Z A1n (kF1 (A0b _ _)) (fun x β' hR=>?_)
  clear ho
  obtain⟨t1,rfl,β3,β4,x1,x2,rfl,⟨a1,c1,rfl,hx1⟩,⟨a2,c2,rfl,hx2⟩,rfl⟩:=hR
  refine A0w (β1:=β3++β4) cntA (fun hb=>?_)
  have hr1:RowAt (u1.union (A0e (β3++β4))) a1 ((lst w0.1).map natV):=RowAt.own hb (show Subm β3 (β3++β4)from cntL) hx1
  have hr2:RowAt (u1.union (A0e (β3++β4))) a2 ((lst w0.2).map natV):=RowAt.own hb (show Subm β4 (β3++β4)from cntL) hx2
  have hle:=A0b u1 (A0e (β3++β4))
  generalize u1.union (A0e (β3++β4))=u2 at hr1 hr2 hle⊢
  replace hV:=hV.le hle
  replace hv:=hle _ _ hv
  clear hb hx1 hx2
  repeat (first|refine st ?_|refine qb fun bx=>?_)
  refine A2t tab i Z Z Z Z Z Z Z hil3 ?_
  refine A2p tab Z Z Z hv (A2d tab Z Z Z hc1) ?_
  refine Q_op fun ho=>A0i [] _ ho bod28 Z Z Z Z Z A1n (kF2 (hle.trans (A0b _ _))) (fun x β' hR=>?_)
  clear ho
  obtain⟨t1,rfl,a3,c3,a4,c4,rfl,hrr⟩:=hR
  rename A0j=>β5
  refine A0w (β1:=β5) cntA (fun hb=>?_)
  obtain⟨hr3,hr4⟩:=hrr u2 hb
  have hle2:=A0b u2 (A0e β5)
  generalize u2.union (A0e β5)=u3 at hr3 hr4 hle2⊢
  replace hV:=hV.le hle2
  replace hv:=hle2 _ _ hv
  replace hr1:=RowAt.le hr1 hle2
  replace hr2:=RowAt.le hr2 hle2
  replace hle:=hle.trans hle2
  clear hb hrr hle2
  repeat (first|refine st ?_|refine qb fun bx=>?_)
  refine q1 bod29 Z Z Z Z Z (kL1 hle) ?_
  repeat (first|refine st ?_|refine qb fun bx=>?_)
  refine A2t tab i Z Z Z Z Z Z Z hil3 ?_
  refine A2p tab Z Z Z hv (A2d tab Z Z Z hc1) ?_
  refine q1 bod30 Z Z Z Z Z (kL2 hle) ?_
  have k1:=lst_len8 w0.1
  have k2:=lst_len8 w0.2
  have kW:=sameWorlds_x (mn:=⟨true,true⟩) (c1:=c1) (c2:=c2) (d1:=c3) (d2:=c4) hr1 hr2 hr3 hr4 oM oM oM oM
  rw [decide_eq_true Z,decide_eq_true rfl]at kW
  repeat (first|refine st ?_|refine qb fun bx=>?_)
  refine lexL A1w Z kR ?_
  repeat (first|refine st ?_|refine qb fun bx=>?_)
  rw [neI n1]
  repeat (first|refine st ?_|refine qb fun bx=>?_)
  rw [neI e1]
  repeat (first|refine st ?_|refine qb fun bx=>?_)
  rw [neI eS]
  repeat (first|refine st ?_|refine qb fun bx=>?_)
  refine L_neqR (a:=lo) (b:=hi_) Z Z Z Z ?_
  repeat (first|refine st ?_|refine qb fun bx=>?_)
  rw [neI eS]
  repeat (first|refine st ?_|refine qb fun bx=>?_)
  refine A3r bod31 Z Z Z Z Z kW ?_
  repeat (first|refine st ?_|refine qb fun bx=>?_)
  refine A2i tab i Z Z Z Z Z Z Z hil3 ?_
  refine A9d tab Z Z Z hv (A2d tab Z Z Z hc1) ?_
  refine A3r bod32 Z Z Z Z Z (kS hle) ?_
  repeat (first|refine st ?_|refine qb fun bx=>?_)
  exact A0c ⟨i+1,u3,oM,⟨Z,rg,cntL⟩,Le.refl _,hV,hil3⟩
 ·clear h
  repeat (first|refine st ?_|refine qb fun bx=>?_)
  refine q1 bod21 Z Z Z Z Z A9k ?_
  repeat (first|refine st ?_|refine qb fun bx=>?_)
  exact⟨Z,Z,Z⟩
end
end Go.Proofs.YtiolobmgibdfmaaGreat
end
section
namespace Go.Proofs.YtiolobmgibdfmaaGreat
open Go Go.Pal Go.Pal.Vo Go.Conc Go.ConcM Go.RowKit Go.ChangeShapes Go.WideShapes Go.ChangeAt Go.Deep
set_option maxHeartbeats 4000000
set_option maxRecDepth 100000
theorem Opened.both{W:World}{u v:View}(hu:Opened W u)(hv:Opened W v):Opened W (u.union v)∧u.Le (u.union v)∧v.Le (u.union v):=by
 have key:∀b,(u.union v) b=u b∨(u.union v) b=v b:=fun b=>by
  unfold View.union
  cases u b with
  | none=>exact .inr rfl
  | some x=>exact .inl rfl
 refine⟨⟨fun b p o h=>?_,fun b h=>?_⟩,(fun b x h=>by unfold View.union;rw [h]),fun b x h=>?_⟩
 ·rcases key b with e|e
  ·exact hu.ag b p o (e ▸ h)
  ·exact hv.ag b p o (e ▸ h)
 ·obtain⟨o,h⟩:=h
  rcases key b with e|e
  ·exact hu.ro b ⟨o,e ▸ h⟩
  ·exact hv.ro b ⟨o,e ▸ h⟩
 ·unfold View.union
  cases hb:u b with
  | none=>exact h
  | some y=>
   obtain⟨p,o⟩:=y
   obtain⟨p',o'⟩:=x
   have e1:=hu.ag b p o hb
   have e2:=hv.ag b p' o' h
   rw [e1]at e2
   cases e2
   have f1:p=false:=by
    cases p with
    | false=>rfl
    | true=>exact absurd ⟨_,hb⟩ (hu.ro b)
   have f2:p'=false:=by
    cases p' with
    | false=>rfl
    | true=>exact absurd ⟨_,h⟩ (hv.ro b)
   rw [f1,f2]
end Go.Proofs.YtiolobmgibdfmaaGreat
end
section
namespace Go.Proofs.YtiolobmgibdfmaaGreat
open Go Go.ChangeShapes
theorem A1c{a b:Bool}(ha:a=true)(hb:b=true):(a&&b)=true:=by rw [ha,hb];rfl
theorem j3_0:(Rows.vouchCountsRow.wf (OpenSpec.ofChange Rows.vouchCountsSpec))=true:=by kernel_rfl
theorem j3_1:(laidOutB Tryz.prog)=true:=by kernel_rfl
theorem j3_2:(mapsRowed Tryz.prog)=true:=by kernel_rfl
theorem j3_3:(Tryz.f3.params.all (Tryz.prog.readableRec ·))=true:=by kernel_rfl
theorem j3_4:(namedTie Tryz.prog Rows.vouchCountsRow.named Rows.vouchCountsSpec.vars)=true:=by kernel_rfl
theorem j3_5:((Rows.vouchCountsRow.stops == []))=true:=by kernel_rfl
theorem j3_6:((Tryz.prog.stops == []))=true:=by kernel_rfl
theorem j3_7:((Rows.vouchCountsRow.knobs == []))=true:=by kernel_rfl
theorem j3_8:((Tryz.prog.stopKnobs == []))=true:=by kernel_rfl
theorem j3_9:((Rows.vouchCountsRow.inPlace==Tryz.prog.inPlace 3))=true:=by kernel_rfl
theorem j3_10:((Rows.vouchCountsRow.unfollowed==Tryz.prog.unfollowed 3))=true:=by kernel_rfl
theorem j3_11:((Rows.vouchCountsRow.recurses==Tryz.prog.recurses 3))=true:=by kernel_rfl
theorem j3_12:((Rows.vouchCountsRow.named==Tryz.prog.varsNamed 3))=true:=by kernel_rfl
theorem j3_13:((Rows.vouchCountsRow.maps==(Tryz.f3.params.toList++Rows.vouchCountsSpec.plain.varTypes Tryz.prog).any (Tryz.prog.mapsRec ·)))=true:=by kernel_rfl
theorem j3_14:((Rows.vouchCountsRow.ifaces==(Tryz.f3.params.toList++Rows.vouchCountsSpec.plain.varTypes Tryz.prog).any (Tryz.prog.ifacesRec ·)))=true:=by kernel_rfl
theorem j3_15:((Rows.vouchCountsRow.mapsOut==Tryz.prog.mapsAmong Tryz.f3.resultTypes.toList))=true:=by kernel_rfl
theorem j3_16:((Rows.vouchCountsRow.loops==(Tryz.f3.params.toList++Rows.vouchCountsSpec.plain.varTypes Tryz.prog).any (Tryz.prog.loopsFrom ·)))=true:=by kernel_rfl
theorem j3_17:((Rows.vouchCountsRow.wideKeys==(Tryz.f3.params.toList++Rows.vouchCountsSpec.plain.varTypes Tryz.prog++Tryz.f3.resultTypes.toList).any (Tryz.prog.wideKeysFrom ·)))=true:=by kernel_rfl
theorem j3_18:(Rows.vouchCountsSpec.vars.all (Tryz.prog.varReadable ·))=true:=by kernel_rfl
theorem j3_19:(Tryz.f3.resultTypes.all (fun t=>Tryz.prog.readableRec t&&decide (t<Tryz.prog.types.size)))=true:=by kernel_rfl
theorem j3_20:((Rows.vouchCountsRow.ifacesOut==Tryz.f3.resultTypes.toList.any (Tryz.prog.ifacesRec ·)))=true:=by kernel_rfl
theorem j3_21:((Rows.vouchCountsRow.loopsOut==Tryz.f3.resultTypes.toList.any (Tryz.prog.loopsFrom ·)))=true:=by kernel_rfl
theorem j3_22:((Rows.vouchCountsRow.plainKeys==Tryz.prog.plainKeys))=true:=by kernel_rfl
theorem j3_23:(Rows.vouchCountsRow.shortTexts.isNone)=true:=by kernel_rfl
theorem j3_24:(Tryz.prog.stopsHeard)=true:=by kernel_rfl
theorem j3_25:(Tryz.prog.mayEnter)=true:=by kernel_rfl
theorem j3_26:((Rows.vouchCountsRow.lifted==Tryz.prog.liftsFinal))=true:=by kernel_rfl
theorem j3_27:((Tryz.prog.make==some Rows.vouchCountsRow.make))=true:=by kernel_rfl
theorem j3_28:((Rows.vouchCountsRow.kinds==(if Rows.vouchCountsRow.domain.isEmpty then []else Tryz.f3.params.toList.map fun t=>match Tryz.prog.underlying t with|some (.int k)=>some k|_=>none)))=true:=by kernel_rfl
theorem j3_29:((Rows.vouchCountsRow.pinned==Rows.vouchCountsRow.pinnedBy))=true:=by kernel_rfl
theorem j3_30:((Rows.vouchCountsRow.veiled==(Tryz.f3.params.toList++Rows.vouchCountsSpec.plain.varTypes Tryz.prog++Tryz.f3.resultTypes.toList).any (Tryz.prog.veiledRec ·)))=true:=by kernel_rfl
theorem j3_31:(Rows.vouchCountsRow.veiledFits Tryz.prog Tryz.f3.params.toList (Tryz.f3.params.toList++Rows.vouchCountsSpec.plain.varTypes Tryz.prog++Tryz.f3.resultTypes.toList))=true:=by kernel_rfl
set_option maxRecDepth 100000 in
theorem j3:joinedFacts Tryz.prog 3 Tryz.f3 Rows.vouchCountsSpec Rows.vouchCountsRow=true:=A1c (A1c (A1c (A1c (A1c (A1c (A1c (A1c (A1c (A1c (A1c (A1c (A1c (A1c (A1c (A1c (A1c (A1c (A1c (A1c (A1c (A1c (A1c (A1c (A1c (A1c (A1c (A1c (A1c (A1c (A1c (j3_0) j3_1) j3_2) j3_3) j3_4) j3_5) j3_6) j3_7) j3_8) j3_9) j3_10) j3_11) j3_12) j3_13) j3_14) j3_15) j3_16) j3_17) j3_18) j3_19) j3_20) j3_21) j3_22) j3_23) j3_24) j3_25) j3_26) j3_27) j3_28) j3_29) j3_30) j3_31
end Go.Proofs.YtiolobmgibdfmaaGreat
end
section
namespace Go.Proofs.YtiolobmgibdfmaaGreat
open Go Go.Pal Go.Conc Go.ConcM Go.RowKit Go.ChangeShapes Go.WideShapes Go.ChangeAt
open View
theorem B0f:ownKnob Tryz.prog.godebug=none:=by kernel_rfl
set_option maxRecDepth 100000 in
set_option maxHeartbeats 4000000 in
theorem counts_lifted(os:Os)(started:os.Started)(H:Type)(enc:TypeId×Value→H)(F:Stop.Interp) :
  ReturnsInLeavingWide Rows.vouchCountsRow.assume Tryz.checked os 3 .any (Rows.vouchCountsSpec.pre6 enc Tryz.prog Tryz.f3 Rows.vouchCountsRow.domain false) ((OpenSpec.ofChange Rows.vouchCountsSpec).postWith enc Tryz.prog Tryz.f3 F (outsideKept [.timePasses]) false true false):=by
 refine returnsInLeavingWide_of_change_time (C:=Tryz.checked) B0f started Tryz.func3
  (ChangeSpec.witness6c (enc:=enc) (C:=Tryz.checked) ⟨#[],#[.agg #[.int .i64 0,.int .i64 0,.slice none 0 0],.agg #[.int .i64 0,.int .i64 0,.int .i64 0,.int .i64 0],.slice none 0 0],[]⟩ 8 kR kR kR kR) ?_
 intro W base args ds gs before hval0 hW _ _ hass
 have hval:∀(j:Nat) t v,Tryz.f3.params[j]?=some t→args[j]?=some v→Value.okWide Tryz.prog W .any base t v:=hval0
 have hW':=hW
 obtain⟨p,q,hA0,hV,rfl,_,_⟩:=hW
 have hA:DataW.TrodAll enc Tryz.prog W 0 (fun _=>true) true Tryz.f3.params.toList args.toList ds p:=hA0
 rw [Tryz.params3]at hA hval
 obtain⟨v0,v1,v2,d0,d1,d2,p0,p1,p2,rfl,rfl,rfl,h0,h1,h2⟩:=trodAll_three hA
 obtain⟨rfl,rfl⟩:=trodVars_none hV
 clear hA0 hval0
 simp only [List.append_nil,List.append_assoc]at hW'
 have hlt:∀x∈p0++(p1++(p2)),x.block<W.heap.size:=fun x hx=>by simpa using hW'.lt x hx
 obtain⟨P,F,a,ws,cap,u0,rfl,-,hu0,hws,hst0⟩:=openV (hval 0 24 v0 rfl rfl) h0 (fun x hx=>hlt x (by simp only [List.mem_append];simp [hx]))
 obtain⟨xw,rfl,hst1⟩:=openX (hval 1 26 v1 rfl rfl) h1 (fun x hx=>hlt x (by simp only [List.mem_append];simp [hx]))
 obtain⟨a0,cap0,ns,u2,rfl,hu2,hns,hst2⟩:=openL (hval 2 27 v2 rfl rfl) h2 (fun x hx=>hlt x (by simp only [List.mem_append];simp [hx]))
 obtain⟨hO0,la0,lb0⟩:=hu0.both hu2
 have hcalm:Calm W.tape:=hass.2.1 Z
 obtain⟨M,last,o,w',t',r1,r2,r3,v',e,hp,g1,g2,g3,g4⟩:=law_run (P:=Tryz.prog) (W:=W) (v:=(u0.union u2)) (args:=[boV P F a ws.length cap,wdV xw,.slice a0 ns.length cap0]) Tryz.func3 rfl kR hO0.ag hO0.ro hcalm (counts_run (y:=⟨P,F,ws,a,cap⟩) (hws.le (la0)) (RowAt.le hns (lb0)))
 refine⟨M,last,o,w',t',r1,r2,r3,v',e,⟨?_,hp.2.2⟩,g1,g2,g3,g4⟩
 obtain⟨rfl,hbel,hos⟩:=hp
 exact⟨_,_,_,[],p0++(p1++(p2)),[],hW',trodAll_mk1 (shut_bool Tryz.underlying4 true),trodAll_mk3 (hst0 _ hbel) (hst1 _ hbel) (hst2 _ hbel),Z,hbel.frame _,fun h=>by cases h⟩
theorem counts_said:Rows.VouchCountsSaid:=
 OpenClaim.holds_of_wide_leaving_time 3 Tryz.f3 rfl rfl rfl rfl rfl rfl rfl ⟨rfl,rfl,rfl,rfl,rfl⟩ rfl rfl rfl rfl rfl kR Tryz.func3 j3
  (of_decide_eq_true kR) (by unfold Func.isWrapper;first|(rw [if_pos (by decide +kernel)];kernel_rfl)|(rw [if_neg (by decide +kernel)];exact⟨Z,Z⟩))
  (fun os started H enc _ F=>counts_lifted os started H enc F)
end Go.Proofs.YtiolobmgibdfmaaGreat
end
#print axioms Go.Proofs.YtiolobmgibdfmaaGreat.counts_said
