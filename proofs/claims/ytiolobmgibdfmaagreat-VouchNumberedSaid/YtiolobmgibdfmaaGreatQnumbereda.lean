/- Part 38. -/
import Derived.Test.YtiolobmgibdfmaaGreatPbc
import Derived.Test.YtiolobmgibdfmaaGreatPbd
import Derived.Test.YtiolobmgibdfmaaGreatRaspra
import Derived.Test.YtiolobmgibdfmaaGreatRsipra
set_option linter.all false
section
namespace Go.Proofs.YtiolobmgibdfmaaGreat
open Go Go.Pal Go.Proofs.Tryz
theorem bod24:A0n Tryz.prog 24:=⟨_,_,func24,Z,by decide⟩
theorem bod52:A0n Tryz.prog 52:=⟨_,_,func52,Z,by decide⟩
theorem bod59:A0n Tryz.prog 59:=⟨_,_,func59,Z,by decide⟩
theorem bod114:A0n Tryz.prog 114:=⟨_,_,func114,Z,by decide⟩
end Go.Proofs.YtiolobmgibdfmaaGreat
end
section
namespace Go.Proofs.YtiolobmgibdfmaaGreat
open Go Go.Pal Go.Pal.Vo Go.Conc View
open Go.Proofs.Tryz
set_option maxHeartbeats 4000000
set_option maxRecDepth 20000
section
variable{mn:Who}{v:View}{a:Option Addr}{cap:Nat}
theorem factF_x{w:Wl}{p:Nat}{b:Nat}{q:Bool}{e:TypeId}{f:Nat×Nat}(h2:w.2<256)(hp:p<8)(hv:v b=some (q,.cells #[.int .i64 p] e f)):Ret1 prog mn 114 [wlV w,.pointer (some ⟨b,0,none⟩)] (.bool (bit w.2 p)) v:=by
 refine A0f tab func114 Z nB (args:=[_,_]) ?_
 repeat (first|refine st ?_|refine qb fun bx=>?_)
 refine A2p tab Z Z Z hv (x:=.int .i64 p) Z ?_
 repeat (first|refine st ?_|refine qb fun bx=>?_)
 refine Q_op fun ho=>A0s ho A9n Z Z Z Z Z (A9l h2 hp) ?_
 clear ho
 repeat (first|refine st ?_|refine qb fun bx=>?_)
 refine A0l tab [] (by exact .tmp rfl .nil) (Back.here cntL) ?_
 exact⟨Z,Z⟩
end
section
variable{v:View}{wa:Option Addr}{wc:Nat}
theorem Fact_x{P F:Int}{ws:List Wd}{x:Int}{best:Bool}(hws:WdsAt v wa ws)(hwl:ws.length<2^30) :
  CallsB prog ⟨true,true⟩ 52 #[boV P F wa ws.length wc,.int .i64 x,.bool best] (RetB fun r β'=>r = .tuple #[.int .i64 (if errN F P F ws x=0 then verd (someL best (A0g P.toNat F.toNat ws)) (fun w=>bit w.2 x.toNat)else 0),.int .i64 (errN F P F ws x)]∧β'=[]) [] v:=by
 refine A3m tab A4x func52 Z nB (args:=[_,_,_]) ?_
 repeat (first|refine st ?_|refine qb fun bx=>?_)
 refine Q_op fun ho=>A6x Z ho Z Z ?_
 clear ho
 repeat (first|refine st ?_|refine qb fun bx=>?_)
 refine Q_op fun ho=>A6g ho bod79 Z Z Z Z (A6u (hws.le (A0b _ _)) hwl) (fun h=>?_) (fun h=>?_)
 ·have he:errN F P F ws x=A2h P F ws:=if_neg h
  rw [he,if_neg h]
  refine pn ?_
  exact A2n tab Z ib dM sb (xs:=[_,_]) (by exact .tmp rfl (.cell rfl ib rfl .nil)) (Back.here fun p=>Nat.zero_le _) ⟨Z,Z⟩
 clear ho
 rw [show errN F P F ws x=if 0≤x∧x≤F-1 then voidE (A0g P.toNat F.toNat ws)else 3 from if_pos h]
 obtain⟨P,F,rfl,rfl,hv⟩:=A4w h
 simp only [Int.toNat_natCast]
 have hP4:=hv.p4
 have hF3:=hv.f3
 repeat (first|refine st ?_|refine qb fun bx=>?_)
 refine Q_op fun ho=>A_needR ho bod94 Z Z Z Z (fact_x oM) (fun h=>?_) (fun h=>?_)
 ·rw [if_neg (of_decide_eq_false h)]
  refine pn ?_
  exact A2n tab Z ib dM sb (xs:=[_,_]) (by exact .tmp rfl (.cell rfl ib rfl .nil)) (Back.here fun p=>Nat.zero_le _) ⟨Z,Z⟩
 clear ho
 have hx:=of_decide_eq_true h
 rw [if_pos hx]
 clear h
 obtain⟨x,rfl⟩:=Int.eq_ofNat_of_zero_le hx.1
 simp only [Int.toNat_natCast]
 repeat (first|refine st ?_|refine qb fun bx=>?_)
 rename_i b3 b4 b7
 refine Q_op fun ho=>A_wls ho bod102 Z Z Z Z (l:=A0g P F ws) (l':=someL best (A0g P F ws)) (of_x hv (hws.le (A0b _ _)) hwl) (fun h=>?_) (fun hne a cap βw hS=>?_)
 ·refine pn ?_
  rw [h]
  exact A2n tab Z ib dM sb (xs:=[_,_]) (by exact .tmp rfl (.cell rfl ib rfl .nil)) (Back.here fun p=>Nat.zero_le _) ⟨Z,Z⟩
 clear ho
 rw [A9v hne,if_pos rfl]
 refine A0w (β1:=βw++[(b4,#[Value.int .i64 x],3)]) (β2:=[(bx,(boV P F wa ws.length wc).cells,95),(b7,#[Value.int .i64 0],34),(b3,(boV P F wa ws.length wc).cells,24)])
  (show ∀p,Pal.cnt p (βw++[(bx,(boV P F wa ws.length wc).cells,95),(b7,#[Value.int .i64 0],34),(b4,#[Value.int .i64 x],3),(b3,(boV P F wa ws.length wc).cells,24)])=Pal.cnt p ((βw++[(b4,#[Value.int .i64 x],3)])++[(bx,(boV P F wa ws.length wc).cells,95),(b7,#[Value.int .i64 0],34),(b3,(boV P F wa ws.length wc).cells,24)])from cntA) (fun hbk=>?_)
 have hrow:=RowAt.own hbk (show Subm βw (βw++[(b4,#[Value.int .i64 x],3)])from cntL) hS
 have hv4:=A9c hbk (b:=b4) ib
 have hlen:=A4s (ws:=ws) hv.p4 hv.f3
 have hlen2:=someL_len (best:=best) (l:=A0g P F ws)
 repeat (first|refine st ?_|refine qb fun bx=>?_)
 refine Q_op fun ho=>A0s ho bod101 Z Z Z Z Z (verdict_x (p:=fun w=>bit w.2 x) hrow oM bod114 (fun w hw u hl=>factF_x (A4d hv.p4 hv.f3 (someL_mem hw)).2 oM (hl _ _ hv4))) ?_
 clear ho
 repeat (first|refine st ?_|refine qb fun bx=>?_)
 exact A6e tab Z (β':=[]) (xs:=[_,_]) (by exact .tmp rfl (.cell rfl ib rfl .nil)) (Back.forget hbk (Back.here fun p=>Nat.zero_le _)) ⟨Z,Z⟩
end
section
variable{mn:Who}{rd:Option Nat}{n:Nat}{Q:Exit→St→View→Prop}{ds:List Deferred}{ρ:Regs}{β:A0j}{v:View}{K:St→View→Prop}
 {ops:Array Oper}{i:Nat}{l:List Oper}{d:Nat}{ty:TypeId}{pos:String}{af:Array Edge}{gu:Option (Nat×Bool)}
theorem A_neqR{y z:Operand}{t2:TypeId}{a b c e:Int}(ho:ops[i]?=some ⟨some d,.binOp .neq 42 y z t2,ty,pos,af,gu⟩)(hw:A0x ops gu ρ=some true)(hn:Nat.blt d n=true)(hy:ρ.val y=some (A5u a b))(hz:ρ.val z=some (A5u c e))
  (h:K ⟨ds,(d,.bool (!decide (a=c∧b=e)))::ρ,β⟩ v):XOp prog mn rd n ops i Q K ⟨ds,ρ,β⟩ v:=by
 refine A2x ho (A0p hw) (.inr Z) hn fun ev hev hbk=>?_
 have hg:prog.eqGuardType prog.depth 42=false:=by kernel_rfl
 simp only [execOp,A0d,hev _ _ hy,hev _ _ hz,eqGuard,binOp,A3v,hg]
 simp only [Bool.not_true,Bool.false_eq_true,if_false,A0d]
 rw [A3v,A3v,hg]
 simp only [Bool.not_true,Bool.not_false,Bool.false_eq_true,if_false,if_true,A0m,A0d]
 refine range_eq ?_
 exact⟨β,v,⟨hbk,Le.refl _⟩,h⟩
end
section
variable{P F:Nat}{ws:List Wd}{v:View}{a:Option Addr}{cap:Nat}
theorem B4y{l:List Wl}(h:0<l.length):voidE l=0:=A9v (List.length_pos_iff.1 h)
theorem person_r{p:Nat}{best:Bool}(h:VOk P F ws)(hws:WdsAt v a ws)(hp:p<P)(hn:0<(A0g P F ws).length) :
  Ret1 prog ⟨true,true⟩ 41 [boV P F a ws.length cap,.int .i64 p,.bool best] (.tuple #[.int .i64 (verd (someL best (A0g P F ws)) (fun w=>bit w.1 p)),.int .i64 0]) v:=by
 have h8:=h.w8
 have e:errN P P F ws p=0:=by unfold errN;rw [h.check,if_pos Z,if_pos oM];exact B4y hn
 have:=Person_x (v:=v) (wa:=a) (wc:=cap) (P:=P) (F:=F) (x:=p) (best:=best) hws oM
 rw [e,if_pos rfl]at this
 exact this
theorem person_v{p:Nat}{best:Bool}(h:VOk P F ws)(hws:WdsAt v a ws)(hp:p<P)(hn:A0g P F ws=[]) :
  Ret1 prog ⟨true,true⟩ 41 [boV P F a ws.length cap,.int .i64 p,.bool best] (.tuple #[.int .i64 0,.int .i64 11]) v:=by
 have h8:=h.w8
 have e:errN P P F ws p=11:=by unfold errN;rw [h.check,if_pos Z,if_pos oM];simp only [Int.toNat_natCast];rw [hn];rfl
 have:=Person_x (v:=v) (wa:=a) (wc:=cap) (P:=P) (F:=F) (x:=p) (best:=best) hws oM
 rw [e]at this
 exact this
end
def saidN(some all:Nat):Int:=if some=0 then 2 else if some=all then 1 else 3
theorem lst0:lst 0=[]:=by decide
theorem own0:OwnS 3 1 [] none (lst 0).length 0 ((lst 0).map natV):=by rw [lst0];exact .nil
def lieN(P:Nat)(w:Wl):Int:=(P:Int)-(lst w.1).length
def loF(P:Nat)(l:List Wl):Int:=l.foldl (fun m w=>if lieN P w<m then lieN P w else m) 99
def hiF(P:Nat)(l:List Wl):Int:=l.foldl (fun m w=>if lieN P w > m then lieN P w else m) (-1)
theorem lieN_at{P:Nat}{w:Wl}(hP:P≤4)(hw:w.1<2 ^ P):0≤lieN P w∧lieN P w≤P∧lieN P w=(lst (fls P w.1)).length:=by
 have h1:(List.range 5).all (fun P=>(List.range (2 ^ P)).all fun g=>(lst g).length+(lst (fls P g)).length==P)=true:=by decide +kernel
 have h2:=eq_of_beq (List.all_eq_true.1 (List.all_eq_true.1 h1 P (List.mem_range.2 oM)) w.1 (List.mem_range.2 hw))
 unfold lieN
 omega
theorem lo_spec{P:Nat}:∀{l:List Wl} {m:Int},(∀w∈l,m≤lieN P w)→m≤99→(∃w∈l,lieN P w=m)→loF P l=m:=by
 have key:∀(l:List Wl) (z m:Int),m≤z→(∀w∈l,m≤lieN P w)→(z=m∨∃w∈l,lieN P w=m)→l.foldl (fun m w=>if lieN P w<m then lieN P w else m) z=m:=by
  intro l
  induction l with
  | nil=>
   intro z m h1 h2 h3
   rcases h3 with h3|⟨w,hw,_⟩
   ·exact h3
   ·cases hw
  | cons x l ih=>
   intro z m h1 h2 h3
   rw [List.foldl_cons]
   have hx:=h2 x (List.mem_cons_self ..)
   refine ih _ _ (by split<;>omega) (fun w hw=>h2 w (List.mem_cons_of_mem _ hw)) ?_
   rcases h3 with h3|⟨w,hw,h3⟩
   ·left;split<;>omega
   ·rcases List.mem_cons.1 hw with rfl|hw
    ·left;split<;>omega
    ·exact .inr ⟨w,hw,h3⟩
 intro l m h1 h2 h3
 exact key l 99 m h2 h1 (.inr h3)
theorem hi_spec{P:Nat}:∀{l:List Wl} {m:Int},(∀w∈l,lieN P w≤m)→-1≤m→(∃w∈l,lieN P w=m)→hiF P l=m:=by
 have key:∀(l:List Wl) (z m:Int),z≤m→(∀w∈l,lieN P w≤m)→(z=m∨∃w∈l,lieN P w=m)→l.foldl (fun m w=>if lieN P w > m then lieN P w else m) z=m:=by
  intro l
  induction l with
  | nil=>
   intro z m h1 h2 h3
   rcases h3 with h3|⟨w,hw,_⟩
   ·exact h3
   ·cases hw
  | cons x l ih=>
   intro z m h1 h2 h3
   rw [List.foldl_cons]
   have hx:=h2 x (List.mem_cons_self ..)
   refine ih _ _ (by split<;>omega) (fun w hw=>h2 w (List.mem_cons_of_mem _ hw)) ?_
   rcases h3 with h3|⟨w,hw,h3⟩
   ·left;split<;>omega
   ·rcases List.mem_cons.1 hw with rfl|hw
    ·left;split<;>omega
    ·exact .inr ⟨w,hw,h3⟩
 intro l m h1 h2 h3
 exact key l (-1) m h2 h1 (.inr h3)
theorem lt_lie{P:Nat}{x y:Wl}(hP:P≤4)(hx:x.1<2 ^ P)(hy:y.1<2 ^ P)(h:ltW P x y=true):lieN P x≤lieN P y:=by
 have h1:=lieN_at hP hx
 have h2:=lieN_at hP hy
 unfold ltW cmpW at h
 rw [decide_eq_true_eq]at h
 unfold Vo.cnt at h
 split at h
 ·omega
 ·rename_i hc
  have:=Classical.not_not.1 hc
  omega
theorem lies_of{P F:Nat}{ws:List Wd}{W:List Wl}(hP:P≤4)(hF:F≤3)(hperm:W.Perm (A0g P F ws))(h0:0<W.length):liarsV P (A0g P F ws) = .agg #[.int .i64 (loF P W),.int .i64 (hiF P W)]∧(∀w,(A0g P F ws).head?=some w→lieN P w=loF P W):=by
 have hl:0<(A0g P F ws).length:=by rw [←hperm.length_eq];exact h0
 have hasc:=worldsL_asc (P:=P) (F:=F) oM oM ws
 have hlt:∀w∈A0g P F ws,w.1<2 ^ P:=fun w hw=>((worldsL_mem.1 hw).1).1
 have hmono:∀(i j:Nat) (hi:i<(A0g P F ws).length) (hj:j<(A0g P F ws).length),i≤j→lieN P (A0g P F ws)[i]≤lieN P (A0g P F ws)[j]:=fun i j hi hj hij=>by
  by_cases e:i=j
  ·subst e;exact Int.le_refl _
  ·exact lt_lie hP (hlt _ (List.getElem_mem hi)) (hlt _ (List.getElem_mem hj)) (List.pairwise_iff_getElem.1 hasc i j hi hj oM)
 have e1:loF P W=lieN P (A0g P F ws)[0]:=lo_spec (fun w hw=>by
  obtain⟨j,hj,rfl⟩:=List.getElem_of_mem (hperm.mem_iff.1 hw)
  exact hmono 0 j hl hj (Nat.zero_le _)) (by have:=lieN_at hP (hlt _ (List.getElem_mem hl));omega) ⟨_,hperm.mem_iff.2 (List.getElem_mem hl),Z⟩
 have e2:hiF P W=lieN P (A0g P F ws)[(A0g P F ws).length-1]:=hi_spec (fun w hw=>by
  obtain⟨j,hj,rfl⟩:=List.getElem_of_mem (hperm.mem_iff.1 hw)
  exact hmono j _ hj oM oM) (by have:=lieN_at hP (hlt _ (List.getElem_mem (show(A0g P F ws).length-1<(A0g P F ws).length by omega)));omega) ⟨_,hperm.mem_iff.2 (List.getElem_mem oM),Z⟩
 refine⟨?_,fun w hw=>?_⟩
 ·rw [liarsV_ne hl,e1,e2];rfl
 ·rw [e1]
  rw [List.head?_eq_getElem?,List.getElem?_eq_getElem hl]at hw
  cases hw;rfl
theorem verd_said{l W:List Wl}{p:Wl→Bool}(hperm:W.Perm l):verd l p=saidN (W.countP p) W.length:=by
 unfold verd saidN
 rw [hperm.countP_eq,hperm.length_eq]
def B4z(P:Nat)(W:List Wl)(w:Wl):Bool:=lieN P w==loF P W
theorem verd_best{P F:Nat}{ws:List Wd}{W:List Wl}{p:Wl→Bool}(hP:P≤4)(hF:F≤3)(hperm:W.Perm (A0g P F ws))(h0:0<W.length):verd (someL true (A0g P F ws)) p=saidN (W.countP fun w=>p w&&B4z P W w) (W.countP (B4z P W)):=by
 have hl:0<(A0g P F ws).length:=by rw [←hperm.length_eq];exact h0
 have h2:=(lies_of hP hF hperm h0).2
 have hb:bestL (A0g P F ws)=(A0g P F ws).filter (B4z P W):=by
  unfold bestL
  refine List.filter_congr fun w hw=>?_
  cases hh:A0g P F ws with
  | nil=>rw [hh]at hl;cases hl
  | cons y l=>
   have h3:=h2 y (by rw [hh];rfl)
   unfold B4z
   rw [←h3,Bool.not_not,Bool.eq_iff_iff,beq_iff_eq,beq_iff_eq]
   unfold lieN Vo.cnt
   rw [List.headD_cons]
   omega
 show verd (bestL (A0g P F ws)) p=_
 unfold verd saidN
 rw [hb,List.countP_filter,←List.countP_eq_length_filter,hperm.countP_eq,hperm.countP_eq]
section
variable{v:View}{P F:Nat}{ws:List Wd}{a:Option Addr}{cap:Nat}
theorem liars_r{W:List Wl}(h:VOk P F ws)(hws:WdsAt v a ws)(hperm:W.Perm (A0g P F ws))(hn:0<W.length) :
  Ret1 prog ⟨true,true⟩ 29 [boV P F a ws.length cap] (.tuple #[.agg #[.int .i64 (loF P W),.int .i64 (hiF P W)],.int .i64 0]) v:=by
 have h8:=h.w8
 have hl:0<(A0g P F ws).length:=by rw [←hperm.length_eq];exact hn
 have:=Liars_x (v:=v) (wa:=a) (wc:=cap) (P:=P) (F:=F) hws oM
 unfold wlsE errS at this
 rw [h.check,if_pos Z,if_pos Z,Int.toNat_natCast,Int.toNat_natCast,B4y hl,(lies_of h.p4 h.f3 hperm hn).1]at this
 exact this
theorem liars_v(h:VOk P F ws)(hws:WdsAt v a ws)(hn:A0g P F ws=[]) :
  Ret1 prog ⟨true,true⟩ 29 [boV P F a ws.length cap] (.tuple #[.agg #[.int .i64 0,.int .i64 0],.int .i64 11]) v:=by
 have h8:=h.w8
 have:=Liars_x (v:=v) (wa:=a) (wc:=cap) (P:=P) (F:=F) hws oM
 unfold wlsE errS at this
 rw [h.check,if_pos Z,if_pos Z,Int.toNat_natCast,Int.toNat_natCast,hn]at this
 exact this
theorem fact_r{f:Nat}{best:Bool}(h:VOk P F ws)(hws:WdsAt v a ws)(hf:f<F)(hn:0<(A0g P F ws).length) :
  Ret1 prog ⟨true,true⟩ 52 [boV P F a ws.length cap,.int .i64 f,.bool best] (.tuple #[.int .i64 (verd (someL best (A0g P F ws)) (fun w=>bit w.2 f)),.int .i64 0]) v:=by
 have h8:=h.w8
 have e:errN F P F ws f=0:=by unfold errN;rw [h.check,if_pos Z,if_pos oM];exact B4y hn
 have:=Fact_x (v:=v) (wa:=a) (wc:=cap) (P:=P) (F:=F) (x:=f) (best:=best) hws oM
 rw [e,if_pos rfl]at this
 exact this
variable{W:List Wl}{k:Nat}
end
section
variable{P:Nat}{u a b:Int}{w:Wl}
theorem hs0:A4h P ⟨u,0,a,b⟩ w=bit w.2 a.toNat:=by simp [A4h]
theorem hs1:A4h P ⟨u,1,a,b⟩ w=!bit w.2 a.toNat:=by simp [A4h]
theorem hs2:A4h P ⟨u,2,a,b⟩ w=!bit w.1 a.toNat:=by simp [A4h]
theorem hs3:A4h P ⟨u,3,a,b⟩ w=bit w.1 a.toNat:=by simp [A4h]
theorem hs4:A4h P ⟨u,4,a,b⟩ w=(!bit w.2 a.toNat||bit w.2 b.toNat):=by simp [A4h]
theorem hs5:A4h P ⟨u,5,a,b⟩ w=(bit w.1 a.toNat==bit w.1 b.toNat):=by simp [A4h]
theorem hs6:A4h P ⟨u,6,a,b⟩ w=decide ((P:Int)-cnt w.1≥a):=by simp [A4h]
end
section
variable{P:Program}{mn:Who}(T:Tab P){rd:Option Nat}{n:Nat}{Q:Exit→St→View→Prop}{ds:List Deferred}{ρ:Regs}{β:A0j}{v:View}{K:St→View→Prop}{ops:Array Oper}{i:Nat}{d:Nat}{ty:TypeId}{pos:String}{af:Array Edge}{gu:Option (Nat×Bool)}
theorem A_alloc{t:TypeId}{z:Value}(ho:ops[i]?=some ⟨some d,.alloc t,ty,pos,af,gu⟩)(hw:A0x ops gu ρ=some true)(hn:Nat.blt d n=true)(hz:T.zer t=some z)
  (h:∀b,K ⟨ds,(d,.pointer (some ⟨b,0,none⟩))::ρ,(b,z.cells,t)::β⟩ v):XOp P mn rd n ops i Q K ⟨ds,ρ,β⟩ v:=by
 refine A2x ho (A0p hw) (.inr Z) hn fun ev hev hbk=>?_
 simp only [execOp,Instr.alloc,A0d,A9x T hz]
 refine sx_newVar fun b hb'=>?_
 obtain⟨h1,h2⟩:=B0s (c:=z.cells) (t:=t) hbk hb'
 exact⟨_,v,⟨h1,h2⟩,h b⟩
end
end Go.Proofs.YtiolobmgibdfmaaGreat
end
section
namespace Go.Pal.Vo
def allK(n:Nat):Nat→List (List Nat)
 | 0=>[[]]
 | k+1=>(List.range n).flatMap fun x=>(allK n k).map (x::·)
theorem mem_allK{n:Nat}:∀{k:Nat} {l:List Nat},l.length=k→(∀x∈l,x<n)→l∈allK n k
 | 0,[],_,_=>by simp [allK]
 | 0,x::l,h,_=>by cases h
 | k+1,[],h,_=>by cases h
 | k+1,x::l,h,hx=>by
  simp only [allK,List.mem_flatMap,List.mem_range,List.mem_map]
  exact⟨x,hx x (List.mem_cons_self ..),l,mem_allK (by simpa using h) (fun y hy=>hx y (List.mem_cons_of_mem _ hy)),Z⟩
structure Ord(n:Nat)(l:List Nat):Prop where
 len:l.length=n
 nd:l.Nodup
 lt:∀x∈l,x<n
def mapG(l:List Nat)(g:Nat):Nat:=(List.range l.length).foldl (fun s p=>if bit g p then s+2 ^ l.getD p 0 else s) 0
theorem ord_tab:(List.range 5).all (fun n=>(allK n n).all fun l=>!decide l.Nodup||(((List.range (2 ^ n)).all fun g=>decide (mapG l g<2 ^ n)&&((List.range n).all fun p=>bit (mapG l g) (l.getD p 0)==bit g p)&&((lst (mapG l g)).length==(lst g).length)) &&
  ((List.range (2 ^ n)).all fun h=>(List.range (2 ^ n)).any fun g=>mapG l g==h)))=true:=by decide +kernel
theorem ord_onto:(List.range 5).all (fun n=>(allK n n).all fun l=>!decide l.Nodup||(List.range n).all fun q=>(List.range n).any fun p=>l.getD p 0==q)=true:=by decide +kernel
structure MapG(n:Nat)(l:List Nat):Prop where
 lt:∀g,g<2 ^ n→mapG l g<2 ^ n
 bit:∀g,g<2 ^ n→∀p,p<n→Vo.bit (mapG l g) (l.getD p 0)=Vo.bit g p
 len:∀g,g<2 ^ n→(lst (mapG l g)).length=(lst g).length
 onto:∀h,h<2 ^ n→∃g,g<2 ^ n∧mapG l g=h
theorem Ord.map{n:Nat}{l:List Nat}(hn:n≤4)(h:Ord n l):MapG n l:=by
 have h1:=List.all_eq_true.1 (List.all_eq_true.1 ord_tab n (List.mem_range.2 oM)) l (mem_allK h.len h.lt)
 rw [decide_eq_true h.nd]at h1
 simp only [Bool.not_true,Bool.false_or,Bool.and_eq_true,List.all_eq_true,List.mem_range,decide_eq_true_eq,beq_iff_eq,List.any_eq_true]at h1
 exact⟨fun g hg=>(h1.1 g hg).1.1,fun g hg p hp=>(h1.1 g hg).1.2 p hp,fun g hg=>(h1.1 g hg).2,fun k hk=>h1.2 k hk⟩
theorem MapG.inj{n:Nat}{l:List Nat}(hn:n≤4)(M:MapG n l){g k:Nat}(hg:g<2 ^ n)(hk:k<2 ^ n)(e:mapG l g=mapG l k):g=k:=by
 have h256:2 ^ n≤2^8:=Nat.pow_le_pow_right dM oM
 refine bit_ext oM oM fun m hm=>?_
 by_cases hmn:m<n
 ·rw [←M.bit g hg m hmn,←M.bit k hk m hmn,e]
 ·rw [bit_big oM hg hm hmn,bit_big oM hk hm hmn]
structure Wok(P F:Nat)(x:Wd):Prop where
 who:0≤x.who∧x.who<P
 kind:0≤x.kind∧x.kind≤6
 f:x.kind≤1∨x.kind=4→0≤x.a∧x.a<F
 p:x.kind=2∨x.kind=3∨x.kind=5→0≤x.a∧x.a<P
 f2:x.kind=4→0≤x.b∧x.b<F
 p2:x.kind=5→0≤x.b∧x.b<P
def toI(l:List Nat)(a:Int):Int:=(l.getD a.toNat 0:Nat)
def renW(π φ:List Nat)(x:Wd):Wd:=
  ⟨toI π x.who,x.kind,
   if x.kind≤1∨x.kind=4 then toI φ x.a else if x.kind=2∨x.kind=3 then toI π x.a else if x.kind=5 then min (toI π x.a) (toI π x.b)else x.a,
   if x.kind=4 then toI φ x.b else if x.kind=5 then max (toI π x.a) (toI π x.b)else 0⟩
def renL(π φ:List Nat)(w:Wl):Wl:=(mapG π w.1,mapG φ w.2)
section
variable{P F:Nat}{π φ:List Nat}
theorem MapG.bitI{n:Nat}{l:List Nat}(M:MapG n l){g:Nat}(hg:g<2 ^ n){a:Int}(ha:0≤a∧a<n):Vo.bit (mapG l g) (toI l a).toNat=Vo.bit g a.toNat:=by
 unfold toI
 rw [Int.toNat_natCast]
 exact M.bit g hg _ oM
theorem holds_ren(M:MapG P π)(N:MapG F φ){x:Wd}(hx:Wok P F x){w:Wl}(hw:w.1<2 ^ P∧w.2<2 ^ F):A4h P (renW π φ x) (renL π φ w)=A4h P x w:=by
 obtain⟨who,k,a,b⟩:=x
 obtain⟨_,hk,hf,hp,hf2,hp2⟩:=hx
 simp only at hk hf hp hf2 hp2
 have hk7:k=0∨k=1∨k=2∨k=3∨k=4∨k=5∨k=6:=oM
 rcases hk7 with rfl|rfl|rfl|rfl|rfl|rfl|rfl
 ·rw [show renW π φ ⟨who,0,a,b⟩=⟨toI π who,0,toI φ a,0⟩ by simp [renW]]
  simpa [A4h,renL]using N.bitI hw.2 (hf dM)
 ·rw [show renW π φ ⟨who,1,a,b⟩=⟨toI π who,1,toI φ a,0⟩ by simp [renW]]
  simpa [A4h,renL]using N.bitI hw.2 (hf dM)
 ·rw [show renW π φ ⟨who,2,a,b⟩=⟨toI π who,2,toI π a,0⟩ by simp [renW]]
  simpa [A4h,renL]using M.bitI hw.1 (hp dM)
 ·rw [show renW π φ ⟨who,3,a,b⟩=⟨toI π who,3,toI π a,0⟩ by simp [renW]]
  simpa [A4h,renL]using M.bitI hw.1 (hp dM)
 ·rw [show renW π φ ⟨who,4,a,b⟩=⟨toI π who,4,toI φ a,toI φ b⟩ by simp [renW]]
  have e1:=N.bitI hw.2 (hf dM)
  have e2:=N.bitI hw.2 (hf2 dM)
  simp [A4h,renL,e1,e2]
 ·rw [show renW π φ ⟨who,5,a,b⟩=⟨toI π who,5,min (toI π a) (toI π b),max (toI π a) (toI π b)⟩ by simp [renW]]
  have e1:=M.bitI hw.1 (hp dM)
  have e2:=M.bitI hw.1 (hp2 dM)
  have h5:∀(c d:Int) (u:Wl),A4h P ⟨toI π who,5,c,d⟩ u=(bit u.1 c.toNat==bit u.1 d.toNat):=fun c d u=>by simp [A4h]
  have h5':A4h P ⟨who,5,a,b⟩ w=(bit w.1 a.toNat==bit w.1 b.toNat):=by simp [A4h]
  rw [h5,h5',Int.min_def,Int.max_def]
  unfold renL
  by_cases h:toI π a≤toI π b
  ·rw [if_pos h,if_pos h,e1,e2]
  ·rw [if_neg h,if_neg h,e1,e2,Bool.beq_comm]
 ·have h1:=M.len w.1 hw.1
  rw [show renW π φ ⟨who,6,a,b⟩=⟨toI π who,6,a,0⟩ by simp [renW]]
  simp [A4h,renL,cnt,h1]
theorem toI_nat(l:List Nat)(a:Int):(toI l a).toNat=l.getD a.toNat 0:=Int.toNat_natCast _
theorem Ord.getD{n:Nat}{l:List Nat}(h:Ord n l){p:Nat}(hp:p<n):l.getD p 0<n:=by
 have hl:p<l.length:=by rw [h.len];exact hp
 rw [List.getD_eq_getElem?_getD,List.getElem?_eq_getElem hl]
 exact h.lt _ (List.getElem_mem hl)
theorem Ord.inj{n:Nat}{l:List Nat}(h:Ord n l){p q:Nat}(hp:p<n)(hq:q<n)(e:l.getD p 0=l.getD q 0):p=q:=by
 have hl:p<l.length:=by rw [h.len];exact hp
 have hm:q<l.length:=by rw [h.len];exact hq
 rw [List.getD_eq_getElem?_getD,List.getD_eq_getElem?_getD,List.getElem?_eq_getElem hl,List.getElem?_eq_getElem hm]at e
 exact(List.getElem_inj h.nd).1 e
theorem all_ren(hP:P≤4)(hF:F≤4)(A:Ord P π)(B:Ord F φ){ws:List Wd}(hws:∀x∈ws,Wok P F x){w:Wl}(hw:w.1<2 ^ P∧w.2<2 ^ F){p:Nat}(hp:p<P) :
  allOf P (ws.map (renW π φ)) (renL π φ w) (π.getD p 0)=allOf P ws w p:=by
 unfold allOf
 rw [List.all_map]
 rw [Bool.eq_iff_iff,List.all_eq_true,List.all_eq_true]
 refine forall_congr' fun x=>forall_congr' fun hx=>?_
 have hk:=hws x hx
 have e:(renW π φ x).who.toNat=π.getD x.who.toNat 0:=toI_nat _ _
 simp only [Function.comp]
 rw [holds_ren (A.map hP) (B.map hF) hk hw,e]
 have:(π.getD x.who.toNat 0 != π.getD p 0)=(x.who.toNat != p):=by
  rw [Bool.eq_iff_iff,bne_iff_ne,bne_iff_ne]
  exact⟨fun h h'=>h (by rw [h']),fun h h'=>h (A.inj (by have:=hk.who;omega) hp h')⟩
 rw [this]
theorem Asc.nodup{P:Nat}{l:List Wl}(h:Asc P l):l.Nodup:=List.Pairwise.imp (fun {x y} hxy e=>by subst e;rw [B1j]at hxy;cases hxy) h
theorem B5a(hP:P≤4)(hF:F≤4)(A:Ord P π)(B:Ord F φ){ws:List Wd}(hws:∀x∈ws,Wok P F x) :
  ((A0g P F ws).map (renL π φ)).Perm (A0g P F (ws.map (renW π φ))):=by
 have M:=A.map hP
 have N:=B.map hF
 have h8:∀x∈ws,x.who.toNat<8:=fun x hx=>by have:=(hws x hx).who;omega
 have h8':∀x∈ws.map (renW π φ),x.who.toNat<8:=fun x hx=>by
  obtain⟨y,hy,rfl⟩:=List.mem_map.1 hx
  rw [show(renW π φ y).who.toNat=π.getD y.who.toNat 0 from toI_nat _ _]
  have:=A.getD (p:=y.who.toNat) (by have:=(hws y hy).who;omega)
  omega
 have hlt:∀w∈A0g P F ws,w.1<2 ^ P∧w.2<2 ^ F:=fun w hw=>(worldsL_mem.1 hw).1
 refine(List.perm_ext_iff_of_nodup ?_ (worldsL_asc oM oM _).nodup).2 fun w'=>?_
 ·unfold List.Nodup
  rw [List.pairwise_map]
  refine List.Pairwise.imp_of_mem (fun {x y} hx hy hne e=>hne ?_) (worldsL_asc oM oM ws).nodup
  have e1:=congrArg Prod.fst e
  have e2:=congrArg Prod.snd e
  exact Prod.ext (M.inj hP (hlt x hx).1 (hlt y hy).1 e1) (N.inj hF (hlt x hx).2 (hlt y hy).2 e2)
 ·rw [A6z oM h8',List.mem_map]
  constructor
  ·rintro⟨w,hw,rfl⟩
   have hb:=(A6z oM h8).1 hw
   refine⟨⟨M.lt _ hb.1.1,N.lt _ hb.1.2⟩,fun q hq=>?_⟩
   obtain⟨p,hp,rfl⟩:∃p,p<P∧π.getD p 0=q:=by
    have hm:=List.all_eq_true.1 ord_onto P (List.mem_range.2 oM)
    have:=List.all_eq_true.1 hm π (mem_allK A.len A.lt)
    rw [decide_eq_true A.nd]at this
    simp only [Bool.not_true,Bool.false_or,List.all_eq_true,List.mem_range,List.any_eq_true,beq_iff_eq]at this
    exact this q hq
   rw [all_ren hP hF A B hws hb.1 hp]
   exact(M.bit _ hb.1.1 p hp).trans (hb.2 p hp)
  ·rintro⟨⟨h1,h2⟩,h3⟩
   obtain⟨g,hg,e1⟩:=M.onto _ h1
   obtain⟨k,hk,e2⟩:=N.onto _ h2
   have he:renL π φ (g,k)=w':=Prod.ext e1 e2
   refine⟨(g,k),(A6z oM h8).2 ⟨⟨hg,hk⟩,fun p hp=>?_⟩,he⟩
   have:=h3 _ (A.getD hp)
   rw [←he,all_ren hP hF A B hws ⟨hg,hk⟩ hp]at this
   rw [←this]
   exact(M.bit g hg p hp).symm
end
end Go.Pal.Vo
end
section
namespace Go.Proofs.YtiolobmgibdfmaaGreat
open Go Go.Pal Go.Pal.Vo Go.Conc View
open Go.Proofs.Tryz
set_option maxHeartbeats 4000000
set_option maxRecDepth 20000
section
variable{P F:Nat}{π φ:List Nat}{ws:List Wd}
theorem wok_of{x:Wd}(h:A2k P F x=0):Wok P F x:=by
 unfold A2k at h
 repeat' (split at h<;>first|omega|skip)
 all_goals (exact⟨oM,oM,fun _=>by omega,fun _=>by omega,fun _=>by omega,fun _=>by omega⟩)
theorem wordE_ren(A:Ord P π)(B:Ord F φ){x:Wd}(h:A2k P F x=0):A2k P F (renW π φ x)=0:=by
 have hx:=wok_of h
 have tp:∀{a:Int},0≤a∧a<P→0≤toI π a∧toI π a<P:=fun {a} ha=>by
  unfold toI
  have:=A.getD (p:=a.toNat) oM
  omega
 have tf:∀{a:Int},0≤a∧a<F→0≤toI φ a∧toI φ a<F:=fun {a} ha=>by
  unfold toI
  have:=B.getD (p:=a.toNat) oM
  omega
 obtain⟨who,k,a,b⟩:=x
 obtain⟨hw,hk,hf,hp,hf2,hp2⟩:=hx
 have h1:=tp hw
 simp only at hk hf hp hf2 hp2 h1
 have hk7:k=0∨k=1∨k=2∨k=3∨k=4∨k=5∨k=6:=oM
 rcases hk7 with rfl|rfl|rfl|rfl|rfl|rfl|rfl
 ·rw [show renW π φ ⟨who,0,a,b⟩=⟨toI π who,0,toI φ a,0⟩ by simp [renW]]
  have h2:=tf (hf dM)
  unfold A2k
  dsimp only
  rw [if_neg oM,if_neg oM,if_pos oM,if_neg oM,if_pos rfl]
 ·rw [show renW π φ ⟨who,1,a,b⟩=⟨toI π who,1,toI φ a,0⟩ by simp [renW]]
  have h2:=tf (hf dM)
  unfold A2k
  dsimp only
  rw [if_neg oM,if_neg oM,if_pos oM,if_neg oM,if_pos rfl]
 ·rw [show renW π φ ⟨who,2,a,b⟩=⟨toI π who,2,toI π a,0⟩ by simp [renW]]
  have h2:=tp (hp dM)
  unfold A2k
  dsimp only
  rw [if_neg oM,if_neg oM,if_neg oM,if_pos oM,if_neg oM,if_pos rfl]
 ·rw [show renW π φ ⟨who,3,a,b⟩=⟨toI π who,3,toI π a,0⟩ by simp [renW]]
  have h2:=tp (hp dM)
  unfold A2k
  dsimp only
  rw [if_neg oM,if_neg oM,if_neg oM,if_pos oM,if_neg oM,if_pos rfl]
 ·rw [show renW π φ ⟨who,4,a,b⟩=⟨toI π who,4,toI φ a,toI φ b⟩ by simp [renW]]
  have h2:=tf (hf dM)
  have h3:=tf (hf2 dM)
  unfold A2k
  dsimp only
  rw [if_neg oM,if_neg oM,if_neg oM,if_neg oM,if_pos oM,if_neg oM]
 ·rw [show renW π φ ⟨who,5,a,b⟩=⟨toI π who,5,min (toI π a) (toI π b),max (toI π a) (toI π b)⟩ by simp [renW]]
  have ha:=hp dM
  have hb:=hp2 dM
  have h2:=tp ha
  have h3:=tp hb
  have hab:a<b:=by
   unfold A2k at h
   dsimp only at h
   repeat' (split at h<;>first|omega|skip)
  have hne:toI π a≠toI π b:=fun e=>by
   unfold toI at e
   have:=A.inj (p:=a.toNat) (q:=b.toNat) oM oM oM
   omega
  unfold A2k
  dsimp only
  rw [if_neg oM,if_neg oM,if_neg oM,if_neg oM,if_neg oM,if_pos oM,if_neg oM,if_pos oM]
 ·rw [show renW π φ ⟨who,6,a,b⟩=⟨toI π who,6,a,0⟩ by simp [renW]]
  have h2:0≤a∧a≤(P:Int):=by
   unfold A2k at h
   dsimp only at h
   repeat' (split at h<;>first|omega|skip)
  unfold A2k
  dsimp only
  rw [if_neg oM,if_neg oM,if_neg oM,if_neg oM,if_neg oM,if_neg oM,if_neg oM,if_pos rfl]
theorem VOk.ren(h:VOk P F ws)(A:Ord P π)(B:Ord F φ):VOk P F (ws.map (renW π φ)):=⟨h.p1,h.p4,h.f3,by rw [List.length_map];exact h.w8,fun y hy=>by
 obtain⟨x,hx,rfl⟩:=List.mem_map.1 hy
 exact wordE_ren A B (h.all x hx)⟩
theorem lieN_ren(M:MapG P π){w:Wl}(hw:w.1<2 ^ P):lieN P (renL π φ w)=lieN P w:=by
 unfold lieN renL
 rw [M.len _ hw]
theorem loF_ren(M:MapG P π):∀{l:List Wl},(∀w∈l,w.1<2 ^ P)→loF P (l.map (renL π φ))=loF P l∧hiF P (l.map (renL π φ))=hiF P l:=by
 intro l hl
 unfold loF hiF
 rw [List.foldl_map,List.foldl_map]
 have key:∀(l:List Wl) (m n:Int),(∀w∈l,w.1<2 ^ P)→
   l.foldl (fun m w=>if lieN P (renL π φ w)<m then lieN P (renL π φ w)else m) m=l.foldl (fun m w=>if lieN P w<m then lieN P w else m) m∧
   l.foldl (fun m w=>if lieN P (renL π φ w) > m then lieN P (renL π φ w)else m) n=l.foldl (fun m w=>if lieN P w > m then lieN P w else m) n:=by
  intro l
  induction l with
  | nil=>exact fun _ _ _=>⟨rfl,rfl⟩
  | cons x l ih=>
   intro m n hl
   simp only [List.foldl_cons]
   rw [lieN_ren M (hl x (List.mem_cons_self ..))]
   exact ih _ _ fun w hw=>hl w (List.mem_cons_of_mem _ hw)
 exact key l _ _ hl
theorem verd_ren(h:VOk P F ws)(A:Ord P π)(B:Ord F φ)(h0:0<(A0g P F ws).length){best:Bool}{p q:Wl→Bool}(hq:∀w∈A0g P F ws,q (renL π φ w)=p w) :
  verd (someL best (A0g P F (ws.map (renW π φ)))) q=verd (someL best (A0g P F ws)) p:=by
 have hf3:=h.f3
 have M:=A.map h.p4
 have hlt:∀w∈A0g P F ws,w.1<2 ^ P:=fun w hw=>(worldsL_mem.1 hw).1.1
 have hperm:=B5a h.p4 oM A B (fun x hx=>wok_of (h.all x hx))
 have h02:0<((A0g P F ws).map (renL π φ)).length:=by rw [List.length_map];exact h0
 have hc:∀{s t:Wl→Bool},(∀w∈A0g P F ws,t (renL π φ w)=s w)→((A0g P F ws).map (renL π φ)).countP t=(A0g P F ws).countP s:=fun {s t} hst=>by
  rw [List.countP_map]
  exact List.countP_congr fun w hw=>by simp only [Function.comp];rw [hst w hw]
 have hl:∀w∈A0g P F ws,B4z P ((A0g P F ws).map (renL π φ)) (renL π φ w)=B4z P (A0g P F ws) w:=fun w hw=>by
  unfold B4z
  rw [lieN_ren M (hlt w hw),(loF_ren M hlt).1]
 cases best with
 | false=>
  show verd (A0g P F _) q=verd (A0g P F ws) p
  rw [verd_said hperm,verd_said (List.Perm.refl _),hc hq,List.length_map]
 | true=>
  rw [verd_best h.p4 h.f3 hperm h02,verd_best h.p4 h.f3 (List.Perm.refl _) h0,hc (s:=fun w=>p w&&B4z P (A0g P F ws) w) (fun w hw=>by rw [hq w hw,hl w hw]),hc hl]
def B5b(P F:Nat)(ws:List Wd):Int:=if(A0g P F ws).length=0 then 11 else 0
def loN(P F:Nat)(ws:List Wd):Int:=if(A0g P F ws).length=0 then 0 else loF P (A0g P F ws)
def hiN(P F:Nat)(ws:List Wd):Int:=if(A0g P F ws).length=0 then 0 else hiF P (A0g P F ws)
def askN(P F:Nat)(ws:List Wd)(best:Bool)(q:Wl→Bool):Int:=if(A0g P F ws).length=0 then 0 else verd (someL best (A0g P F ws)) q
theorem voidN_or:B5b P F ws=0∨B5b P F ws=11:=by unfold B5b;split<;>simp
variable{v:View}{a:Option Addr}{cap:Nat}
theorem liars_n(h:VOk P F ws)(hws:WdsAt v a ws):Ret1 prog ⟨true,true⟩ 29 [boV P F a ws.length cap] (.tuple #[.agg #[.int .i64 (loN P F ws),.int .i64 (hiN P F ws)],.int .i64 (B5b P F ws)]) v:=by
 unfold loN hiN B5b
 by_cases h0:(A0g P F ws).length=0
 ·rw [if_pos h0,if_pos h0,if_pos h0]
  exact liars_v h hws (List.length_eq_zero_iff.1 h0)
 ·rw [if_neg h0,if_neg h0,if_neg h0]
  exact liars_r h hws (List.Perm.refl _) oM
theorem person_n{p:Nat}{best:Bool}(h:VOk P F ws)(hws:WdsAt v a ws)(hp:p<P):Ret1 prog ⟨true,true⟩ 41 [boV P F a ws.length cap,.int .i64 p,.bool best] (.tuple #[.int .i64 (askN P F ws best fun w=>bit w.1 p),.int .i64 (B5b P F ws)]) v:=by
 unfold askN B5b
 by_cases h0:(A0g P F ws).length=0
 ·rw [if_pos h0,if_pos h0]
  exact person_v h hws hp (List.length_eq_zero_iff.1 h0)
 ·rw [if_neg h0,if_neg h0]
  exact person_r h hws hp oM
theorem fact_n{f:Nat}{best:Bool}(h:VOk P F ws)(hws:WdsAt v a ws)(hf:f<F):Ret1 prog ⟨true,true⟩ 52 [boV P F a ws.length cap,.int .i64 f,.bool best] (.tuple #[.int .i64 (askN P F ws best fun w=>bit w.2 f),.int .i64 (B5b P F ws)]) v:=by
 unfold askN B5b
 by_cases h0:(A0g P F ws).length=0
 ·rw [if_pos h0,if_pos h0]
  have h8:=h.w8
  have e:errN F P F ws f=11:=by unfold errN;rw [h.check,if_pos Z,if_pos oM];simp only [Int.toNat_natCast];rw [List.length_eq_zero_iff.1 h0];rfl
  have:=Fact_x (v:=v) (wa:=a) (wc:=cap) (P:=P) (F:=F) (x:=f) (best:=best) hws oM
  rw [e]at this
  exact this
 ·rw [if_neg h0,if_neg h0]
  exact fact_r h hws hf oM
theorem ren_len(h:VOk P F ws)(A:Ord P π)(B:Ord F φ):(A0g P F (ws.map (renW π φ))).length=(A0g P F ws).length:=by
 have:=h.f3
 rw [←(B5a h.p4 oM A B (fun x hx=>wok_of (h.all x hx))).length_eq,List.length_map]
theorem liars_ren(h:VOk P F ws)(A:Ord P π)(B:Ord F φ)(hws:WdsAt v a (ws.map (renW π φ))):Ret1 prog ⟨true,true⟩ 29 [boV P F a ws.length cap] (.tuple #[.agg #[.int .i64 (loN P F ws),.int .i64 (hiN P F ws)],.int .i64 (B5b P F ws)]) v:=by
 have hf3:=h.f3
 have hx:=ren_len h A B
 have hl:(ws.map (renW π φ)).length=ws.length:=List.length_map ..
 unfold loN hiN B5b
 rw [←hl]
 by_cases h0:(A0g P F ws).length=0
 ·rw [if_pos h0,if_pos h0,if_pos h0]
  exact liars_v (h.ren A B) hws (List.length_eq_zero_iff.1 oM)
 ·rw [if_neg h0,if_neg h0,if_neg h0]
  have hlt:∀w∈A0g P F ws,w.1<2 ^ P:=fun w hw=>(worldsL_mem.1 hw).1.1
  have:=liars_r (cap:=cap) (h.ren A B) hws (B5a h.p4 oM A B (fun x hx=>wok_of (h.all x hx))) (by rw [List.length_map];omega)
  rw [(loF_ren (A.map h.p4) hlt).1,(loF_ren (A.map h.p4) hlt).2]at this
  exact this
theorem voidN_ren(h:VOk P F ws)(A:Ord P π)(B:Ord F φ):B5b P F (ws.map (renW π φ))=B5b P F ws:=by unfold B5b;rw [ren_len h A B]
theorem askN_ren(h:VOk P F ws)(A:Ord P π)(B:Ord F φ){best:Bool}{p q:Wl→Bool}(hq:∀w∈A0g P F ws,q (renL π φ w)=p w):askN P F (ws.map (renW π φ)) best q=askN P F ws best p:=by
 unfold askN
 rw [ren_len h A B]
 by_cases h0:(A0g P F ws).length=0
 ·rw [if_pos h0,if_pos h0]
 ·rw [if_neg h0,if_neg h0,verd_ren h A B oM hq]
end
theorem setS{e:TypeId}{k b n cap:Nat}{c:Array Value}{cs cs' xs:List Value}(h:OwnS e k [(b,c,e)] (some ⟨b,0,none⟩) n cap cs){i:Nat}(hi:i<n)(hx:xs.length=k)(hl:cs'.length=cs.length)
  (hg:∀j,cs'[j]?=if i*k≤j∧j<i*k+k then xs[j-i*k]? else cs[j]?):Nat.ble (0+i*k+k) c.size=true∧OwnS e k [(b,A1l c (0+i*k) xs,e)] (some ⟨b,0,none⟩) n cap cs':=by
 cases h with
 | box h1 h2 h3 h4=>
  have hik:i*k+k≤cap*k:=by rw [←Nat.succ_mul];exact Nat.mul_le_mul_right _ oM
  refine⟨Nat.ble_eq_true_of_le oM,.box (by rw [hl];exact h1) h2 (by rw [A5q];exact h3) fun j x hj=>?_⟩
  rw [A8h oM,hx,Nat.zero_add]
  rw [hg]at hj
  split at hj
  ·rename_i hc;rw [if_pos hc];exact hj
  ·rename_i hc;rw [if_neg hc];exact h4 j x hj
theorem setN{b n cap:Nat}{c:Array Value}{cs:List Value}(h:OwnS 3 1 [(b,c,3)] (some ⟨b,0,none⟩) n cap cs){i:Nat}(hi:i<n)(x:Nat) :
  Nat.ble (0+i*1+1) c.size=true∧OwnS 3 1 [(b,A1l c (0+i*1) (natV x).cells.toList,3)] (some ⟨b,0,none⟩) n cap (cs.set i (natV x)):=by
 have hlen:=h.len
 refine setS h hi Z (List.length_set ..) fun j=>?_
 rw [List.getElem?_set,Nat.mul_one]
 by_cases e:i=j
 ·subst e
  rw [if_pos Z,if_pos oM,if_pos oM,Nat.sub_self];rfl
 ·rw [if_neg e,if_neg oM]
theorem set_perm{x:Nat}:∀{l:List Nat} {k:Nat} (hk:k<l.length),((l.set k x)++[l[k]]).Perm (l++[x])
 | [],_,h=>absurd h (Nat.not_lt_zero _)
 | a::l,0,_=>by
  show(x::(l++[a])).Perm (a::(l++[x]))
  exact((List.perm_append_comm (l₁:=l) (l₂:=[a])).cons x).trans ((List.Perm.swap a x l).trans ((List.perm_append_comm (l₁:=[x]) (l₂:=l)).cons a))
 | a::l,k+1,h=>by
  show(a::(l.set k x++[l[k]'(Nat.lt_of_succ_lt_succ h)])).Perm (a::(l++[x]))
  exact(set_perm (Nat.lt_of_succ_lt_succ h)).cons a
def stepO(l:List Nat)(k:Nat):List Nat:=((l++[l.length]).set l.length ((l++[l.length]).getD k 0)).set k l.length
theorem ord_step{n:Nat}{l:List Nat}(h:Ord n l){k:Nat}(hk:k≤n):Ord (n+1) (stepO l k):=by
 have hl:=h.len
 unfold stepO
 rw [List.set_append_right _ _ (Nat.le_refl _),Nat.sub_self]
 simp only [List.set_cons_zero]
 by_cases e:k=n
 ·subst e
  rw [←hl,List.set_append_right _ _ (Nat.le_refl _),Nat.sub_self]
  simp only [List.set_cons_zero]
  refine⟨by simp [hl],List.nodup_append.2 ⟨h.nd,by simp,fun a ha b hb=>?_⟩,fun x hx=>?_⟩
  ·have:=h.lt a ha
   simp only [List.mem_singleton]at hb
   omega
  ·rcases List.mem_append.1 hx with hx|hx
   ·have:=h.lt x hx;omega
   ·simp only [List.mem_singleton]at hx;omega
 ·have hkl:k<l.length:=oM
  have hg:(l++[l.length]).getD k 0=l[k]:=by rw [List.getD_eq_getElem?_getD,List.getElem?_append_left hkl,List.getElem?_eq_getElem hkl];rfl
  rw [hg,List.set_append_left _ _ hkl]
  have hp:=set_perm (x:=l.length) hkl
  refine⟨by simp [hl],(hp.nodup_iff).2 (List.nodup_append.2 ⟨h.nd,by simp,fun a ha b hb=>?_⟩),fun x hx=>?_⟩
  ·have:=h.lt a ha
   simp only [List.mem_singleton]at hb
   omega
  ·rcases List.mem_append.1 (hp.mem_iff.1 hx)with hx|hx
   ·have:=h.lt x hx;omega
   ·simp only [List.mem_singleton]at hx;omega
structure OS where
 i:Nat
 a:Option Addr
 cap:Nat
 l:List Nat
 β1:A0j
 β2:A0j
section
variable{mn:Who}{v:View}
theorem order_x{g:Bg}{N:Nat}{β:A0j}(hr:g.ok v)(hB:g.On N β)(hN:N<2^61){n:Nat}(hn:n<2^20) :
  CallsB prog mn 59 #[g.ptr,.int .i64 n] (RetB fun r β'=>∃a cap l β1 β2,r = .slice a n cap∧Ord n l∧β'=β1++β2∧g.On (N+n) β1∧OwnS 3 1 β2 a n cap (l.map natV)) β v:=by
 refine A0f tab func59 Z nB (args:=[_,_]) ?_
 repeat refine st ?_
 refine A1o (α:=OS) (fun z=>⟨[],[(6,.int .i64 z.i),(5,.slice z.a z.i z.cap),(0,g.ptr),(1,.int .i64 n)],z.β1++z.β2⟩)
  (fun z u=>u=v∧z.i≤n∧Ord z.i z.l∧g.On (N+z.i) z.β1∧OwnS 3 1 z.β2 z.a z.i z.cap (z.l.map natV)) (fun z=>n-z.i)
  ⟨0,none,0,[],β,[]⟩ ⟨Z,rg,cntL⟩ (Le.refl _) ⟨Z,Nat.zero_le _,⟨Z,List.nodup_nil,fun x hx=>by cases hx⟩,hB,.nil⟩ ?_
 rintro⟨i,a,cap,l,β1,β2⟩ u ⟨rfl,hi,hl,hB1,hS⟩
 dsimp only at hi hl hB1 hS⊢
 repeat refine st ?_
 refine A0t Z (fun h=>?_) (fun h=>?_)
 ·have hlt:i<n:=by have:=of_decide_eq_true h;omega
  clear h
  repeat refine st ?_
  refine Q_op fun ho=>A0i β1 β2 ho A8c Z Z Z Z Z A0k (A4y (hr.le (A0b _ _)) hB1 oM i oM) (fun x β' hR=>?_)
  clear ho
  obtain⟨⟨k,rfl,hk⟩,hB2⟩:=hR
  repeat refine st ?_
  refine Q_op fun ho=>A3x tab ho Z Z Z Z Z Z Z Z Z (fun b4 c4 hL4=>?_)
  clear ho
  refine Q_op fun ho=>A2w tab (xs:=[natV i]) β2 [(b4,c4,3)] β' ho Z Z Z Z Z Z Z Z Z Z cntA hS
   (fun hb=>RowAt.own hb cntL hL4) Z Z (by show(2*(i+1)+768)*8≤2^48;omega) oM (fun seg2 a2 cap2 hS2=>?_)
  clear ho
  obtain⟨b,c,rfl,rfl,hcap,hcs,hcc⟩:=A5w hS2 oM
  have hll:=hl.len
  have hkl:k<(l++[l.length]).length:=by rw [List.length_append];show k<l.length+1;omega
  have e0:l.map natV++[natV i]=(l++[l.length]).map natV:=by rw [List.map_append,hll];rfl
  rw [e0]at hS2 hcc
  have hg:(l++[l.length]).getD k 0=(l++[l.length])[k]:=by rw [List.getD_eq_getElem?_getD,List.getElem?_eq_getElem hkl];rfl
  have hread:=hcc k (natV ((l++[l.length]).getD k 0)) (by rw [List.getElem?_map,List.getElem?_eq_getElem hkl,hg];rfl)
  obtain⟨w1,hS3⟩:=setN hS2 (i:=i) oM ((l++[l.length]).getD k 0)
  obtain⟨w2,hS4⟩:=setN hS3 (i:=k) oM i
  repeat refine st ?_
  refine A2t tab k Z Z Z Z Z Z Z oM ?_
  refine A6v tab Z Z Z ib (A1b tab Z Z Z (by rw [Nat.mul_one,Nat.zero_add];exact hread)) ?_
  repeat refine st ?_
  refine A2t tab i Z Z Z Z Z Z Z oM ?_
  refine Q_storeA tab (x:=natV ((l++[l.length]).getD k 0)) Z Z Z Z Z Z ib w1 sb ?_
  repeat refine st ?_
  refine A2t tab k Z Z Z Z Z Z Z oM ?_
  refine Q_storeA tab (x:=natV i) Z Z Z Z Z Z ib w2 sb ?_
  repeat refine st ?_
  refine A0c ⟨⟨i+1,some ⟨b,0,none⟩,cap2,stepO l k,β',[(b,A1l (A1l c (0+i*1) (natV ((l++[l.length]).getD k 0)).cells.toList) (0+k*1) (natV i).cells.toList,3)]⟩,u,(show n-(i+1)<n-i by omega),⟨Z,rg,fun p=>by simp only [A2g,B2f,cnt_nil,List.append];omega⟩,Le.refl _,Z,hlt,ord_step hl hk,hB2,?_⟩
  show OwnS 3 1 _ _ (i+1) cap2 _
  unfold stepO
  rw [List.map_set,List.map_set,hll]
  rw [hll]at hS4
  exact hS4
 ·have hin:i=n:=by have:=of_decide_eq_false h;omega
  subst hin
  clear h
  repeat refine st ?_
  refine A0l tab (β1++β2) (by exact .tmp rfl .nil) (Back.here cntL) ?_
  exact⟨a,cap,l,β1,β2,Z,hl,Z,hB1,hS⟩
end
theorem wds_set{y:Wd}:∀{l:List Wd} {i:Nat},i<l.length→∀j,((l.set i y).map wdC).flatten[j]?=if i*4≤j∧j<i*4+4 then(wdC y)[j-i*4]? else(l.map wdC).flatten[j]?
 | [],i,h,_=>absurd h (Nat.not_lt_zero _)
 | x::l,0,_,j=>by
  rw [List.set_cons_zero,List.map_cons,List.flatten_cons,List.map_cons,List.flatten_cons]
  by_cases hj:j<4
  ·rw [if_pos oM,List.getElem?_append_left (by exact hj),Nat.zero_mul,Nat.sub_zero]
  ·rw [if_neg oM,List.getElem?_append_right (by show 4≤j;omega),List.getElem?_append_right (by show 4≤j;omega)]
   rfl
 | x::l,i+1,h,j=>by
  rw [List.set_cons_succ,List.map_cons,List.flatten_cons,List.map_cons,List.flatten_cons]
  by_cases hj:j<4
  ·rw [if_neg oM,List.getElem?_append_left (by exact hj),List.getElem?_append_left (by exact hj)]
  ·rw [List.getElem?_append_right (by show 4≤j;omega),List.getElem?_append_right (by show 4≤j;omega)]
   show((l.set i y).map wdC).flatten[j-4]?=if _ then _ else(l.map wdC).flatten[j-4]?
   rw [wds_set (Nat.lt_of_succ_lt_succ h)]
   by_cases hc:i*4≤j-4∧j-4<i*4+4
   ·rw [if_pos hc,if_pos oM]
    congr 1;omega
   ·rw [if_neg hc,if_neg oM]
theorem setW{b n cap:Nat}{c:Array Value}{ws:List Wd}(h:OwnS 26 4 [(b,c,26)] (some ⟨b,0,none⟩) n cap (ws.map wdC).flatten){i:Nat}(hi:i<n)(hw:i<ws.length)(y:Wd) :
  Nat.ble (0+i*4+4) c.size=true∧OwnS 26 4 [(b,A1l c (0+i*4) (wdV y).cells.toList,26)] (some ⟨b,0,none⟩) n cap ((ws.set i y).map wdC).flatten:=
 setS h hi rfl (by rw [A4m,A4m,List.length_set]) (wds_set hw)
section
variable{mn:Who}{v:View}{wa:Option Addr}{wc:Nat}
theorem ownVouch_x{P F:Int}{ws:List Wd}(hws:WdsAt v wa ws)(hwl:ws.length<2^20):CallsB prog mn 24 #[boV P F wa ws.length wc] (RetB fun r β'=>OwnV β' r P F ws) [] v:=by
 refine A0f tab func24 Z nB (args:=[_]) ?_
 repeat (first|refine st ?_|refine qb fun bx=>?_)
 rename_i bx2
 refine Q_op fun ho=>A3x tab ho Z Z Z Z Z Z Z Z Z (fun b3 c3 hL=>?_)
 clear ho
 repeat (first|refine st ?_|refine qb fun bx=>?_)
 refine Q_op fun ho=>A2w tab (xs:=(ws.map wdC).flatten) [(b3,c3,26)] [] [(bx,(Value.agg #[Value.int .i64 0,Value.int .i64 0,Value.slice none 0 0]).cells,24),(bx2,(boV P F wa ws.length wc).cells,24)] ho Z Z Z Z Z Z Z Z Z Z cntA hL
  (fun hb=>RowAt.le hws (A0b _ _)) (A4m ws) (wds_one ws) (by show(2*(0+ws.length)+768)*32≤2^48;omega) oM (fun seg2 a2 cap2 hS2=>?_)
 clear ho
 rw [Nat.zero_add]at hS2
 rw [show(0+ws.length)=ws.length from Nat.zero_add _]
 repeat (first|refine st ?_|refine qb fun bx=>?_)
 refine A0l tab (xs:=[boV P F a2 ws.length cap2]) seg2 (by exact .cell rfl ib rfl .nil) (Back.here cntL) ?_
 exact⟨a2,cap2,Z,hS2⟩
end
end Go.Proofs.YtiolobmgibdfmaaGreat
end
