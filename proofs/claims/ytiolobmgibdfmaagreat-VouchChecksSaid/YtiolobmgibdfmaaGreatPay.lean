/- Part 25. -/
import Derived.Test.YtiolobmgibdfmaaGreatPax
set_option linter.all false
section
namespace Go.Proofs.YtiolobmgibdfmaaGreat
open Go Go.Pal Go.Pal.Vo Go.Conc View
open Go.Proofs.Tryz
set_option maxHeartbeats 4000000
set_option maxRecDepth 20000
theorem B0l{α:Type}(p:α→Bool):∀(l:List α) (k:Nat),(idxL p l k = -1∧∀x∈l,p x=false)∨∃i,∃h:i<l.length,idxL p l k=((k+i:Nat):Int)∧p l[i]=true∧∀x∈l.take i,p x=false
 | [],k=>.inl ⟨rfl,by simp⟩
 | x::l,k=>by
  unfold idxL
  cases hp:p x with
  | true=>exact .inr ⟨0,by simp,by simp,by simpa using hp,by simp⟩
  | false=>
   simp only [Bool.false_eq_true,if_false]
   rcases B0l p l (k+1)with ⟨h1,h2⟩|⟨i,hi,h1,h2,h3⟩
   ·exact .inl ⟨h1,fun y hy=>by
     rcases List.mem_cons.1 hy with rfl|hy
     ·exact hp
     ·exact h2 y hy⟩
   ·refine .inr ⟨i+1,by simpa using hi,by rw [h1];congr 1;omega,by simpa using h2,fun y hy=>?_⟩
    rw [List.take_succ_cons]at hy
    rcases List.mem_cons.1 hy with rfl|hy
    ·exact hp
    ·exact h3 y hy
section
variable{mn:Who}{v:View}{cap:Nat}
theorem DB.cut{P:Nat}{d:Array Wl}{c c':Array Value}(h:DB P cap d c){i:Nat}(hi:i≤d.size)(hs:c'.size=c.size)(hc:∀k,k<i*2→c'[k]?=c[k]?):DB P cap (d.extract 0 i) c':=by
 have hsz:(d.extract 0 i).size=i:=by simp;omega
 refine⟨by rw [hs];exact h.size,by rw [hsz];exact Nat.le_trans hi h.le,fun {k} hk=>?_,fun k hk=>?_⟩
 ·rw [hsz]at hk
  have:(d.extract 0 i)[k]! = d[k]!:=by
   rw [getElem!_pos _ k (by rw [hsz];exact hk),getElem!_pos d k oM]
   simp
  rw [this];exact h.ok oM
 ·rw [hsz]at hk
  have:(d.extract 0 i)[k]! = d[k]!:=by
   rw [getElem!_pos _ k (by rw [hsz];exact hk),getElem!_pos d k oM]
   simp
  rw [this,hc _ oM,hc _ oM]
  exact h.get k oM
theorem deleteW_x{P b:Nat}{l:List Wl}{c:Array Value}{p:Wl→Bool}{k:FuncId}{captured:Array Value}(hD:DB P cap l.toArray c)(hlen:l.length<2^30)(hk:A0n prog k)
  (hf:∀w∈l,∀u,v.Le u→Ret1 prog mn k (wlV w::captured.toList) (.bool (p w)) u) :
  CallsB prog mn 174 #[slV b l.length cap,.func (.func k) #[] captured] (RetB fun x β'=>OwnWs β' x (l.filter fun w=>!p w)) [(b,c,102)] v:=by
 refine A0f tab func174 Z nB (args:=[_,_]) ?_
 have hle:l.length≤cap:=by simpa using hD.le
 repeat (first|refine st ?_|refine qb fun bx=>?_)
 refine Q_op fun ho=>A0i [(b,c,102)] [] ho bod120 Z Z Z Z Z cntA (Ret1.box fun hb=>indexW_x (p:=p) (A2m hb (by have:=B0e (b:=b) hD;rwa [List.size_toArray,List.toList_toArray]at this)) hlen hk (fun w hw u hl=>hf w hw u (((A0b _ _).trans (A0b _ _)).trans hl))) (fun x β' hR=>?_)
 clear ho
 obtain⟨rfl,rfl⟩:=hR
 rcases B0l p l 0 with ⟨h1,h2⟩|⟨i0,hi0,h1,h2,h3⟩
 ·rw [h1]
  repeat (first|refine st ?_|refine qb fun bx=>?_)
  refine A0l tab [(b,c,102)] (by exact .tmp rfl .nil) (Back.here cntL) ?_
  have hfl:(l.filter fun w=>!p w)=l:=List.filter_eq_self.2 fun w hw=>by rw [h2 w hw];rfl
  rw [hfl]
  have:=B0e (b:=b) hD
  rw [List.size_toArray,List.toList_toArray]at this
  exact⟨_,_,Z,this⟩
 rw [Nat.zero_add]at h1
 rw [h1]
 repeat (first|refine st ?_|refine qb fun bx=>?_)
 refine A1o (α:=Nat×Nat×Array Wl×Array Value) (fun z=>⟨[],[(6,.int .i64 z.1),(5,.int .i64 z.2.1),(0,slV b l.length cap),(1,.func (.func k) #[] captured)],[(b,z.2.2.2,102)]⟩)
  (fun z u=>u=v∧DB P cap z.2.2.1 z.2.2.2∧z.2.2.1.size=l.length∧z.2.1<z.1∧z.1≤l.length∧z.2.2.1.toList.take z.2.1=(l.take z.1).filter (fun w=>!p w)∧∀m (hm:m<l.length),z.1≤m→z.2.2.1[m]! = l[m]) (fun z=>l.length-z.1) (i0+1,i0,l.toArray,c)
  ⟨Z,rg,cntL⟩ (Le.refl _) ⟨Z,hD,by simp,by simp,hi0,?_,fun m hm _=>by simp [hm]⟩ ?_
 ·simp only
  rw [List.take_succ_eq_append_getElem hi0,List.filter_append,List.filter_eq_self.2 (fun w hw=>by rw [h3 w hw];rfl)]
  simp [h2]
 clear h1 h2 h3 hi0
 rintro⟨j,i,d,c1⟩ u ⟨rfl,hD1,hs1,hij,hj,htk,hrest⟩
 simp only at hD1 hs1 hij hj htk hrest
 dsimp only
 have hle1:=hD1.le
 repeat (first|refine st ?_|refine qb fun bx=>?_)
 refine A0t Z (fun h=>?_) (fun h=>?_)
 ·replace h:=fa h
  have hlt:j<l.length:=oM
  have hdj:d[j]! = l[j]:=hrest j hlt (Nat.le_refl _)
  have hok:WOk P l[j]:=hdj ▸ hD1.ok oM
  repeat (first|refine st ?_|refine qb fun bx=>?_)
  refine A2t tab j Z Z Z Z Z Z Z hlt ?_
  refine A6v tab Z Z Z ib (hD1.read oM) ?_
  rw [hdj]
  repeat (first|refine st ?_|refine qb fun bx=>?_)
  refine Q_op fun ho=>A0s ho hk Z Z Z Z (List.nil_append _) (hf l[j] (List.getElem_mem hlt) _ (Le.refl _)) ?_
  clear ho
  have hst:(l.take (j+1)).filter (fun w=>!p w)=(l.take j).filter (fun w=>!p w)++(if p l[j]then []else [l[j]]):=by
   rw [List.take_succ_eq_append_getElem hlt,List.filter_append]
   cases hq:p l[j]<;>simp [hq]
  cases hp:p l[j]with
  | true=>
   rw [hp]at hst
   repeat (first|refine st ?_|refine qb fun bx=>?_)
   refine A0c ⟨(j+1,i,d,c1),u,by simp only;omega,⟨Z,rg,cntL⟩,Le.refl _,Z,hD1,hs1,by simp only;omega,hlt,?_,fun m hm h=>hrest m hm (by simp only at h;omega)⟩
   simp only
   rw [hst,htk];simp
  | false=>
   rw [hp]at hst
   repeat (first|refine st ?_|refine qb fun bx=>?_)
   refine A2t tab i Z Z Z Z Z Z Z (show i<l.length by omega) ?_
   refine Q_op fun ho=>A1j tab (x:=wlV l[j]) ho Z Z Z Z Z Z ib (hD1.off oM) sb ?_
   clear ho
   repeat (first|refine st ?_|refine qb fun bx=>?_)
   refine A0c ⟨(j+1,i+1,d.setIfInBounds i l[j],A1l c1 (0+i*2) (wlV l[j]).cells.toList),u,by simp only;omega,⟨Z,rg,cntL⟩,Le.refl _,Z,hD1.set oM hok,by simpa using hs1,by simp only;omega,hlt,?_,fun m hm h=>?_⟩
   ·simp only
    rw [hst,←htk]
    have hi:i<d.toList.length:=by simp;omega
    rw [Array.toList_setIfInBounds,List.take_succ_eq_append_getElem (by simpa using hi)]
    simp [List.take_set_of_le]
   ·simp only at h⊢
    have hm':m<d.size:=oM
    rw [getElem!_pos _ m (by simpa using hm'),Array.getElem_setIfInBounds_ne (by simpa using hm') oM,←getElem!_pos d m hm']
    exact hrest m hm oM
 ·replace h:=fa h
  have hjn:j=l.length:=oM
  subst hjn
  rw [List.take_length]at htk
  have hlf:(l.filter fun w=>!p w).length=i:=by rw [←htk,List.length_take];simp;omega
  obtain⟨m,hm⟩:∃m,l.length-i=m+1:=⟨l.length-i-1,oM⟩
  have hsz:=hD1.size
  clear h
  repeat (first|refine st ?_|refine qb fun bx=>?_)
  refine Q_op fun ho=>A_slice_l tab (l':=i) ho Z Z Z Z Z Z oM ?_
  clear ho
  rw [if_neg (show ¬cap=i by omega),hm,Option.map_some,A5m]
  refine Q_op fun ho=>A_clear tab (b:=b) (len:=m) ho Z Z Z Z Z ib (by show 0+i*2+(m+1)*2≤c1.size;omega) sb ?_
  clear ho
  repeat (first|refine st ?_|refine qb fun bx=>?_)
  refine Q_op fun ho=>A_slice_h tab (h':=i) ho Z Z Z Z Z Z oM ?_
  clear ho
  rw [if_neg (show ¬cap=0 by omega),Option.map_some,A5m]
  repeat (first|refine st ?_|refine qb fun bx=>?_)
  refine A0l tab (β':=_) (by exact .tmp rfl .nil) (Back.here (show Subm [(b,A1l c1 (0+i*2) (Builtin.zeroCells (Value.agg #[u8 0,u8 0]).cells (m+1)).toList,102)] _ from cntL)) ?_
  have hDc:=hD1.cut (c':=A1l c1 (0+i*2) (Builtin.zeroCells (Value.agg #[u8 0,u8 0]).cells (m+1)).toList) (i:=i) oM A5q (fun k hk=>by
   rw [A8h (by rw [Array.length_toList,A6o];show 0+i*2+(m+1)*2≤c1.size;omega),if_neg oM])
  have hO:=B0e (b:=b) hDc
  have he:(d.extract 0 i).toList=l.filter fun w=>!p w:=by rw [←htk];simp
  rw [he]at hO
  have hsi:(d.extract 0 i).size=(l.filter fun w=>!p w).length:=by rw [←he];simp
  rw [hsi]at hO
  refine⟨some ⟨b,0,none⟩,cap,?_,hO⟩
  rw [hlf]
  rfl
end
section
variable{mn:Who}{v:View}
theorem bestF_x{w:Wl}{m:Int}{b:Nat}{q:Bool}{e:TypeId}{f:Nat×Nat}(h1:w.1<256)(hv:v b=some (q,.cells #[.int .i64 m] e f)):Ret1 prog mn 175 [wlV w,.pointer (some ⟨b,0,none⟩)] (.bool !(((cnt w.1:Nat):Int)==m)) v:=by
 refine A0f tab func175 Z nB (args:=[_,_]) ?_
 repeat (first|refine st ?_|refine qb fun bx=>?_)
 refine lexL A1w Z kR ?_
 repeat (first|refine st ?_|refine qb fun bx=>?_)
 refine A3r bod85 Z Z Z Z Z (A7q h1) ?_
 repeat (first|refine st ?_|refine qb fun bx=>?_)
 refine A9d tab Z Z Z hv (x:=.int .i64 m) Z ?_
 repeat (first|refine st ?_|refine qb fun bx=>?_)
 refine A0l tab [] (by exact .tmp rfl .nil) (Back.here cntL) ?_
 exact⟨Z,Z⟩
def bestL(l:List Wl):List Wl:=l.filter fun w=>!(!(((cnt w.1:Nat):Int)==((cnt (l.headD (0,0)).1:Nat):Int)))
def someL(best:Bool)(l:List Wl):List Wl:=if best then bestL l else l
end
section
variable{v:View}{wa:Option Addr}{wc:Nat}
theorem worlds_ok{P F:Nat}{ws:List Wd}(hF:F≤3):∀w∈A0g P F ws,WOk P w:=fun w hw=>by
 have h1:=(worldsL_mem.1 hw).1
 have hp2:2 ^ F≤2^3:=Nat.pow_le_pow_right dM hF
 exact⟨h1.1,oM⟩
theorem best_x{P F:Nat}{ws:List Wd}(hv:VOk P F ws)(hws:WdsAt v wa ws)(hwl:ws.length<2^30) :
  CallsB prog ⟨true,true⟩ 145 #[boV P F wa ws.length wc] (fun e β'=>if A0g P F ws=[]then e=panV 11∧β'=[]else ∃x,e = .ret x∧OwnWs β' x (bestL (A0g P F ws))) [] v:=by
 refine A0f tab func145 Z nB (args:=[_]) ?_
 repeat (first|refine st ?_|refine qb fun bx=>?_)
 refine Q_op fun ho=>B1u ho Z Z Z Z hv hws hwl (fun h=>?_) (fun hne a cap βw hS=>?_)
 ·refine pn ?_
  refine A1k tab [] (Back.here fun p=>Nat.zero_le _) ?_
  rw [if_pos h]
  exact⟨Z,Z⟩
 clear ho
 have hlt:0<(A0g P F ws).length:=List.length_pos_iff.2 hne
 have hlen:=A4s (ws:=ws) hv.p4 hv.f3
 rcases own_cases hS rfl (worlds_ok hv.f3)with ⟨h,_⟩|⟨b,c,rfl,rfl,hD⟩
 ·exact absurd h hne
 have hw0:=A4d hv.p4 hv.f3 (List.getElem_mem hlt)
 have hg:=(hD.get 0 (by simpa using hlt)).1
 rw [getElem!_pos _ 0 (by simpa using hlt)]at hg
 simp only [List.getElem_toArray]at hg
 repeat (first|refine st ?_|refine qb fun bx=>?_)
 refine A2t tab 0 Z Z Z Z Z Z Z hlt ?_
 repeat (first|refine st ?_|refine qb fun bx=>?_)
 refine A6v tab Z Z Z ib (A1b tab Z Z Z hg) ?_
 repeat (first|refine st ?_|refine qb fun bx=>?_)
 refine Q_op fun ho=>A0s ho bod85 Z Z Z Z Z (A7q hw0.1) ?_
 clear ho
 repeat (first|refine st ?_|refine qb fun bx=>?_)
 rename_i b1
 refine A0w (β1:=[(bx,#[Value.int .i64 ((Vo.cnt (A0g P F ws)[0].1:Nat):Int)],3)]) (β2:=[(b,c,102),(b1,(boV P F wa ws.length wc).cells,95)])
  (show ∀p,Pal.cnt p ([(bx,#[Value.int .i64 ((Vo.cnt (A0g P F ws)[0].1:Nat):Int)],3),(b,c,102),(b1,(boV P F wa ws.length wc).cells,95)])=Pal.cnt p ([(bx,#[Value.int .i64 ((Vo.cnt (A0g P F ws)[0].1:Nat):Int)],3)]++[(b,c,102),(b1,(boV P F wa ws.length wc).cells,95)])from cntA) (fun hbk=>?_)
 have hv4:=A9c hbk (b:=bx) ib
 refine Q_op fun ho=>A0i [(b,c,102)] [(b1,(boV P F wa ws.length wc).cells,95)] ho bod174 Z Z Z Z Z cntA (deleteW_x (p:=fun w=>!(((cnt w.1:Nat):Int)==((cnt (A0g P F ws)[0].1:Nat):Int))) hD oM bod175 (fun w hw u hl=>bestF_x (A4d hv.p4 hv.f3 hw).1 (hl _ _ (A1p hv4)))) (fun x β' hR=>?_)
 clear ho
 repeat (first|refine st ?_|refine qb fun bx=>?_)
 refine A0l tab (β':=β') (by exact .tmp rfl .nil) (Back.forget hbk (Back.here cntL)) ?_
 rw [if_neg hne]
 unfold bestL
 rw [headD_get hlt]
 exact⟨_,Z,hR⟩
end
section
variable{mn:Who}{rd:Option Nat}{n:Nat}{Q:Exit→St→View→Prop}{ds:List Deferred}{ρ:Regs}{β:A0j}{v:View}{K:St→View→Prop}
 {ops:Array Oper}{i:Nat}{d:Nat}{ty:TypeId}{pos:String}{af:Array Edge}{gu:Option (Nat×Bool)}
def WlsR(l l':List Wl):Pal.End→A0j→Prop:=fun e β'=>if l=[]then e=panV 11∧β'=[]else ∃x,e = .ret x∧OwnWs β' x l'
theorem A_wls{f:Operand}{args:Array Operand}{ats:Array TypeId}{kf:FuncId}{xs:List Value}{l l':List Wl}(ho:ops[i]?=some ⟨some d,.call {callee:=.value f,args:=args,argTypes:=ats },ty,pos,af,gu⟩)(hk:A0n prog kf)(hw:A0x ops gu ρ=some true)(hn:Nat.blt d n=true)
  (hf:ρ.val f=some (.func (.func kf) #[] #[]))(hxs:A3q ρ.val args.toList=some xs)(hc:CallsB prog mn kf xs.toArray (WlsR l l') [] (v.union (A0e β)))
  (h2:l=[]→Q (.panic (panC 11)) ⟨ds,ρ,β⟩ v)(h1:l≠[]→∀a cap βw,OwnS 102 2 βw a l'.length cap (wsC l')→K ⟨ds,(d,.slice a l'.length cap)::ρ,βw++β⟩ v):XOp prog mn rd n ops i Q K ⟨ds,ρ,β⟩ v:=by
 have hc':CallsB prog mn kf (#[]++xs.toArray++#[]) (WlsR l l') [] (v.union (A0e β)):=by
  have:(#[]++xs.toArray++#[]:Array Value)=xs.toArray:=by simp
  rw [this];exact hc
 refine A7s [] β ho hw hn hf hxs hk (fun _=>rfl) hc' (fun y β' hR=>?_) (fun ch β' hR=>?_)
 ·unfold WlsR at hR
  by_cases h0:l=[]
  ·rw [if_pos h0]at hR;cases hR.1
  ·rw [if_neg h0]at hR
   obtain⟨x,hx,a,cap,rfl,hS⟩:=hR
   injection hx with hx
   subst hx
   exact h1 h0 a cap β' hS
 ·unfold WlsR at hR
  by_cases h0:l=[]
  ·rw [if_pos h0]at hR
   obtain⟨hR,rfl⟩:=hR
   injection hR with hR
   subst hR
   exact h2 h0
  ·rw [if_neg h0]at hR
   obtain⟨x,hx,_⟩:=hR
   cases hx
end
section
variable{v:View}{wa:Option Addr}{wc:Nat}
theorem someL_mem{best:Bool}{l:List Wl}{w:Wl}(h:w∈someL best l):w∈l:=by
 cases best with
 | false=>exact h
 | true=>exact(List.mem_filter.1 h).1
theorem someL_len{best:Bool}{l:List Wl}:(someL best l).length≤l.length:=by
 cases best with
 | false=>exact Nat.le_refl _
 | true=>exact List.length_filter_le _ _
theorem of_x{P F:Nat}{ws:List Wd}{best:Bool}(hv:VOk P F ws)(hws:WdsAt v wa ws)(hwl:ws.length<2^30) :
  CallsB prog ⟨true,true⟩ 102 #[boV P F wa ws.length wc,.bool best] (WlsR (A0g P F ws) (someL best (A0g P F ws))) [] v:=by
 refine A0f tab func102 Z nB (args:=[_,_]) ?_
 cases best with
 | true=>
  repeat (first|refine st ?_|refine qb fun bx=>?_)
  refine Q_op fun ho=>A_wls ho bod145 Z Z Z Z (l:=A0g P F ws) (l':=bestL (A0g P F ws)) (best_x hv (hws.le (A0b _ _)) hwl) (fun h=>?_) (fun hne a cap βw hS=>?_)
  ·refine pn ?_
   refine A1k tab [] (Back.here fun p=>Nat.zero_le _) ?_
   unfold WlsR
   rw [if_pos h]
   exact⟨Z,Z⟩
  clear ho
  repeat (first|refine st ?_|refine qb fun bx=>?_)
  refine A0l tab βw (by exact .tmp rfl .nil) (Back.here cntL) ?_
  unfold WlsR
  rw [if_neg hne]
  exact⟨_,Z,a,cap,Z,hS⟩
 | false=>
  repeat (first|refine st ?_|refine qb fun bx=>?_)
  refine Q_op fun ho=>B1u ho Z Z Z Z hv hws hwl (fun h=>?_) (fun hne a cap βw hS=>?_)
  ·refine pn ?_
   refine A1k tab [] (Back.here fun p=>Nat.zero_le _) ?_
   unfold WlsR
   rw [if_pos h]
   exact⟨Z,Z⟩
  clear ho
  repeat (first|refine st ?_|refine qb fun bx=>?_)
  refine A0l tab βw (by exact .tmp rfl .nil) (Back.here cntL) ?_
  unfold WlsR
  rw [if_neg hne]
  exact⟨_,Z,a,cap,Z,hS⟩
def errN(N:Int)(P F:Int)(ws:List Wd)(x:Int):Int:=if A2h P F ws=0 then(if 0≤x∧x≤N-1 then voidE (A0g P.toNat F.toNat ws)else 3)else A2h P F ws
theorem Person_x{P F:Int}{ws:List Wd}{x:Int}{best:Bool}(hws:WdsAt v wa ws)(hwl:ws.length<2^30) :
  CallsB prog ⟨true,true⟩ 41 #[boV P F wa ws.length wc,.int .i64 x,.bool best] (RetB fun r β'=>r = .tuple #[.int .i64 (if errN P P F ws x=0 then verd (someL best (A0g P.toNat F.toNat ws)) (fun w=>bit w.1 x.toNat)else 0),.int .i64 (errN P P F ws x)]∧β'=[]) [] v:=by
 refine A3m tab A4x func41 Z nB (args:=[_,_,_]) ?_
 repeat (first|refine st ?_|refine qb fun bx=>?_)
 refine Q_op fun ho=>A6x Z ho Z Z ?_
 clear ho
 repeat (first|refine st ?_|refine qb fun bx=>?_)
 refine Q_op fun ho=>A6g ho bod79 Z Z Z Z (A6u (hws.le (A0b _ _)) hwl) (fun h=>?_) (fun h=>?_)
 ·have he:errN P P F ws x=A2h P F ws:=if_neg h
  rw [he,if_neg h]
  refine pn ?_
  exact A2n tab Z ib dM sb (xs:=[_,_]) (by exact .tmp rfl (.cell rfl ib rfl .nil)) (Back.here fun p=>Nat.zero_le _) ⟨Z,Z⟩
 clear ho
 rw [show errN P P F ws x=if 0≤x∧x≤P-1 then voidE (A0g P.toNat F.toNat ws)else 3 from if_pos h]
 obtain⟨P,F,rfl,rfl,hv⟩:=A4w h
 simp only [Int.toNat_natCast]
 have hP4:=hv.p4
 have hF3:=hv.f3
 repeat (first|refine st ?_|refine qb fun bx=>?_)
 refine Q_op fun ho=>A_needR ho bod100 Z Z Z Z (person_x oM) (fun h=>?_) (fun h=>?_)
 ·rw [if_neg (of_decide_eq_false h)]
  refine pn ?_
  exact A2n tab Z ib dM sb (xs:=[_,_]) (by exact .tmp rfl (.cell rfl ib rfl .nil)) (Back.here fun p=>Nat.zero_le _) ⟨Z,Z⟩
 clear ho
 have hx:=of_decide_eq_true h
 rw [if_pos hx]
 clear h
 obtain⟨x,rfl⟩:=Int.eq_ofNat_of_zero_le hx.1
 simp only [Int.toNat_natCast]
 repeat (first|refine st ?_|refine qb fun bx=>?_)
 rename_i b3 b4 b7
 refine Q_op fun ho=>A_wls ho bod102 Z Z Z Z (l:=A0g P F ws) (l':=someL best (A0g P F ws)) (of_x hv (hws.le (A0b _ _)) hwl) (fun h=>?_) (fun hne a cap βw hS=>?_)
 ·refine pn ?_
  rw [h]
  exact A2n tab Z ib dM sb (xs:=[_,_]) (by exact .tmp rfl (.cell rfl ib rfl .nil)) (Back.here fun p=>Nat.zero_le _) ⟨Z,Z⟩
 clear ho
 rw [A9v hne,if_pos rfl]
 refine A0w (β1:=βw++[(b4,#[Value.int .i64 x],3)]) (β2:=[(bx,(boV P F wa ws.length wc).cells,95),(b7,#[Value.int .i64 0],34),(b3,(boV P F wa ws.length wc).cells,24)])
  (show ∀p,Pal.cnt p (βw++[(bx,(boV P F wa ws.length wc).cells,95),(b7,#[Value.int .i64 0],34),(b4,#[Value.int .i64 x],3),(b3,(boV P F wa ws.length wc).cells,24)])=Pal.cnt p ((βw++[(b4,#[Value.int .i64 x],3)])++[(bx,(boV P F wa ws.length wc).cells,95),(b7,#[Value.int .i64 0],34),(b3,(boV P F wa ws.length wc).cells,24)])from cntA) (fun hbk=>?_)
 have hrow:=RowAt.own hbk (show Subm βw (βw++[(b4,#[Value.int .i64 x],3)])from cntL) hS
 have hv4:=A9c hbk (b:=b4) ib
 have hlen:=A4s (ws:=ws) hv.p4 hv.f3
 have hlen2:=someL_len (best:=best) (l:=A0g P F ws)
 repeat (first|refine st ?_|refine qb fun bx=>?_)
 refine Q_op fun ho=>A0s ho bod101 Z Z Z Z Z (verdict_x (p:=fun w=>bit w.1 x) hrow oM bod103 (fun w hw u hl=>personF_x (A4d hv.p4 hv.f3 (someL_mem hw)).1 oM (hl _ _ hv4))) ?_
 clear ho
 repeat (first|refine st ?_|refine qb fun bx=>?_)
 exact A6e tab Z (β':=[]) (xs:=[_,_]) (by exact .tmp rfl (.cell rfl ib rfl .nil)) (Back.forget hbk (Back.here fun p=>Nat.zero_le _)) ⟨Z,Z⟩
end
section
variable{mn:Who}{v:View}{a:Option Addr}{cap:Nat}
def numE(L:Nat):Option Int→List Int→Int
 | _,[]=>0
 | pr,x::xs=>if ¬(0≤x∧x≤(L:Int)-1)then 3 else match pr with
  | some p=>if x > p then numE L (some x) xs else 5
  | none=>numE L (some x) xs
theorem numE_cons{L:Nat}{pr:Option Int}{x:Int}{xs:List Int}:numE L pr (x::xs)=if ¬(0≤x∧x≤(L:Int)-1)then 3 else match pr with
  | some p=>if x > p then numE L (some x) xs else 5
  | none=>numE L (some x) xs:=by cases pr<;>rfl
def prevI(l:List Int)(i:Nat):Option Int:=if i=0 then none else l[i-1]?
theorem numbers_x{l:List Int}{L:Nat}(hrow:RowAt v a (l.map (.int .i64)))(hlen:l.length<2^30)(hL:L≤8) :
  CallsB prog mn 116 #[.slice a l.length cap,.int .i64 L] (fun e β'=>β'=[]∧e=if numE L none l=0 then .ret (u8 (orG (l.map Int.toNat)))else panV (numE L none l)) [] v:=by
 refine A0f tab func116 Z nB (args:=[_,_]) ?_
 repeat refine st ?_
 refine A1o (α:=Nat) (fun i=>⟨[],[(9,.int .i64 i),(8,.int .i64 l.length),(7,.slice a l.length cap),(0,.slice a l.length cap),(1,.int .i64 L)],[]⟩)
  (fun i u=>u=v∧i≤l.length∧numE L none l=numE L (prevI l i) (l.drop i)∧∀x∈l.take i,0≤x∧x≤(L:Int)-1) (fun i=>l.length-i) 0 ⟨Z,rg,cntL⟩ (Le.refl _) ⟨Z,Nat.zero_le _,Z,by simp⟩ ?_
 rintro i u ⟨rfl,hi,hE,hall⟩
 repeat refine st ?_
 refine A0t Z (fun h=>?_) (fun h=>?_)
 ·replace h:=fa h
  have hlt:i<l.length:=oM
  obtain⟨b,off,q,c,e,f,rfl,hv,hc⟩:=hrow.ints hlt
  rw [List.drop_eq_getElem_cons hlt]at hE
  rw [numE_cons]at hE
  repeat refine st ?_
  refine A2t tab i Z Z Z Z Z Z Z hlt ?_
  refine A2p tab Z Z Z hv (A1b tab Z Z Z (by rw [Nat.mul_one];exact hc _ hlt)) ?_
  repeat refine st ?_
  refine Q_op fun ho=>A0s ho A6b Z Z Z Z Z A3k ?_
  clear ho
  refine Q_op fun ho=>A7s [] _ ho Z Z Z Z bod92 (fun _=>rfl) B3d (fun y β' hR=>?_) (fun ch β' hR=>?_)
  rotate_left
  ·obtain⟨rfl,hR⟩:=hR
   refine pn ?_
   refine A1k tab [] (Back.here fun p=>Nat.zero_le _) ⟨Z,?_⟩
   have hn:¬(0≤l[i]∧l[i]≤(L:Int)-1):=fun hn=>by rw [if_pos (by simpa using hn)]at hR;cases hR
   rw [if_pos hn]at hE
   rw [hE,if_neg dM,hR,if_neg (by simpa using hn)]
  clear ho
  obtain⟨rfl,hR⟩:=hR
  have hn:0≤l[i]∧l[i]≤(L:Int)-1:=Classical.byContradiction fun hn=>by rw [if_neg (by simpa using hn)]at hR;cases hR
  rw [if_neg (not_not_intro hn)]at hE
  have hall':∀x∈l.take (i+1),0≤x∧x≤(L:Int)-1:=fun x hx=>by
   rw [List.take_succ_eq_append_getElem hlt,List.mem_append,List.mem_singleton]at hx
   rcases hx with hx|rfl
   ·exact hall x hx
   ·exact hn
  have hnext:prevI l (i+1)=some l[i]:=by
   unfold prevI
   rw [if_neg oM]
   show l[i]?=_
   exact List.getElem?_eq_getElem hlt
  repeat refine st ?_
  refine A6d Z Z (fun h=>?_) (fun h=>?_)
  ·replace h:=fa h
   have hi0:i=0:=oM
   subst hi0
   repeat refine st ?_
   refine Q_op fun ho=>A7s [] _ ho Z Z Z Z bod92 (fun _=>rfl) B3d (fun y2 β' hR2=>?_) (fun ch β' hR2=>absurd hR2.2 sM)
   clear ho
   obtain⟨rfl,hR2⟩:=hR2
   repeat refine st ?_
   refine A0c ⟨1,u,(by have:=hlt;omega),⟨Z,rg,cntL⟩,Le.refl _,Z,hlt,?_,hall'⟩
   rw [hE,hnext];rfl
  ·replace h:=fa h
   have hi0:¬i=0:=oM
   have hlt1:i-1<l.length:=oM
   have hpr:prevI l i=some l[i-1]:=by
    unfold prevI
    rw [if_neg hi0,List.getElem?_eq_getElem hlt1]
   rw [hpr]at hE
   simp only at hE
   repeat refine st ?_
   refine A2t tab (i-1) Z Z Z Z oM Z Z hlt1 ?_
   refine A2p tab Z Z Z hv (A1b tab Z Z Z (by rw [Nat.mul_one];exact hc _ hlt1)) ?_
   repeat refine st ?_
   refine Q_op fun ho=>A7s [] _ ho Z Z Z Z bod92 (fun _=>rfl) B3d (fun y2 β' hR2=>?_) (fun ch β' hR2=>?_)
   ·clear ho
    obtain⟨rfl,hR2⟩:=hR2
    have hgt:l[i] > l[i-1]:=Classical.byContradiction fun hn'=>by rw [if_neg (by simpa using hn')]at hR2;cases hR2
    rw [if_pos hgt]at hE
    repeat refine st ?_
    refine A0c ⟨i+1,u,(by have:=hlt;omega),⟨Z,rg,cntL⟩,Le.refl _,Z,hlt,?_,hall'⟩
    rw [hE,hnext]
   ·obtain⟨rfl,hR2⟩:=hR2
    refine pn ?_
    refine A1k tab [] (Back.here fun p=>Nat.zero_le _) ⟨Z,?_⟩
    have hgt:¬l[i] > l[i-1]:=fun hn'=>by rw [if_pos (by simpa using hn')]at hR2;cases hR2
    rw [if_neg hgt]at hE
    rw [hE,if_neg dM,hR2,if_neg (by simpa using hgt)]
 ·replace h:=fa h
  have hin:i=l.length:=oM
  subst hin
  rw [List.drop_length]at hE
  rw [List.take_length]at hall
  have hE0:numE L none l=0:=hE.trans (by cases prevI l l.length<;>rfl)
  repeat refine st ?_
  have hmap:(l.map Int.toNat).map (fun(n:Nat)=>Value.int .i64 n)=l.map (.int .i64):=by
   rw [List.map_map]
   refine List.map_congr_left fun x hx=>?_
   show Value.int .i64 ((x.toNat:Nat):Int)=_
   rw [Int.toNat_of_nonneg (hall x hx).1]
  refine Q_op fun ho=>A0s ho bod96 Z Z Z Z Z (by
   have hg:=B3m (mn:=mn) (v:=u) (a:=a) (cap:=cap) (l:=l.map Int.toNat) (by rw [hmap];exact hrow) (fun m hm=>by
    obtain⟨x,hx,rfl⟩:=List.mem_map.1 hm
    have:=hall x hx;omega) (by rw [List.length_map];omega)
   rw [List.length_map]at hg
   exact hg) ?_
  clear ho
  repeat refine st ?_
  refine A0l tab [] (by exact .tmp rfl .nil) (Back.here cntL) ?_
  rw [if_pos hE0]
  exact⟨Z,Z⟩
end
section
variable{mn:Who}{v:View}{a:Option Addr}{cap:Nat}
def B4s(x:Int):List Int→Nat→Int
 | [],_=>-1
 | y::l,i=>if y=x then i else B4s x l (i+1)
theorem B2p{l:List Int}{x:Int}(hrow:RowAt v a (l.map (.int .i64)))(hlen:l.length<2^30) :
  Ret1 prog mn 99 [.slice a l.length cap,.int .i64 x] (.int .i64 (B4s x l 0)) v:=by
 refine A0f tab func99 Z nB (args:=[_,_]) ?_
 repeat refine st ?_
 refine A1o (α:=Nat) (fun i=>⟨[],[(5,.int .i64 i),(0,.slice a l.length cap),(1,.int .i64 x)],[]⟩)
  (fun i u=>u=v∧i≤l.length∧B4s x l 0=B4s x (l.drop i) i) (fun i=>l.length-i) 0 ⟨Z,rg,cntL⟩ (Le.refl _) ⟨Z,Nat.zero_le _,Z⟩ ?_
 rintro i u ⟨rfl,hi,hE⟩
 repeat refine st ?_
 refine A0t Z (fun h=>?_) (fun h=>?_)
 ·replace h:=fa h
  have hlt:i<l.length:=oM
  obtain⟨b,off,q,c,e,f,rfl,hv,hc⟩:=hrow.ints hlt
  rw [List.drop_eq_getElem_cons hlt,B4s]at hE
  repeat refine st ?_
  refine A2t tab i Z Z Z Z Z Z Z hlt ?_
  refine A2p tab Z Z Z hv (A1b tab Z Z Z (by rw [Nat.mul_one];exact hc _ hlt)) ?_
  clear h
  repeat refine st ?_
  refine A0t Z (fun h=>?_) (fun h=>?_)
  ·replace h:=fa h
   rw [if_pos h]at hE
   repeat refine st ?_
   refine A0l tab [] (by exact .tmp rfl .nil) (Back.here cntL) ?_
   rw [hE];exact⟨Z,Z⟩
  ·replace h:=fa h
   rw [if_neg h]at hE
   repeat refine st ?_
   refine A0c ⟨i+1,u,(by have:=hlt;omega),⟨Z,rg,cntL⟩,Le.refl _,Z,hlt,hE⟩
 ·replace h:=fa h
  have hin:i=l.length:=oM
  subst hin
  rw [List.drop_length]at hE
  repeat refine st ?_
  refine A0l tab [] (by exact .tmp rfl .nil) (Back.here cntL) ?_
  rw [hE];exact⟨Z,Z⟩
end
section
variable{v:View}{wa:Option Addr}{wc:Nat}
theorem numE_all{L:Nat}:∀{l:List Int} {pr:Option Int},numE L pr l=0→∀x∈l,0≤x∧x≤(L:Int)-1
 | [],_,_,_,hx=>by simp at hx
 | y::l,pr,h,x,hx=>by
  rw [numE_cons]at h
  by_cases h1:0≤y∧y≤(L:Int)-1
  ·rw [if_neg (not_not_intro h1)]at h
   have h2:numE L (some y) l=0:=by
    cases pr with
    | none=>exact h
    | some p=>
     simp only at h
     by_cases h3:y > p
     ·rwa [if_pos h3]at h
     ·rw [if_neg h3]at h;cases h
   rcases List.mem_cons.1 hx with rfl|hx
   ·exact h1
   ·exact numE_all h2 x hx
  ·rw [if_pos h1]at h;cases h
theorem orG_lt{l:List Nat}(h:∀n∈l,n<8):orG l<256:=by
 have:∀(l:List Nat) (g:Nat),(∀n∈l,n<8)→g<256→l.foldl (fun g n=>g ||| 2 ^ n) g<256:=by
  intro l
  induction l with
  | nil=>intro g _ hg;exact hg
  | cons x l ih=>
   intro g hf hg
   exact ih _ (fun y hy=>hf y (List.mem_cons_of_mem _ hy)) (or_val hg (hf x (List.mem_cons_self ..))).2
 exact this l 0 h dM
theorem xor_val{g h:Nat}(hg:g<256)(hh:h<256):IntKind.u8.wrap ((BitVec.ofInt IntKind.u8.bits (g:Int) ^^^ BitVec.ofInt IntKind.u8.bits (h:Int)).toNat:Int)=((g ^^^ h:Nat):Int)∧g ^^^ h<256:=by
 have hx:g ^^^ h<2^8:=Nat.xor_lt_two_pow hg hh
 refine⟨?_,hx⟩
 have h1:(BitVec.ofInt IntKind.u8.bits (g:Int)).toNat=g:=by
  rw [BitVec.toNat_ofInt]
  show(((g:Int) % ((2^8:Nat):Int)).toNat)=g
  omega
 have h2:(BitVec.ofInt IntKind.u8.bits (h:Int)).toNat=h:=by
  rw [BitVec.toNat_ofInt]
  show(((h:Int) % ((2^8:Nat):Int)).toNat)=h
  omega
 rw [BitVec.toNat_xor,h1,h2]
 simp only [IntKind.wrap,IntKind.signed,IntKind.bits]
 simp
 omega
abbrev wldV(a1:Option Addr)(n1 c1:Nat)(a2:Option Addr)(n2 c2:Nat):Value:=.agg #[.slice a1 n1 c1,.slice a2 n2 c2]
abbrev gOf(l:List Int):Nat:=orG (l.map Int.toNat)
def errWr(P F:Int)(ws:List Wd)(tr so:List Int):Int:=if A2h P F ws=0 then(if numE P.toNat none tr=0 then numE F.toNat none so else numE P.toNat none tr)else A2h P F ws
def B4l(P:Nat)(ws:List Wd)(tr so:List Int):List Nat:=lst (B1s P ws (gOf tr,gOf so) ^^^ gOf tr)
theorem Wrong_x{P F:Int}{ws:List Wd}{tr so:List Int}{a1 a2:Option Addr}{c1 c2:Nat}(hws:WdsAt v wa ws)(hwl:ws.length<2^30)(htr:RowAt v a1 (tr.map (.int .i64)))(hso:RowAt v a2 (so.map (.int .i64)))(hl1:tr.length<2^30)(hl2:so.length<2^30) :
  CallsB prog ⟨true,true⟩ 56 #[boV P F wa ws.length wc,wldV a1 tr.length c1 a2 so.length c2] (RetB fun r β'=>∃t,r = .tuple #[t,.int .i64 (errWr P F ws tr so)]∧OwnL β' t (if errWr P F ws tr so=0 then B4l P.toNat ws tr so else [])) [] v:=by
 refine A3m tab A4x func56 Z nB (args:=[_,_]) ?_
 repeat (first|refine st ?_|refine qb fun bx=>?_)
 refine Q_op fun ho=>A6x Z ho Z Z ?_
 clear ho
 repeat (first|refine st ?_|refine qb fun bx=>?_)
 refine Q_op fun ho=>A6g ho bod79 Z Z Z Z (A6u (hws.le (A0b _ _)) hwl) (fun h=>?_) (fun h=>?_)
 ·rw [show errWr P F ws tr so=A2h P F ws from if_neg h,if_neg h]
  refine pn ?_
  exact A2n tab Z ib dM sb (xs:=[_,_]) (by exact .tmp rfl (.cell rfl ib rfl .nil)) (Back.here fun p=>Nat.zero_le _) ⟨_,Z,none,0,Z,.nil⟩
 clear ho
 rw [show errWr P F ws tr so=if numE P.toNat none tr=0 then numE F.toNat none so else numE P.toNat none tr from if_pos h]
 obtain⟨P,F,rfl,rfl,hv⟩:=A4w h
 simp only [Int.toNat_natCast]
 have hP4:=hv.p4
 have hF3:=hv.f3
 repeat (first|refine st ?_|refine qb fun bx=>?_)
 refine Q_op fun ho=>A6g ho bod116 Z Z Z Z (numbers_x (L:=P) (RowAt.le htr (A0b _ _)) hl1 oM) (fun h=>?_) (fun h=>?_)
 ·rw [if_neg h,if_neg h]
  refine pn ?_
  exact A2n tab Z ib dM sb (xs:=[_,_]) (by exact .tmp rfl (.cell rfl ib rfl .nil)) (Back.here fun p=>Nat.zero_le _) ⟨_,Z,none,0,Z,.nil⟩
 clear ho
 rw [if_pos h]
 have h1:gOf tr<256:=orG_lt fun m hm=>by
  obtain⟨x,hx,rfl⟩:=List.mem_map.1 hm
  have:=numE_all h x hx;omega
 repeat (first|refine st ?_|refine qb fun bx=>?_)
 refine Q_op fun ho=>A6g ho bod116 Z Z Z Z (numbers_x (L:=F) (RowAt.le hso (A0b _ _)) hl2 oM) (fun h=>?_) (fun h=>?_)
 ·rw [if_neg h]
  refine pn ?_
  exact A2n tab Z ib dM sb (xs:=[_,_]) (by exact .tmp rfl (.cell rfl ib rfl .nil)) (Back.here fun p=>Nat.zero_le _) ⟨_,Z,none,0,Z,.nil⟩
 clear ho
 rw [h,if_pos rfl]
 have h2:gOf so<256:=orG_lt fun m hm=>by
  obtain⟨x,hx,rfl⟩:=List.mem_map.1 hm
  have:=numE_all h x hx;omega
 obtain⟨hhon,hh256⟩:=honest_x (mn:=⟨true,true⟩) (v:=v) (P:=P) (F:=F) (cap:=wc) (w:=(gOf tr,gOf so)) oM hws hv.fit hwl h1 h2
 obtain⟨hx1,hx2⟩:=xor_val hh256 h1
 repeat (first|refine st ?_|refine qb fun bx=>?_)
 refine A2u [2,6,8] [0,1,3,4,2,5,6,7,8] A1w Z kR ?_
 repeat (first|refine st ?_|refine qb fun bx=>?_)
 refine S_do kR (A0i [] _ Z bod118 Z Z Z Z Z A1n (hhon.le (A0b _ _)) (fun x β' hR=>⟨Le.refl _,?_,?_⟩))
 ·exact kp
 obtain⟨rfl,rfl⟩:=hR
 repeat (first|refine st ?_|refine qb fun bx=>?_)
 rw [hx1]
 refine S_do kR (A0i [] _ Z B3w Z Z Z Z Z A1n (B3i hx2) (fun x β' hR=>⟨Le.refl _,?_,?_⟩))
 ·exact kp
 obtain⟨a,cap,rfl,hS⟩:=hR
 repeat (first|refine st ?_|refine qb fun bx=>?_)
 exact A6e tab Z (β':=β') (xs:=[_,_]) (by exact .tmp rfl (.cell rfl ib rfl .nil)) (Back.here cntL) ⟨_,Z,a,cap,Z,hS⟩
end
structure Lst where
 v:Int
 n:Int
 some:Bool
def Lst.add(s:Lst)(v n:Int):Lst:=if !s.some||decide (n<s.n)then⟨v,n,true⟩else s
def Lst.c(s:Lst):Array Value:=#[.int .i64 s.v,.int .i64 s.n,.bool s.some]
section
variable{mn:Who}{v:View}
theorem add_x{s:Lst}{b:Nat}{x y:Int}:CallsB prog mn 90 #[.pointer (some ⟨b,0,none⟩),.int .i64 x,.int .i64 y] (RetB fun r β'=>r = .tuple #[]∧β'=[(b,(s.add x y).c,110)]) [(b,s.c,110)] v:=by
 refine A0f tab func90 Z nB (args:=[_,_,_]) ?_
 obtain⟨sv,sn,ss⟩:=s
 unfold Lst.c
 cases ss with
 | false=>
  repeat refine st ?_
  refine A1t tab [(b,#[.int .i64 x,.int .i64 y,.bool true],110)] .nil (Back.here (show Subm [(b,#[Value.int .i64 x,Value.int .i64 y,Value.bool true],110)] [(b,#[Value.int .i64 x,Value.int .i64 y,Value.bool true],110)]from cntL)) ?_
  exact⟨Z,by simp [Lst.add]⟩
 | true=>
  repeat refine st ?_
  refine A0t Z (fun h=>?_) (fun h=>?_)
  ·replace h:=fa h
   repeat refine st ?_
   refine A1t tab [(b,#[.int .i64 x,.int .i64 y,.bool true],110)] .nil (Back.here (show Subm [(b,#[Value.int .i64 x,Value.int .i64 y,Value.bool true],110)] [(b,#[Value.int .i64 x,Value.int .i64 y,Value.bool true],110)]from cntL)) ?_
   exact⟨Z,by simp [Lst.add,h]⟩
  ·replace h:=fa h
   repeat refine st ?_
   refine A1t tab [(b,#[.int .i64 sv,.int .i64 sn,.bool true],110)] .nil (Back.here (show Subm [(b,#[Value.int .i64 sv,Value.int .i64 sn,Value.bool true],110)] [(b,#[Value.int .i64 sv,Value.int .i64 sn,Value.bool true],110)]from cntL)) ?_
   exact⟨Z,by simp [Lst.add,h]⟩
end
def maxI(a b:Int):Int:=if a<b then b else a
def most(l:List Wl)(p:Nat):Int:=maxI (l.countP fun w=>bit w.1 p) ((l.length:Int)-(l.countP fun w=>bit w.1 p))
def askS(l:List Wl)(n:Nat):Lst:=(List.range n).foldl (fun(s:Lst) (p:Nat)=>s.add (p:Int) (most l p)) ⟨0,0,false⟩
theorem B4v(l:List Wl)(n:Nat):askS l (n+1)=(askS l n).add n (most l n):=by
 unfold askS
 rw [List.range_succ,List.foldl_append]
 rfl
section
variable{v:View}{wa:Option Addr}{wc:Nat}
def askE(P:Nat)(l:List Wl):Int:=if l.isEmpty then 11 else if(askS l P).n<l.length then 0 else 11
def errA(P F:Int)(ws:List Wd):Int:=if A2h P F ws=0 then askE P.toNat (A0g P.toNat F.toNat ws)else A2h P F ws
def askV(P F:Int)(ws:List Wd):Value:=if errA P F ws=0 then .tuple #[.int .i64 (askS (A0g P.toNat F.toNat ws) P.toNat).v,.int .i64 (askS (A0g P.toNat F.toNat ws) P.toNat).n,.int .i64 0]else .tuple #[.int .i64 0,.int .i64 0,.int .i64 (errA P F ws)]
theorem Ask_x{P F:Int}{ws:List Wd}(hws:WdsAt v wa ws)(hwl:ws.length<2^30):CallsB prog ⟨true,true⟩ 36 #[boV P F wa ws.length wc] (RetB fun r β'=>r=askV P F ws∧β'=[]) [] v:=by
 refine A3m tab A4x func36 Z nB (args:=[_]) ?_
 unfold askV
 repeat (first|refine st ?_|refine qb fun bx=>?_)
 refine Q_op fun ho=>A6x Z ho Z Z ?_
 clear ho
 repeat (first|refine st ?_|refine qb fun bx=>?_)
 refine Q_op fun ho=>A6g ho bod79 Z Z Z Z (A6u (hws.le (A0b _ _)) hwl) (fun h=>?_) (fun h=>?_)
 ·rw [show errA P F ws=A2h P F ws from if_neg h,if_neg h]
  refine pn ?_
  exact A2n tab Z ib dM sb (xs:=[_,_,_]) (by exact .tmp rfl (.tmp rfl (.cell rfl ib rfl .nil))) (Back.here fun p=>Nat.zero_le _) ⟨Z,Z⟩
 clear ho
 rw [show errA P F ws=askE P.toNat (A0g P.toNat F.toNat ws)from if_pos h]
 obtain⟨P,F,rfl,rfl,hv⟩:=A4w h
 simp only [Int.toNat_natCast]
 have hP4:=hv.p4
 have hF3:=hv.f3
 repeat (first|refine st ?_|refine qb fun bx=>?_)
 refine Q_op fun ho=>B1u ho Z Z Z Z hv hws hwl (fun h=>?_) (fun hne a cap βw hS=>?_)
 ·rw [h]
  refine pn ?_
  exact A2n tab Z ib dM sb (xs:=[_,_,_]) (by exact .tmp rfl (.tmp rfl (.cell rfl ib rfl .nil))) (Back.here fun p=>Nat.zero_le _) ⟨Z,Z⟩
 clear ho
 have hE:askE P (A0g P F ws)=if(askS (A0g P F ws) P).n<(A0g P F ws).length then 0 else 11:=by
  unfold askE
  rw [if_neg (by simpa using hne)]
 rw [hE]
 refine A0w (β1:=βw) cntA (fun hbk=>?_)
 have hrow:=A2m hbk hS
 have hlen:=A4s (ws:=ws) hv.p4 hv.f3
 have hlt0:0<(A0g P F ws).length:=List.length_pos_iff.2 hne
 have hwok:∀w∈A0g P F ws,w.1<256:=fun w hw=>(A4d hv.p4 hv.f3 hw).1
 generalize hl:A0g P F ws=l at *
 clear hl hE hS hne
 repeat (first|refine st ?_|refine qb fun bx=>?_)
 rename_i b1 b4 b5
 refine A1o (α:=Nat) (fun p=>⟨[dcall 78 #[.pointer (some ⟨b4,0,none⟩)]],[(20,.int .i64 p),(19,.int .i64 P),(6,.slice a l.length cap),(8,.func (.func 90) #[.pointer (some ⟨bx,0,none⟩)] #[]),(7,.pointer (some ⟨bx,0,none⟩)),(4,.pointer (some ⟨b4,0,none⟩)),(2,.int .i64 0),(3,.int .i64 0)],[(bx,(askS l p).c,110),(b4,#[.int .i64 0],34)]⟩)
  (fun p u=>u=v.union (A0e βw)∧p≤P) (fun p=>P-p) 0 ⟨Z,rg,(show Subm [(bx,#[Value.int .i64 0,Value.int .i64 0,Value.bool false],110),(b4,#[Value.int .i64 0],34)] [(bx,#[Value.int .i64 0,Value.int .i64 0,Value.bool false],110),(b5,(boV P F wa ws.length wc).cells,95),(b4,#[Value.int .i64 0],34),(b1,(boV P F wa ws.length wc).cells,24)]from cntL)⟩ (Le.refl _) ⟨Z,Nat.zero_le _⟩ ?_
 rintro p u ⟨rfl,hp⟩
 repeat (first|refine st ?_|refine qb fun bx=>?_)
 refine A0t Z (fun h=>?_) (fun h=>?_)
 ·replace h:=fa h
  have hpl:p<P:=oM
  repeat (first|refine st ?_|refine qb fun bx=>?_)
  refine A1o (α:=Nat×Nat) (fun z=>⟨[dcall 78 #[.pointer (some ⟨b4,0,none⟩)]],[(25,.int .i64 z.1),(24,.int .i64 l.length),(23,.slice a l.length cap),(10,.int .i64 z.2),(9,.int .i64 p),(20,.int .i64 p),(19,.int .i64 P),(6,.slice a l.length cap),(8,.func (.func 90) #[.pointer (some ⟨bx,0,none⟩)] #[]),(7,.pointer (some ⟨bx,0,none⟩)),(4,.pointer (some ⟨b4,0,none⟩)),(2,.int .i64 0),(3,.int .i64 0)],[(bx,(askS l p).c,110),(b4,#[.int .i64 0],34)]⟩)
   (fun z u=>u=v.union (A0e βw)∧z.1≤l.length∧z.2=(l.take z.1).countP fun w=>bit w.1 p) (fun z=>l.length-z.1) (0,0) ⟨Z,rg,cntL⟩ (Le.refl _) ⟨Z,Nat.zero_le _,Z⟩ ?_
  rintro⟨i,m⟩ u ⟨rfl,hi,hm⟩
  simp only at hi hm
  have hcl:m≤l.length:=by rw [hm];exact Nat.le_trans List.countP_le_length (by rw [List.length_take];omega)
  dsimp only
  clear h
  repeat (first|refine st ?_|refine qb fun bx=>?_)
  refine A0t Z (fun h=>?_) (fun h=>?_)
  ·replace h:=fa h
   have hlt:i<l.length:=oM
   obtain⟨b,off,q,c,e,f,rfl,hv',hc⟩:=A9r hrow hlt
   repeat (first|refine st ?_|refine qb fun bx=>?_)
   refine A2t tab i Z Z Z Z Z Z Z hlt ?_
   refine A2p tab Z Z Z hv' (A2d tab Z Z Z (hc i hlt)) ?_
   repeat (first|refine st ?_|refine qb fun bx=>?_)
   refine Q_op fun ho=>A0s ho A9n Z Z Z Z Z (A9l (n:=p) (hwok _ (List.getElem_mem hlt)) oM) ?_
   clear ho
   have hst:((l.take (i+1)).countP fun w=>bit w.1 p)=m+(if bit l[i].1 p then 1 else 0):=by
    rw [List.take_succ_eq_append_getElem hlt,List.countP_append,hm];simp [List.countP_cons]
   cases hb:bit l[i].1 p with
   | true=>
    rw [hb]at hst
    repeat (first|refine st ?_|refine qb fun bx=>?_)
    refine A0c ⟨(i+1,m+1),_,by simp only;omega,⟨Z,rg,cntL⟩,Le.refl _,Z,hlt,hst.symm⟩
   | false=>
    rw [hb]at hst
    repeat (first|refine st ?_|refine qb fun bx=>?_)
    refine A0c ⟨(i+1,m),_,by simp only;omega,⟨Z,rg,cntL⟩,Le.refl _,Z,hlt,hst.symm⟩
  ·replace h:=fa h
   have hin:i=l.length:=oM
   subst hin
   rw [List.take_length]at hm
   subst hm
   have hcl:(l.countP fun w=>bit w.1 p)≤l.length:=List.countP_le_length
   clear h
   repeat (first|refine st ?_|refine qb fun bx=>?_)
   refine Q_op fun ho=>A0i [(bx,(askS l p).c,110)] [(b4,#[.int .i64 0],34)] ho bod90 Z Z Z Z Z cntA (add_x (s:=askS l p) (x:=p) (y:=most l p)) (fun x β' hR=>?_)
   clear ho
   obtain⟨rfl,rfl⟩:=hR
   repeat (first|refine st ?_|refine qb fun bx=>?_)
   refine A0c ⟨p+1,_,(by have:=hpl;omega),⟨Z,rg,?_⟩,Le.refl _,Z,hpl⟩
   rw [B4v]
   exact cntL
 ·replace h:=fa h
  have hpP:p=P:=oM
  subst hpP
  clear h
  repeat (first|refine st ?_|refine qb fun bx=>?_)
  refine Q_op fun ho=>A3d ho Z Z Z Z (fun h=>?_) (fun h=>?_)
  ·have h:=of_decide_eq_false h
   rw [if_neg h]
   refine pn ?_
   exact A2n tab Z ib dM sb (xs:=[_,_,_]) (by exact .tmp rfl (.tmp rfl (.cell rfl ib rfl .nil))) (Back.forget hbk (Back.here fun p=>Nat.zero_le _)) ⟨Z,Z⟩
  clear ho
  have h:=of_decide_eq_true h
  rw [if_pos h]
  repeat (first|refine st ?_|refine qb fun bx=>?_)
  refine A2u [6] [0,1,2,3,4,5,6] A1w Z kR ?_
  repeat (first|refine st ?_|refine qb fun bx=>?_)
  exact A6e tab Z (β':=[]) (xs:=[_,_,_]) (by exact .tmp rfl (.tmp rfl (.cell rfl ib rfl .nil))) (Back.forget hbk (Back.here fun p=>Nat.zero_le _)) ⟨Z,Z⟩
end
end Go.Proofs.YtiolobmgibdfmaaGreat
end
section
namespace Go.Pal.Vo
def A6r(l:List Nat):Nat:=match l.getLast? with
 | some x=>x+1
 | none=>0
def more(n:Nat)(l:List Nat):List (List Nat):=(List.range' (A6r l) (n-A6r l)).map fun x=>l++[x]
def level(n:Nat):Nat→List (List Nat)
 | 0=>[[]]
 | k+1=>(level n k).flatMap (more n)
def A2e(n:Nat):List (List Nat):=(List.range (n+1)).flatMap (level n)
def A3f(n i:Nat):List (List Nat):=[]::((A2e n).take i).flatMap (more n)
theorem B3g:(List.range 9).all (fun n=>A2e n == []::(A2e n).flatMap (more n)&&(A2e n).all (fun l=>decide (l.length≤8)&&decide (A6r l≤n)&&l.all (fun x=>decide (x<n)))&&decide ((A2e n).length≤256))=true:=by decide +kernel
theorem lists_tab2:(List.range 9).all (fun n=>(List.range (A2e n).length).all fun i=>decide (i<1+(((A2e n).take i).map fun l=>n-A6r l).sum))=true:=by decide +kernel
theorem lists_fix{n:Nat}(hn:n≤8):A2e n=[]::(A2e n).flatMap (more n):=by
 have:=List.all_eq_true.1 B3g n (List.mem_range.2 oM)
 simp only [Bool.and_eq_true,beq_iff_eq]at this
 exact this.1.1
theorem A7y{n:Nat}(hn:n≤8){l:List Nat}(h:l∈A2e n):l.length≤8∧A6r l≤n∧∀x∈l,x<n:=by
 have:=List.all_eq_true.1 B3g n (List.mem_range.2 oM)
 simp only [Bool.and_eq_true,beq_iff_eq]at this
 have:=List.all_eq_true.1 this.1.2 l h
 simp only [Bool.and_eq_true,decide_eq_true_eq,List.all_eq_true]at this
 exact⟨this.1.1,this.1.2,this.2⟩
theorem B3h{n:Nat}(hn:n≤8):(A2e n).length≤256:=by
 have:=List.all_eq_true.1 B3g n (List.mem_range.2 oM)
 simp only [Bool.and_eq_true,decide_eq_true_eq]at this
 exact this.2
theorem B0h{n i:Nat}(hn:n≤8):A2e n=A3f n i++((A2e n).drop i).flatMap (more n):=by
 have h:=lists_fix hn
 unfold A3f
 rw [List.cons_append,←List.flatMap_append,List.take_append_drop]
 exact h
theorem made_lt{n i:Nat}(hn:n≤8)(hi:i<(A2e n).length):i<(A3f n i).length:=by
 have:=List.all_eq_true.1 (List.all_eq_true.1 lists_tab2 n (List.mem_range.2 oM)) i (List.mem_range.2 hi)
 have h:=of_decide_eq_true this
 unfold A3f
 have e:(((A2e n).take i).flatMap (more n)).length=(((A2e n).take i).map fun l=>n-A6r l).sum:=by
  rw [List.length_flatMap]
  congr 1
  refine List.map_congr_left fun l _=>?_
  simp [more]
 rw [List.length_cons,e]
 omega
theorem made_at{n i:Nat}(hn:n≤8)(hi:i<(A3f n i).length):∃h:i<(A2e n).length,(A3f n i)[i]=(A2e n)[i]:=by
 have h:=B0h (i:=i) hn
 have hlt:i<(A2e n).length:=by rw [h,List.length_append];omega
 refine⟨hlt,?_⟩
 have:(A2e n)[i]?=(A3f n i)[i]?:=by
  conv=>lhs;rw [h]
  rw [List.getElem?_append_left hi]
 rw [List.getElem?_eq_getElem hlt,List.getElem?_eq_getElem hi]at this
 exact(Option.some.inj this).symm
theorem made_succ{n i:Nat}(hi:i<(A2e n).length):A3f n (i+1)=A3f n i++more n (A2e n)[i]:=by
 unfold A3f
 rw [List.take_succ_eq_append_getElem hi,List.flatMap_append]
 simp
theorem made_end{n i:Nat}(hn:n≤8)(hi:¬i<(A3f n i).length):A3f n i=A2e n:=by
 have hge:¬i<(A2e n).length:=fun h=>hi (made_lt hn h)
 have h:=B0h (i:=i) hn
 rw [List.drop_eq_nil_of_le oM]at h
 simpa using h.symm
end Go.Pal.Vo
end
section
namespace Go.Proofs.YtiolobmgibdfmaaGreat
open Go Go.Pal Go.Pal.Vo Go.Conc View
open Go.Proofs.Tryz
set_option maxHeartbeats 4000000
set_option maxRecDepth 20000
theorem nats_one{α:Type}(l:List α)(f:α→Value)(h:∀x,A3z (f x)=true):(l.map f).all A3z=true:=List.all_eq_true.2 fun y hy=>by
 obtain⟨x,_,rfl⟩:=List.mem_map.1 hy
 exact h x
section
variable{mn:Who}{v:View}
theorem clone_x{l:List Nat}{a:Option Addr}{cap:Nat}(hrow:RowAt v a (l.map natV))(hlen:l.length<2^30):CallsB prog mn 143 #[.slice a l.length cap] (RetB fun r β'=>OwnL β' r l) [] v:=by
 refine A0f tab func143 Z nB (args:=[_]) ?_
 cases a with
 | none=>
  have hl:l=[]:=by
   rcases hrow with h|⟨b,off,p,c,e,f,h,_⟩
   ·simpa using h
   ·cases h
  subst hl
  repeat refine st ?_
  refine A0l tab [] (by exact .tmp rfl .nil) (Back.here cntL) ?_
  exact⟨none,0,Z,.nil⟩
 | some a=>
  repeat refine st ?_
  refine Q_op fun ho=>A3x tab ho Z Z Z Z Z Z Z Z Z (fun b3 c3 hL=>?_)
  clear ho
  repeat refine st ?_
  refine Q_op fun ho=>A2w tab (xs:=l.map natV) [(b3,c3,3)] [] [] ho Z Z Z Z Z Z Z Z Z Z cntA hL
   (fun hb=>RowAt.le hrow (A0b _ _)) sM (nats_one l natV fun _=>rfl) (by show(2*(0+l.length)+768)*8≤2^48;omega) oM (fun seg' a' cap' hS'=>?_)
  clear ho
  repeat refine st ?_
  refine A0l tab seg' (by exact .tmp rfl .nil) (Back.here cntL) ?_
  rw [Nat.zero_add]at hS'⊢
  exact⟨a',cap',Z,hS'⟩
def RowsOf(v:View)(rows:List Value)(ls:List (List Nat)):Prop:=rows.length=ls.length∧∀(i:Nat) (h:i<ls.length),∃ai ci,rows[i]?=some (.slice ai ls[i].length ci)∧RowAt v ai (ls[i].map natV)
theorem RowsOf.le{u v:View}{rows:List Value}{ls:List (List Nat)}(h:RowsOf u rows ls)(hl:u.Le v):RowsOf v rows ls:=⟨h.1,fun i hi=>by
 obtain⟨ai,ci,h1,h2⟩:=h.2 i hi
 exact⟨ai,ci,h1,RowAt.le h2 hl⟩⟩
theorem RowsOf.snoc{v:View}{rows:List Value}{ls:List (List Nat)}{l:List Nat}{a:Option Addr}{c m:Nat}(h:RowsOf v rows ls)(hm:m=l.length)(hr:RowAt v a (l.map natV)):RowsOf v (rows++[.slice a m c]) (ls++[l]):=by
 subst hm
 refine⟨by simp [h.1],fun i hi=>?_⟩
 by_cases e:i<ls.length
 ·obtain⟨ai,ci,h1,h2⟩:=h.2 i e
  have e1:(ls++[l])[i]=ls[i]:=by rw [List.getElem_append_left e]
  rw [e1]
  exact⟨ai,ci,by rw [List.getElem?_append_left (by rw [h.1];exact e)];exact h1,h2⟩
 ·have hi':i=ls.length:=by simp at hi;omega
  subst hi'
  have e1:(ls++[l])[ls.length]=l:=by simp
  rw [e1]
  exact⟨a,c,by rw [List.getElem?_append_right (by rw [h.1];exact Nat.le_refl _),h.1];simp,hr⟩
def OwnLL(β:A0j)(r:Value)(ls:List (List Nat)):Prop:=∃a cap segO segR rows,r = .slice a ls.length cap∧β=segO++segR∧OwnS 27 1 segO a ls.length cap rows∧∀v,Bok segR v→RowsOf (v.union (A0e segR)) rows ls
theorem A5w{e:TypeId}{k:Nat}{seg:A0j}{a:Option Addr}{len cap:Nat}{cs:List Value}(h:OwnS e k seg a len cap cs)(hl:0<len):∃b c,seg=[(b,c,e)]∧a=some ⟨b,0,none⟩∧len≤cap∧c.size=cap*k∧∀(i:Nat) (x:Value),cs[i]?=some x→c[i]?=some x:=by
 cases h with
 | nil=>cases hl
 | @box b c _ _ _ h1 h2 h3 h4=>exact⟨b,c,rfl,rfl,h2,h3,h4⟩
theorem low_last{l:List Nat}(h:0<l.length):A6r l=l[l.length-1]+1:=by
 unfold A6r
 rw [List.getLast?_eq_getElem?,List.getElem?_eq_getElem (show l.length-1<l.length by omega)]
def A7d(l:List Nat)(x:Nat):List (List Nat):=(List.range' (A6r l) (x-A6r l)).map fun x=>l++[x]
theorem B4p{l:List Nat}{x:Nat}(h:A6r l≤x):A7d l (x+1)=A7d l x++[l++[x]]:=by
 unfold A7d
 rw [show x+1-A6r l=x-A6r l+1 by omega,List.range'_1_concat,List.map_append]
 simp
 omega
theorem made_le{n i:Nat}(hn:n≤8)(hi:i<(A2e n).length):i+1≤(A3f n (i+1)).length:=by
 by_cases h:i+1<(A2e n).length
 ·exact Nat.le_of_lt (made_lt hn h)
 ·have h1:=B0h (i:=i+1) hn
  rw [List.drop_eq_nil_of_le oM]at h1
  have h2:=congrArg List.length h1
  simp at h2
  omega
structure LS where
 at_:Nat
 x:Nat
 a:Option Addr
 cap:Nat
 seg:A0j
 rows:List Value
 segR:A0j
theorem lists_x{n:Nat}(hn:n≤8):CallsB prog mn 87 #[.int .i64 n] (RetB fun r β'=>OwnLL β' r (A2e n)) [] v:=by
 refine A0f tab func87 Z nB (args:=[_]) ?_
 repeat refine st ?_
 refine Q_op fun ho=>A3x tab ho Z Z Z Z Z Z Z Z Z (fun b3 c3 hL=>?_)
 clear ho
 repeat refine st ?_
 have hL256:=B3h hn
 refine A1o (α:=LS) (fun z=>⟨[],[(4,.int .i64 z.at_),(3,.slice z.a (A3f n z.at_).length z.cap),(0,.int .i64 n)],z.seg⟩)
  (fun z u=>u=v.union (A0e z.segR)∧Bok z.segR v∧z.at_≤(A3f n z.at_).length∧OwnS 27 1 z.seg z.a (A3f n z.at_).length z.cap z.rows∧∀v,Bok z.segR v→RowsOf (v.union (A0e z.segR)) z.rows (A3f n z.at_)) (fun z=>(A2e n).length-z.at_)
  ⟨0,0,some ⟨b3,0,none⟩,1,[(b3,c3,27)],[.slice none 0 0],[]⟩ ⟨Z,rg,cntL⟩ (by rw [A2r];exact Le.refl _) ⟨Z,B3u v,Nat.zero_le _,hL,fun v _=>⟨Z,fun i hi=>?_⟩⟩ ?_
 ·have:i=0:=by simp [A3f]at hi;omega
  subst this
  exact⟨none,0,Z,.inl Z⟩
 rintro⟨at_,_,a,cap,seg,rows,segR⟩ u ⟨rfl,hbR,hat,hO,hR⟩
 simp only at hbR hat hO hR
 dsimp only
 have hpre:=B0h (i:=at_) hn
 have hml:(A3f n at_).length≤256:=by
  have:=congrArg List.length hpre
  rw [List.length_append]at this;omega
 repeat refine st ?_
 refine A0t Z (fun h=>?_) (fun h=>?_)
 ·replace h:=fa h
  have hlt:at_<(A3f n at_).length:=oM
  obtain⟨hlt',hat'⟩:=made_at hn hlt
  obtain⟨ai,ci,hri,hrowi⟩:=(hR v hbR).2 at_ hlt
  rw [hat']at hri hrowi
  have hmem:(A2e n)[at_]∈A2e n:=List.getElem_mem hlt'
  have hsucc:=made_succ (n:=n) hlt'
  generalize (A2e n)[at_]=l at hri hrowi hmem hsucc
  obtain⟨hl8,hlow,hln⟩:=A7y hn hmem
  have hmore:(A3f n (at_+1)).length≤256:=by
   have:=congrArg List.length (B0h (i:=at_+1) hn)
   rw [List.length_append]at this;omega
  rw [hsucc,List.length_append]at hmore
  have hmlen:(more n l).length=n-A6r l:=by simp [more]
  rw [hmlen]at hmore
  obtain⟨b,c,rfl,rfl,hcap,hcs,hcc⟩:=A5w hO oM
  clear h
  repeat refine sr ?_
  refine A5o ?_
  repeat refine sr ?_
  refine A2t tab at_ Z Z Z Z Z Z Z hlt ?_
  refine A6v tab Z Z Z ib (A1b tab Z Z Z (by rw [Nat.mul_one,Nat.zero_add];exact hcc _ _ hri)) ?_
  repeat refine sr ?_
  refine A6f (fun σ u=>u=v.union (A0e segR)∧σ=⟨[],[(6,.int .i64 (A6r l)),(5,.slice ai l.length ci),(4,.int .i64 at_),(3,.slice (some ⟨b,0,none⟩) (A3f n at_).length cap),(0,.int .i64 n)],[(b,c,27)]⟩) ?_ ?_
  ·rintro σ u ⟨rfl,rfl⟩
   repeat refine st ?_
   refine A1o (α:=LS) (fun z=>⟨[],[(7,.int .i64 z.x),(5,.slice ai l.length ci),(4,.int .i64 at_),(3,.slice z.a (A3f n at_++A7d l z.x).length z.cap),(0,.int .i64 n)],z.seg⟩)
    (fun z u=>u=v.union (A0e z.segR)∧Bok z.segR v∧(A6r l≤z.x∧z.x≤n)∧OwnS 27 1 z.seg z.a (A3f n at_++A7d l z.x).length z.cap z.rows∧(∀v,Bok z.segR v→RowsOf (v.union (A0e z.segR)) z.rows (A3f n at_++A7d l z.x))∧RowAt u ai (l.map natV)) (fun z=>n-z.x)
    ⟨0,A6r l,some ⟨b,0,none⟩,cap,[(b,c,27)],rows,segR⟩ ⟨Z,?_,cntL⟩ (Le.refl _) ⟨Z,hbR,⟨Nat.le_refl _,hlow⟩,?_,?_,hrowi⟩ ?_
   ·have e:A3f n at_++A7d l (A6r l)=A3f n at_:=by simp [A7d]
    dsimp only
    rw [e]
    exact rg
   ·have e:A3f n at_++A7d l (A6r l)=A3f n at_:=by simp [A7d]
    dsimp only
    rw [e]
    exact hO
   ·have e:A3f n at_++A7d l (A6r l)=A3f n at_:=by simp [A7d]
    dsimp only
    rw [e]
    exact hR
   clear hO hR hrowi hri hcap hcs hcc hbR
   rintro⟨_,x,a,cap,seg,rows,segR⟩ u ⟨rfl,hbR,⟨hx1,hx2⟩,hO,hR,hrowi⟩
   simp only at hbR hx1 hx2 hO hR hrowi
   dsimp only
   have hpl:(A3f n at_++A7d l x).length=(A3f n at_).length+(x-A6r l):=by simp [A7d]
   repeat refine st ?_
   refine A0t Z (fun h=>?_) (fun h=>?_)
   ·replace h:=fa h
    have hxn:x<n:=oM
    clear h
    repeat refine st ?_
    refine Q_op fun ho=>A0i [] _ ho bod143 Z Z Z Z Z A1n (clone_x (RowAt.le hrowi (A0b _ _)) oM) (fun x β' hR=>?_)
    clear ho
    obtain⟨ac,cc,rfl,hSc⟩:=hR
    repeat refine st ?_
    refine Q_op fun ho=>A3x tab ho Z Z Z Z Z Z Z Z Z (fun b4 c4 hL4=>?_)
    clear ho
    refine Q_op fun ho=>A2w tab (xs:=[natV x]) β' [(b4,c4,3)] seg ho Z Z Z Z Z Z Z Z Z Z cntA hSc
     (fun hb=>RowAt.own hb cntL hL4) Z Z (by show(2*(l.length+1)+768)*8≤2^48;omega) oM (fun seg2 a2 cap2 hS2=>?_)
    clear ho
    refine Q_op fun ho=>A3x tab ho Z Z Z Z Z Z Z Z Z (fun b5 c5 hL5=>?_)
    clear ho
    refine Q_op fun ho=>A2w tab (xs:=[.slice a2 (l.length+1) cap2]) seg [(b5,c5,27)] seg2 ho Z Z Z Z Z Z Z Z Z Z cntA hO
     (fun hb=>RowAt.own hb cntL hL5) Z Z (by show(2*((A3f n at_++A7d l x).length+1)+768)*24≤2^48;omega) oM (fun seg3 a3 cap3 hS3=>?_)
    clear ho
    refine A0w (β1:=seg2) (β2:=seg3) cntA (fun hb2=>?_)
    have hbn:Bok (seg2++segR) v:=bok_append.2 ⟨hbR,hb2⟩
    have hun:=A1m hbn
    rw [←hun]
    have hps:=B4p hx1
    have hpl2:(A3f n at_++A7d l (x+1)).length=(A3f n at_++A7d l x).length+1:=by rw [hps,←List.append_assoc,List.length_append];rfl
    repeat refine st ?_
    refine A0c ⟨⟨0,x+1,a3,cap3,seg3,rows++[.slice a2 (l.length+1) cap2],seg2++segR⟩,_,(show n-(x+1)<n-x by omega),⟨Z,?_,cntL⟩,Le.refl _,Z,hbn,⟨by simp only;omega,by simp only;omega⟩,?_,?_,?_⟩
    ·show SubR [_,_,_,(3,.slice a3 (A3f n at_++A7d l (x+1)).length cap3),_] _
     rw [hpl2]
     exact rg
    ·show OwnS 27 1 seg3 a3 (A3f n at_++A7d l (x+1)).length cap3 _
     rw [hpl2]
     exact hS3
    ·intro v' hb'
     obtain⟨k1,k2⟩:=bok_append.1 hb'
     rw [hps,←List.append_assoc]
     refine RowsOf.snoc ((hR v' k1).le ?_) sM ?_
     ·rw [A1m hb'];exact A0b _ _
     ·rw [A1m hb',List.map_append]
      exact RowAt.own k2 (fun _=>Nat.le_refl _) hS2
    ·show RowAt (v.union (A0e (seg2++segR))) ai (l.map natV)
     rw [hun]
     exact RowAt.le hrowi (A0b _ _)
   ·replace h:=fa h
    have hxn:x=n:=oM
    subst hxn
    clear h
    have e:A3f x at_++A7d l x=A3f x (at_+1):=by rw [hsucc];rfl
    rw [e]at hO hR⊢
    repeat refine st ?_
    exact A0c ⟨⟨at_+1,0,a,cap,seg,rows,segR⟩,_,(show(A2e x).length-(at_+1)<(A2e x).length-at_ by omega),⟨Z,rg,cntL⟩,Le.refl _,Z,hbR,made_le (hn:=hn) hlt',hO,hR⟩
  ·repeat refine st ?_
   refine A0t Z (fun h=>?_) (fun h=>?_)
   ·replace h:=fa h
    have hpos:0<l.length:=oM
    have hlast:l.length-1<l.length:=oM
    have hlx:=hln _ (List.getElem_mem hlast)
    obtain⟨b',off,p,c',e,f,rfl,hv,hc⟩:=hrowi.get hlast
    repeat refine st ?_
    refine A2t tab (l.length-1) Z Z Z Z oM Z Z hlast ?_
    refine A2p tab Z Z Z hv (A1b tab Z Z Z (by rw [Nat.mul_one];exact hc _ hlast)) ?_
    repeat refine st ?_
    exact A0c ⟨_,_,⟨Z,Z⟩,⟨Z,(by rw [low_last hpos];exact rg),cntL⟩,Le.refl _⟩
   ·replace h:=fa h
    have h0:l=[]:=List.length_eq_zero_iff.1 oM
    subst h0
    repeat refine st ?_
    exact A0c ⟨_,_,⟨Z,Z⟩,⟨Z,rg,cntL⟩,Le.refl _⟩
 ·replace h:=fa h
  have hge:¬at_<(A3f n at_).length:=oM
  have hE:=made_end hn hge
  rw [hE]at hO hR⊢
  repeat refine st ?_
  refine A0l tab (β':=seg++segR) (by exact .tmp rfl .nil) (Back.retired hbR (Back.here cntL)) ?_
  exact⟨a,cap,seg,segR,rows,Z,Z,hO,hR⟩
end
end Go.Proofs.YtiolobmgibdfmaaGreat
end
