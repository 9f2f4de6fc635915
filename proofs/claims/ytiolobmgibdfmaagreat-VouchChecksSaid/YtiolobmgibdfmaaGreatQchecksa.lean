/- Part 36. -/
import Derived.Test.YtiolobmgibdfmaaGreatPbc
import Derived.Test.YtiolobmgibdfmaaGreatPzd
set_option linter.all false
section
namespace Go.Proofs.YtiolobmgibdfmaaGreat
open Go Go.Pal Go.Proofs.Tryz
theorem bod22:A0n Tryz.prog 22:=⟨_,_,func22,Z,by decide⟩
theorem bod24:A0n Tryz.prog 24:=⟨_,_,func24,Z,by decide⟩
theorem bod32:A0n Tryz.prog 32:=⟨_,_,func32,Z,by decide⟩
theorem bod55:A0n Tryz.prog 55:=⟨_,_,func55,Z,by decide⟩
theorem bod65:A0n Tryz.prog 65:=⟨_,_,func65,Z,by decide⟩
theorem bod66:A0n Tryz.prog 66:=⟨_,_,func66,Z,by decide⟩
theorem bod67:A0n Tryz.prog 67:=⟨_,_,func67,Z,by decide⟩
theorem bod68:A0n Tryz.prog 68:=⟨_,_,func68,Z,by decide⟩
theorem bod69:A0n Tryz.prog 69:=⟨_,_,func69,Z,by decide⟩
theorem bod70:A0n Tryz.prog 70:=⟨_,_,func70,Z,by decide⟩
theorem bod97:A0n Tryz.prog 97:=⟨_,_,func97,Z,by decide⟩
theorem B4y:A0n Tryz.prog 111:=⟨_,_,func111,Z,by decide⟩
theorem bod119:A0n Tryz.prog 119:=⟨_,_,func119,Z,by decide⟩
theorem bod124:A0n Tryz.prog 124:=⟨_,_,func124,Z,by decide⟩
theorem bod125:A0n Tryz.prog 125:=⟨_,_,func125,Z,by decide⟩
theorem B4z:A0n Tryz.prog 127:=⟨_,_,func127,Z,by decide⟩
theorem bod128:A0n Tryz.prog 128:=⟨_,_,func128,Z,by decide⟩
end Go.Proofs.YtiolobmgibdfmaaGreat
end
section
namespace Go.Proofs.YtiolobmgibdfmaaGreat
open Go Go.Pal Go.Pal.Vo Go.Conc View
open Go.Proofs.Tryz
set_option maxHeartbeats 4000000
set_option maxRecDepth 20000
section
variable{mn:Who}{v:View}{P F:Nat}{a:Option Addr}{n cap:Nat}
theorem B5a{x lo hi:Int}:Ret1 prog mn 127 [.int .i64 x,.int .i64 lo,.int .i64 hi] (.bool (decide (lo≤x∧x≤hi))) v:=by
 refine A0f tab func127 Z nB (args:=[_,_,_]) ?_
 repeat (first|refine st ?_|refine qb fun bx=>?_)
 refine A6d Z Z (fun h=>?_) (fun h=>?_)
 ·replace h:=fa h
  repeat (first|refine st ?_|refine qb fun bx=>?_)
  refine A0l tab _ (by exact .tmp rfl .nil) (Back.here fun p=>Nat.le_refl _) ?_
  refine⟨?_,Z⟩
  show Value.bool (decide (x≤hi))=_
  congr 1
  rw [Bool.eq_iff_iff,decide_eq_true_eq,decide_eq_true_eq]
  omega
 ·replace h:=fa h
  repeat (first|refine st ?_|refine qb fun bx=>?_)
  refine A0l tab _ (by exact .tmp rfl .nil) (Back.here fun p=>Nat.le_refl _) ?_
  refine⟨?_,Z⟩
  show Value.bool false=_
  rw [decide_eq_false]
  omega
theorem isPerson_x{x:Int}(hP:P<2^30):Ret1 prog mn 111 [boV P F a n cap,.int .i64 x] (.bool (decide (0≤x∧x≤(P:Int)-1))) v:=by
 refine A0f tab func111 Z nB (args:=[_,_]) ?_
 repeat (first|refine st ?_|refine qb fun bx=>?_)
 refine Q_op fun ho=>A0s ho B4z Z Z Z Z Z B5a ?_
 clear ho
 repeat (first|refine st ?_|refine qb fun bx=>?_)
 refine A0l tab [] (by exact .tmp rfl .nil) (Back.here cntL) ?_
 exact⟨Z,Z⟩
theorem isFact_x{x:Int}(hF:F<2^30):Ret1 prog mn 97 [boV P F a n cap,.int .i64 x] (.bool (decide (0≤x∧x≤(F:Int)-1))) v:=by
 refine A0f tab func97 Z nB (args:=[_,_]) ?_
 repeat (first|refine st ?_|refine qb fun bx=>?_)
 refine Q_op fun ho=>A0s ho B4z Z Z Z Z Z B5a ?_
 clear ho
 repeat (first|refine st ?_|refine qb fun bx=>?_)
 refine A0l tab [] (by exact .tmp rfl .nil) (Back.here cntL) ?_
 exact⟨Z,Z⟩
end
section
variable{v:View}{wa:Option Addr}{wc:Nat}
theorem Check_x{mn:Who}{P F:Int}{ws:List Wd}(hws:WdsAt v wa ws)(hwl:ws.length<2^30):CallsB prog mn 67 #[boV P F wa ws.length wc] (RetB fun r β'=>r = .int .i64 (A2h P F ws)∧β'=[]) [] v:=by
 refine A3m tab A4x func67 Z nB (args:=[_]) ?_
 repeat (first|refine st ?_|refine qb fun bx=>?_)
 refine Q_op fun ho=>A6x Z ho Z Z ?_
 clear ho
 repeat (first|refine st ?_|refine qb fun bx=>?_)
 refine Q_op fun ho=>A6g ho bod126 Z Z Z Z (check_x (hws.le (A0b _ _)) hwl) (fun h=>?_) (fun h=>?_)
 ·refine pn ?_
  exact A2n tab Z ib dM sb (xs:=[_]) (by exact .cell rfl ib rfl .nil) (Back.here fun p=>Nat.zero_le _) ⟨Z,Z⟩
 clear ho
 repeat (first|refine st ?_|refine qb fun bx=>?_)
 exact A6e tab Z (xs:=[_]) (by exact .cell rfl ib rfl .nil) (Back.here fun p=>Nat.zero_le _) ⟨by rw [h];rfl,Z⟩
theorem CheckWord_x{mn:Who}{P F:Int}{ws:List Wd}{x:Wd}(hws:WdsAt v wa ws)(hwl:ws.length<2^30):CallsB prog mn 69 #[boV P F wa ws.length wc,wdV x] (RetB fun r β'=>r = .int .i64 (if A2h P F ws=0 then A2k P.toNat F.toNat x else A2h P F ws)∧β'=[]) [] v:=by
 refine A3m tab A4x func69 Z nB (args:=[_,_]) ?_
 repeat (first|refine st ?_|refine qb fun bx=>?_)
 refine Q_op fun ho=>A6x Z ho Z Z ?_
 clear ho
 repeat (first|refine st ?_|refine qb fun bx=>?_)
 refine Q_op fun ho=>A6g ho bod126 Z Z Z Z (check_x (hws.le (A0b _ _)) hwl) (fun h=>?_) (fun h=>?_)
 ·refine pn ?_
  exact A2n tab Z ib dM sb (xs:=[_]) (by exact .cell rfl ib rfl .nil) (Back.here fun p=>Nat.zero_le _) ⟨by rw [if_neg h];rfl,Z⟩
 clear ho
 rw [if_pos h]
 obtain⟨P,F,rfl,rfl,hv⟩:=A4w h
 have hp:=hv.p4
 have hf:=hv.f3
 repeat (first|refine st ?_|refine qb fun bx=>?_)
 refine Q_op fun ho=>A6g ho bod104 Z Z Z Z (B3t oM oM) (fun h=>?_) (fun h=>?_)
 ·refine pn ?_
  exact A2n tab Z ib dM sb (xs:=[_]) (by exact .cell rfl ib rfl .nil) (Back.here fun p=>Nat.zero_le _) ⟨Z,Z⟩
 clear ho
 repeat (first|refine st ?_|refine qb fun bx=>?_)
 exact A6e tab Z (xs:=[_]) (by exact .cell rfl ib rfl .nil) (Back.here fun p=>Nat.zero_le _) ⟨by simp only [Int.toNat_natCast];rw [h];rfl,Z⟩
end
section
variable{mn:Who}{v:View}
theorem word_eq{x:Wd}{K:Bool→View→Prop}{E:Value→View→Prop}(h:K true v):SemX prog (Op.equal 26 (wdV x) (wdV x)) K E v:=by
 have hs:prog.stoodInHeld 26=false:=by kernel_rfl
 rw [show wdV x = .agg #[.int .i64 x.who,.int .i64 x.kind,.int .i64 x.a,.int .i64 x.b]from rfl]
 show SemX prog (Op.equalIn (9998+1+1) 26 _ _) K E v
 unfold Op.equalIn
 rw [A0d,A1r tab (t:=26) rfl]
 simp only [A0d,A3v,hs,Bool.false_eq_true,if_false,List.forIn_toArray,List.forIn_cons,List.forIn_nil]
 have ht:∀y:Int,(y==y)=true:=fun y=>by simp
 rw [if_pos dM]
 simp only [A0d]
 refine B2b (x:=.int .i64 x.who) Z ?_
 refine B2b (x:=.int .i64 x.who) Z ?_
 refine i64_eq ?_
 rw [ht]
 simp only [Bool.not_true,Bool.false_eq_true,if_false,A0m,A0d]
 rw [if_pos dM]
 simp only [A0d]
 refine B2b (x:=.int .i64 x.kind) Z ?_
 refine B2b (x:=.int .i64 x.kind) Z ?_
 refine i64_eq ?_
 rw [ht]
 simp only [Bool.not_true,Bool.false_eq_true,if_false,A0m,A0d]
 rw [if_pos dM]
 simp only [A0d]
 refine B2b (x:=.int .i64 x.a) Z ?_
 refine B2b (x:=.int .i64 x.a) Z ?_
 refine i64_eq ?_
 rw [ht]
 simp only [Bool.not_true,Bool.false_eq_true,if_false,A0m,A0d]
 rw [if_pos dM]
 simp only [A0d]
 refine B2b (x:=.int .i64 x.b) Z ?_
 refine B2b (x:=.int .i64 x.b) Z ?_
 refine i64_eq ?_
 rw [ht]
 exact h
end
section
variable{mn:Who}{rd:Option Nat}{n:Nat}{Q:Exit→St→View→Prop}{ds:List Deferred}{ρ:Regs}{β:A0j}{v:View}{K:St→View→Prop}
 {ops:Array Oper}{i:Nat}{l:List Oper}{d:Nat}{ty:TypeId}{pos:String}{af:Array Edge}{gu:Option (Nat×Bool)}
theorem L_neqW{y z:Operand}{t2:TypeId}{x x':Wd}(hw:A0x ops gu ρ=some true)(hn:Nat.blt d n=true)(hy:ρ.val y=some (wdV x))(hz:ρ.val z=some (wdV x'))(hx:x=x')
  (h:XL prog mn n ops Q l ⟨ds,(d,.bool false)::ρ,β⟩ v):XL prog mn n ops Q (⟨some d,.binOp .neq 26 y z t2,ty,pos,af,gu⟩::l) ⟨ds,ρ,β⟩ v:=by
 subst hx
 replace hy:ρ.val y=some (.agg #[.int .i64 x.who,.int .i64 x.kind,.int .i64 x.a,.int .i64 x.b]):=hy
 replace hz:ρ.val z=some (.agg #[.int .i64 x.who,.int .i64 x.kind,.int .i64 x.a,.int .i64 x.b]):=hz
 refine A8u (o:=⟨some d,.binOp .neq 26 y z t2,ty,pos,af,gu⟩) (x:=.bool false) (A0p hw) hn (fun ev hev hbk w hle=>?_) h
 have hg:prog.eqGuardType prog.depth 26=false:=by kernel_rfl
 simp only [execOp,A0d,hev _ _ hy,hev _ _ hz,eqGuard,binOp,A3v,hg]
 simp only [Bool.not_true,Bool.false_eq_true,if_false,A0d]
 rw [A3v,A3v,hg]
 simp only [Bool.not_true,Bool.not_false,Bool.false_eq_true,if_false,if_true,A0m,A0d]
 refine word_eq (x:=x) ?_
 exact⟨Le.refl _,Z⟩
end
section
variable{mn:Who}{v:View}
theorem sameV_x{P F:Int}{a b:Option Addr}{c d:Nat}{ws:List Wd}(ha:WdsAt v a ws)(hb:WdsAt v b ws)(hwl:ws.length<2^30):Ret1 prog mn 32 [boV P F a ws.length c,boV P F b ws.length d] (.bool true) v:=by
 refine A0f tab func32 Z nB (args:=[_,_]) ?_
 repeat (first|refine st ?_|refine qb fun bx=>?_)
 rename_i bx3
 have e0:∀y:Int,(y != y)=false:=fun y=>by simp
 repeat (first|refine st ?_|refine qb fun bx=>?_)
 refine A6d Z Z (fun h=>?_) (fun h=>?_)
 ·rw [e0]at h;cases h
 repeat (first|refine st ?_|refine qb fun bx=>?_)
 refine A6d Z Z (fun h=>?_) (fun h=>?_)
 ·rw [e0]at h;cases h
 repeat (first|refine st ?_|refine qb fun bx=>?_)
 refine A0t Z (fun h=>?_) (fun h=>?_)
 ·rw [e0]at h;cases h
 repeat (first|refine st ?_|refine qb fun bx=>?_)
 refine A1o (α:=Nat) (fun i=>⟨[],[(5,.int .i64 i),(2,.pointer (some ⟨bx3,0,none⟩)),(3,.pointer (some ⟨bx,0,none⟩))],[(bx3,(boV P F a ws.length c).cells,24),(bx,(boV P F b ws.length d).cells,24)]⟩)
  (fun i u=>u=v∧i≤ws.length) (fun i=>ws.length-i) 0 ⟨Z,rg,cntL⟩ (Le.refl _) ⟨Z,Nat.zero_le _⟩ ?_
 rintro i u ⟨rfl,hi⟩
 repeat (first|refine st ?_|refine qb fun bx=>?_)
 refine A0t Z (fun h=>?_) (fun h=>?_)
 ·replace h:=fa h
  have hlt:i<ws.length:=oM
  obtain⟨b1,o1,p1,k1,e1,f1,rfl,hv1,hc1⟩:=ha.get hlt
  obtain⟨b2,o2,p2,k2,e2,f2,rfl,hv2,hc2⟩:=hb.get hlt
  repeat (first|refine st ?_|refine qb fun bx=>?_)
  refine A2i tab i Z Z Z Z Z Z Z hlt ?_
  refine A9d tab Z Z Z hv1 (A2d tab Z Z Z (hc1 i hlt)) ?_
  repeat (first|refine st ?_|refine qb fun bx=>?_)
  refine A2i tab i Z Z Z Z Z Z Z hlt ?_
  refine A9d tab Z Z Z hv2 (A2d tab Z Z Z (hc2 i hlt)) ?_
  repeat (first|refine st ?_|refine qb fun bx=>?_)
  refine L_neqW (x:=ws[i]) (x':=ws[i]) Z Z Z Z Z ?_
  repeat (first|refine st ?_|refine qb fun bx=>?_)
  refine A0c ⟨i+1,_,(by have:=hlt;omega),⟨Z,rg,cntL⟩,Le.refl _,Z,hlt⟩
 ·repeat (first|refine st ?_|refine qb fun bx=>?_)
  refine A0l tab [] (by exact .tmp rfl .nil) (Back.here cntL) ?_
  exact⟨Z,Z⟩
end
def A7e(l:List Nat):List Int:=List.map (fun n:Nat=>(n:Int)) l
def WRows(v:View)(cs:List Value)(W:List Wl):Prop:=cs.length=W.length*2∧∀(i:Nat) (h:i<W.length),∃a1 c1 a2 c2,cs[i*2]?=some (.slice a1 (lst W[i].1).length c1)∧cs[i*2+1]?=some (.slice a2 (lst W[i].2).length c2)∧
 RowAt v a1 ((lst W[i].1).map natV)∧RowAt v a2 ((lst W[i].2).map natV)
theorem WRows.le{u v:View}{cs:List Value}{W:List Wl}(h:WRows u cs W)(hl:u.Le v):WRows v cs W:=⟨h.1,fun i hi=>by
 obtain⟨a1,c1,a2,c2,h1,h2,h3,h4⟩:=h.2 i hi
 exact⟨a1,c1,a2,c2,h1,h2,RowAt.le h3 hl,RowAt.le h4 hl⟩⟩
theorem WRows.snoc{v:View}{cs:List Value}{W:List Wl}{w:Wl}{a1 a2:Option Addr}{n1 n2 c1 c2:Nat}(h:WRows v cs W)(hn1:n1=(lst w.1).length)(hn2:n2=(lst w.2).length)(h1:RowAt v a1 ((lst w.1).map natV))(h2:RowAt v a2 ((lst w.2).map natV)) :
  WRows v (cs++[.slice a1 n1 c1,.slice a2 n2 c2]) (W++[w]):=by
 subst hn1
 subst hn2
 have hl:=h.1
 refine⟨by rw [List.length_append,List.length_append,hl,Nat.add_mul];rfl,fun i hi=>?_⟩
 by_cases e:i<W.length
 ·have e1:(W++[w])[i]=W[i]:=by rw [List.getElem_append_left e]
  rw [e1]
  obtain⟨b1,d1,b2,d2,k1,k2,k3,k4⟩:=h.2 i e
  exact⟨b1,d1,b2,d2,by rw [List.getElem?_append_left oM];exact k1,by rw [List.getElem?_append_left oM];exact k2,k3,k4⟩
 ·have hi':i=W.length:=by simp at hi;omega
  subst hi'
  have e1:(W++[w])[W.length]=w:=by simp
  rw [e1]
  refine⟨a1,c1,a2,c2,?_,?_,h1,h2⟩
  ·rw [List.getElem?_append_right oM,hl];simp
  ·rw [List.getElem?_append_right oM,hl,show W.length*2+1-W.length*2=1 by omega];rfl
def OwnWs2(β:A0j)(a:Option Addr)(n cap:Nat)(W:List Wl):Prop:=∃segO segR cs,β=segO++segR∧n=W.length∧OwnS 38 2 segO a W.length cap cs∧∀v,Bok segR v→WRows (v.union (A0e segR)) cs W
structure WS where
 i:Nat
 a:Option Addr
 cap:Nat
 seg:A0j
 cs:List Value
 segR:A0j
section
variable{mn:Who}{v:View}
theorem lst_mem{g p:Nat}(hp:p<8):p∈lst g↔bit g p=true:=by
 unfold lst
 rw [List.mem_filter,List.mem_range]
 exact⟨fun h=>h.2,fun h=>⟨hp,h⟩⟩
theorem lst_len8(g:Nat):(lst g).length≤8:=by
 have:=List.length_filter_le (bit g) (List.range 8)
 rwa [List.length_range]at this
theorem WRows.at{a:Option Addr}{cs:List Value}{W:List Wl}(hrow:RowAt v a cs)(hW:WRows v cs W){i:Nat}(hi:i<W.length):∃b off p c e f,a=some ⟨b,off,none⟩∧v b=some (p,.cells c e f)∧
  ∀(j:Nat) (hj:j<W.length),∃a1 c1 a2 c2,c[off+j*2]?=some (.slice a1 (lst W[j].1).length c1)∧c[off+j*2+1]?=some (.slice a2 (lst W[j].2).length c2)∧RowAt v a1 ((lst W[j].1).map natV)∧RowAt v a2 ((lst W[j].2).map natV):=by
 obtain⟨h1,h2⟩:=hW
 rcases hrow with h|⟨b,off,p,c,e,f,k1,k2,k3,k4⟩
 ·rw [h]at h1;simp at h1;omega
 ·refine⟨b,off,p,c,e,f,k1,k2,fun j hj=>?_⟩
  obtain⟨a1,c1,a2,c2,m1,m2,m3,m4⟩:=h2 j hj
  exact⟨a1,c1,a2,c2,k4 _ _ m1,by rw [Nat.add_assoc];exact k4 _ _ m2,m3,m4⟩
theorem OwnWs2.row{β:A0j}{a:Option Addr}{n cap:Nat}{W:List Wl}(h:OwnWs2 β a n cap W)(hb:Bok β v):n=W.length∧∃cs,RowAt (v.union (A0e β)) a cs∧WRows (v.union (A0e β)) cs W:=by
 obtain⟨segO,segR,cs,rfl,hn,hO,hW⟩:=h
 refine⟨hn,cs,RowAt.own hb (show Subm segO (segO++segR)from cntL) hO,(hW v (bok_append.1 hb).1).le ?_⟩
 rw [A1m hb]
 exact A0b _ _
end
theorem VOk.snoc{P F:Nat}{ws:List Wd}{x:Wd}(h:VOk P F ws)(hl:ws.length<8)(hx:A2k P F x=0):VOk P F (ws++[x]):=⟨h.p1,h.p4,h.f3,by rw [List.length_append];exact hl,fun y hy=>by
 rcases List.mem_append.1 hy with hy|hy
 ·exact h.all y hy
 ·rw [List.mem_singleton.1 hy];exact hx⟩
theorem RowsOf.append{v:View}{r1 r2:List Value}{l1 l2:List (List Nat)}(h1:RowsOf v r1 l1)(h2:RowsOf v r2 l2):RowsOf v (r1++r2) (l1++l2):=by
 refine⟨by rw [List.length_append,List.length_append,h1.1,h2.1],fun i hi=>?_⟩
 by_cases e:i<l1.length
 ·have e1:(l1++l2)[i]=l1[i]:=by rw [List.getElem_append_left e]
  rw [e1]
  obtain⟨a,c,k1,k2⟩:=h1.2 i e
  exact⟨a,c,by rw [List.getElem?_append_left (by rw [h1.1];exact e)];exact k1,k2⟩
 ·have hl:i-l1.length<l2.length:=by rw [List.length_append]at hi;omega
  have e1:(l1++l2)[i]=l2[i-l1.length]:=by rw [List.getElem_append_right oM]
  rw [e1]
  obtain⟨a,c,k1,k2⟩:=h2.2 _ hl
  exact⟨a,c,by rw [List.getElem?_append_right (by rw [h1.1];omega),h1.1];exact k1,k2⟩
section
variable{P:Nat}{u a b:Int}{w:Wl}
theorem hs0:A4h P ⟨u,0,a,b⟩ w=bit w.2 a.toNat:=by simp [A4h]
theorem hs1:A4h P ⟨u,1,a,b⟩ w=!bit w.2 a.toNat:=by simp [A4h]
theorem hs2:A4h P ⟨u,2,a,b⟩ w=!bit w.1 a.toNat:=by simp [A4h]
theorem hs3:A4h P ⟨u,3,a,b⟩ w=bit w.1 a.toNat:=by simp [A4h]
theorem hs4:A4h P ⟨u,4,a,b⟩ w=(!bit w.2 a.toNat||bit w.2 b.toNat):=by simp [A4h]
theorem hs5:A4h P ⟨u,5,a,b⟩ w=(bit w.1 a.toNat==bit w.1 b.toNat):=by simp [A4h]
theorem hs6:A4h P ⟨u,6,a,b⟩ w=decide ((P:Int)-cnt w.1≥a):=by simp [A4h]
end
theorem wordE_inv{P F:Nat}{w k x y:Int}(h:A2k P F ⟨w,k,x,y⟩=0):(k=0∧0≤x∧x≤(F:Int)-1)∨(k=1∧0≤x∧x≤(F:Int)-1)∨(k=2∧0≤x∧x≤(P:Int)-1)∨(k=3∧0≤x∧x≤(P:Int)-1)∨
  (k=4∧0≤x∧x≤(F:Int)-1∧0≤y∧y≤(F:Int)-1)∨(k=5∧0≤x∧x≤(P:Int)-1∧0≤y∧y≤(P:Int)-1)∨(k=6∧0≤x∧x≤(P:Int)):=by
 unfold A2k at h
 dsimp only at h
 (repeat' split at h)<;>omega
structure TF where
 i:Nat
 a:Option Addr
 c:Nat
 seg:A0j
section
variable{mn:Who}{rd:Option Nat}{n:Nat}{Q:Exit→St→View→Prop}{ds:List Deferred}{ρ:Regs}{β:A0j}{v:View}
 {ops:Array Oper}{i:Nat}{l:List Oper}{d:Nat}{ty:TypeId}{pos:String}{af:Array Edge}{gu:Option (Nat×Bool)}
theorem rt0{fn:Func}{R:Pal.End→A0j→Prop}{x:Value}(h2:R (.ret x) [])(h1:ResL tab ρ β fn.results.toList [x]:=by exact .tmp rfl .nil):FnB tab fn R v .ret ⟨[],ρ,β⟩ v:=A0l tab [] h1 (Back.here fun p=>Nat.zero_le _) h2
theorem q1{f:Operand}{args:Array Operand}{ats:Array TypeId}{k:FuncId}{first captured:Array Value}{xs ys:List Value}{x:Value}(hk:A0n prog k)(hw:A0x ops gu ρ=some true)(hn:Nat.blt d n=true)(hf:ρ.val f=some (.func (.func k) first captured))(hxs:A3q ρ.val args.toList=some xs)
  (hys:first.toList++(xs++captured.toList)=ys)(hc:Ret1 prog mn k ys x v)(h:XR prog mn rd n ops (i+1) l Q ⟨ds,(d,x)::ρ,β⟩ v):XR prog mn rd n ops i (⟨some d,.call {callee:=.value f,args:=args,argTypes:=ats },ty,pos,af,gu⟩::l) Q ⟨ds,ρ,β⟩ v:=Q_op fun ho=>A0s ho hk hw hn hf hxs hys hc h
end
section
variable{mn:Who}{v:View}
theorem has_r{l:List Nat}{a:Option Addr}{cap p:Nat}(hrow:RowAt v a (l.map natV))(hlen:l.length<2^30):Ret1 prog mn 93 [.slice a l.length cap,.int .i64 p] (.bool (decide (p∈l))) v:=by
 refine A0f tab func93 Z nB (args:=[_,_]) ?_
 repeat (first|refine st ?_|refine qb fun bx=>?_)
 refine A1o (α:=Nat) (fun i=>⟨[],[(5,.int .i64 i),(0,.slice a l.length cap),(1,.int .i64 p)],[]⟩)
  (fun i u=>v=u∧i≤l.length∧decide (p∈l)=decide (p∈l.drop i)) (fun i=>l.length-i) 0 ⟨Z,rg,cntL⟩ (Le.refl _) ⟨Z,Nat.zero_le _,Z⟩ ?_
 rintro i u ⟨rfl,hi,hE⟩
 repeat (first|refine st ?_|refine qb fun bx=>?_)
 refine A0t Z (fun h=>?_) (fun h=>?_)
 ·have hlt:i<l.length:=by have:=of_decide_eq_true h;omega
  clear h
  obtain⟨b,off,q,c,e,f,rfl,hv,hc⟩:=hrow.get hlt
  rw [List.drop_eq_getElem_cons hlt]at hE
  repeat (first|refine st ?_|refine qb fun bx=>?_)
  refine A2t tab i Z Z Z Z Z Z Z hlt ?_
  refine A2p tab Z Z Z hv (A1b tab Z Z Z (by rw [Nat.mul_one];exact hc _ hlt)) ?_
  repeat (first|refine st ?_|refine qb fun bx=>?_)
  refine A0t Z (fun h=>?_) (fun h=>?_)
  ·have he:p=l[i]:=by have:=eq_of_beq h;omega
   clear h
   repeat (first|refine st ?_|refine qb fun bx=>?_)
   refine rt0 ?_
   rw [hE,decide_eq_true (by rw [he];exact List.mem_cons_self ..)]
   exact⟨Z,Z⟩
  ·have he:p≠l[i]:=by have:=beq_eq_false_iff_ne.1 h;omega
   clear h
   repeat (first|refine st ?_|refine qb fun bx=>?_)
   refine A0c ⟨i+1,v,oM,⟨Z,rg,cntL⟩,Le.refl _,Z,hlt,?_⟩
   rw [hE]
   simp only [List.mem_cons,he,false_or]
 ·have hin:i=l.length:=by have:=of_decide_eq_false h;omega
  clear h
  subst hin
  rw [List.drop_length]at hE
  repeat (first|refine st ?_|refine qb fun bx=>?_)
  refine rt0 ?_
  rw [hE];exact⟨Z,Z⟩
theorem B5b{g:Nat}{a:Option Addr}{cap p:Nat}(hrow:RowAt v a ((lst g).map natV))(hp:p<8):Ret1 prog mn 93 [.slice a (lst g).length cap,.int .i64 p] (.bool (bit g p)) v:=by
 have h:=has_r (mn:=mn) (cap:=cap) (p:=p) hrow (Nat.lt_of_le_of_lt (lst_len8 g) dM)
 rwa [show decide (p∈lst g)=bit g p from by rw [Bool.eq_iff_iff,decide_eq_true_eq];exact lst_mem hp]at h
theorem so_r{P F n cap t s:Nat}{a a1 a2:Option Addr}{c1 c2:Nat}{x:Wd}(hP:P≤4)(hF:F≤3)(hx:A2k P F x=0)(h1:RowAt v a1 ((lst t).map natV))(h2:RowAt v a2 ((lst s).map natV)) :
  Ret1 prog mn 119 [boV P F a n cap,.agg #[.slice a1 (lst t).length c1,.slice a2 (lst s).length c2],wdV x] (.bool (A4h P x (t,s))) v:=by
 obtain⟨w,k,x,y⟩:=x
 have hl1:=lst_len8 t
 refine A0f tab func119 Z nB (args:=[_,_,_]) ?_
 repeat (first|refine st ?_|refine qb fun bx=>?_)
 rcases wordE_inv hx with ⟨rfl,k1,k2⟩|⟨rfl,k1,k2⟩|⟨rfl,k1,k2⟩|⟨rfl,k1,k2⟩|⟨rfl,k1,k2,k3,k4⟩|⟨rfl,k1,k2,k3,k4⟩|⟨rfl,k1,k2⟩
 ·obtain⟨x,rfl⟩:=Int.eq_ofNat_of_zero_le k1
  rw [hs0,Int.toNat_natCast]
  repeat refine st ?_
  refine q1 bod93 Z Z Z Z Z (B5b h2 oM) ?_
  repeat refine st ?_
  refine rt0 ?_
  exact⟨Z,Z⟩
 ·obtain⟨x,rfl⟩:=Int.eq_ofNat_of_zero_le k1
  rw [hs1,Int.toNat_natCast]
  repeat refine st ?_
  refine q1 bod93 Z Z Z Z Z (B5b h2 oM) ?_
  repeat refine st ?_
  refine rt0 ?_
  exact⟨Z,Z⟩
 ·obtain⟨x,rfl⟩:=Int.eq_ofNat_of_zero_le k1
  rw [hs2,Int.toNat_natCast]
  repeat refine st ?_
  refine q1 bod93 Z Z Z Z Z (B5b h1 oM) ?_
  repeat refine st ?_
  refine rt0 ?_
  exact⟨Z,Z⟩
 ·obtain⟨x,rfl⟩:=Int.eq_ofNat_of_zero_le k1
  rw [hs3,Int.toNat_natCast]
  repeat refine st ?_
  refine q1 bod93 Z Z Z Z Z (B5b h1 oM) ?_
  repeat refine st ?_
  refine rt0 ?_
  exact⟨Z,Z⟩
 ·obtain⟨x,rfl⟩:=Int.eq_ofNat_of_zero_le k1
  obtain⟨y,rfl⟩:=Int.eq_ofNat_of_zero_le k3
  rw [hs4,Int.toNat_natCast,Int.toNat_natCast]
  repeat refine st ?_
  refine q1 bod93 Z Z Z Z Z (B5b h2 oM) ?_
  cases hb:bit s x with
  | true=>
   repeat refine st ?_
   refine q1 bod93 Z Z Z Z Z (B5b h2 oM) ?_
   repeat refine st ?_
   refine rt0 ?_
   exact⟨Z,Z⟩
  | false=>
   repeat refine st ?_
   refine rt0 ?_
   exact⟨Z,Z⟩
 ·obtain⟨x,rfl⟩:=Int.eq_ofNat_of_zero_le k1
  obtain⟨y,rfl⟩:=Int.eq_ofNat_of_zero_le k3
  rw [hs5,Int.toNat_natCast,Int.toNat_natCast]
  repeat refine st ?_
  refine lexL A1w Z kR ?_
  repeat refine st ?_
  refine A3r bod93 Z Z Z Z Z (B5b h1 oM) ?_
  repeat refine st ?_
  refine A3r bod93 Z Z Z Z Z (B5b h1 oM) ?_
  repeat refine st ?_
  refine rt0 ?_
  exact⟨Z,Z⟩
 ·obtain⟨x,rfl⟩:=Int.eq_ofNat_of_zero_le k1
  rw [hs6]
  repeat refine st ?_
  refine rt0 ?_
  refine⟨congrArg Value.bool ?_,Z⟩
  rw [Bool.eq_iff_iff,decide_eq_true_eq,decide_eq_true_eq]
  unfold Go.Pal.Vo.cnt
  dsimp only
  exact Iff.rfl
end
section
variable{mn:Who}{v:View}
theorem rV{a b:Int}(h:a=b):Value.int .i64 a = .int .i64 b∧([]:A0j)=[]:=⟨by rw [h],Z⟩
theorem B5c{P F:Nat}{x:Wd}{a:Option Addr}{n cap:Nat}(hP:P<2^30)(hF:F<2^30):Ret1 prog mn 128 [boV P F a n cap,wdV x] (.int .i64 (A2k P F x)) v:=by
 have pP:∀{y:Int} {k:Bool},decide (0≤y∧y≤(P:Int)-1)=k→Ret1 prog mn 111 [boV P F a n cap,.int .i64 y] (.bool k) v:=fun h=>h ▸ isPerson_x hP
 have pF:∀{y:Int} {k:Bool},decide (0≤y∧y≤(F:Int)-1)=k→Ret1 prog mn 97 [boV P F a n cap,.int .i64 y] (.bool k) v:=fun h=>h ▸ isFact_x hF
 obtain⟨w,k,xa,xb⟩:=x
 refine A0f tab func128 Z nB (args:=[_,_]) ?_
 repeat (first|refine st ?_|refine qb fun bx=>?_)
 by_cases hw:0≤w∧w≤(P:Int)-1
 rotate_left
 ·refine q1 B4y Z Z Z Z Z (pP (decide_eq_false hw)) ?_
  repeat refine st ?_
  refine rt0 ?_
  exact⟨congrArg (Value.int .i64) (by unfold A2k;dsimp only;rw [if_pos hw]),Z⟩
 refine q1 B4y Z Z Z Z Z (pP (decide_eq_true hw)) ?_
 repeat refine st ?_
 have hk:k=0∨k=1∨k=2∨k=3∨k=4∨k=5∨k=6∨(k<0∨6<k):=oM
 rcases hk with rfl|rfl|rfl|rfl|rfl|rfl|rfl|hk
 ·repeat refine st ?_
  by_cases ha:0≤xa∧xa≤(F:Int)-1
  rotate_left
  ·refine q1 bod97 Z Z Z Z Z (pF (decide_eq_false ha)) ?_
   repeat refine st ?_
   refine rt0 ?_
   exact rV (by unfold A2k;dsimp only;(repeat' split)<;>omega)
  refine q1 bod97 Z Z Z Z Z (pF (decide_eq_true ha)) ?_
  repeat refine st ?_
  refine A0t Z (fun h=>?_) (fun h=>?_)
  ·have hlt:xb≠0:=bne_iff_ne.1 h
   repeat refine st ?_
   refine rt0 ?_
   exact rV (by unfold A2k;dsimp only;(repeat' split)<;>omega)
  ·have hlt:xb=0:=by simpa using h
   repeat refine st ?_
   refine rt0 ?_
   exact rV (by unfold A2k;dsimp only;(repeat' split)<;>omega)
 ·repeat refine st ?_
  by_cases ha:0≤xa∧xa≤(F:Int)-1
  rotate_left
  ·refine q1 bod97 Z Z Z Z Z (pF (decide_eq_false ha)) ?_
   repeat refine st ?_
   refine rt0 ?_
   exact rV (by unfold A2k;dsimp only;(repeat' split)<;>omega)
  refine q1 bod97 Z Z Z Z Z (pF (decide_eq_true ha)) ?_
  repeat refine st ?_
  refine A0t Z (fun h=>?_) (fun h=>?_)
  ·have hlt:xb≠0:=bne_iff_ne.1 h
   repeat refine st ?_
   refine rt0 ?_
   exact rV (by unfold A2k;dsimp only;(repeat' split)<;>omega)
  ·have hlt:xb=0:=by simpa using h
   repeat refine st ?_
   refine rt0 ?_
   exact rV (by unfold A2k;dsimp only;(repeat' split)<;>omega)
 ·repeat refine st ?_
  by_cases ha:0≤xa∧xa≤(P:Int)-1
  rotate_left
  ·refine q1 B4y Z Z Z Z Z (pP (decide_eq_false ha)) ?_
   repeat refine st ?_
   refine rt0 ?_
   exact rV (by unfold A2k;dsimp only;(repeat' split)<;>omega)
  refine q1 B4y Z Z Z Z Z (pP (decide_eq_true ha)) ?_
  repeat refine st ?_
  refine A0t Z (fun h=>?_) (fun h=>?_)
  ·have hlt:xb≠0:=bne_iff_ne.1 h
   repeat refine st ?_
   refine rt0 ?_
   exact rV (by unfold A2k;dsimp only;(repeat' split)<;>omega)
  ·have hlt:xb=0:=by simpa using h
   repeat refine st ?_
   refine rt0 ?_
   exact rV (by unfold A2k;dsimp only;(repeat' split)<;>omega)
 ·repeat refine st ?_
  by_cases ha:0≤xa∧xa≤(P:Int)-1
  rotate_left
  ·refine q1 B4y Z Z Z Z Z (pP (decide_eq_false ha)) ?_
   repeat refine st ?_
   refine rt0 ?_
   exact rV (by unfold A2k;dsimp only;(repeat' split)<;>omega)
  refine q1 B4y Z Z Z Z Z (pP (decide_eq_true ha)) ?_
  repeat refine st ?_
  refine A0t Z (fun h=>?_) (fun h=>?_)
  ·have hlt:xb≠0:=bne_iff_ne.1 h
   repeat refine st ?_
   refine rt0 ?_
   exact rV (by unfold A2k;dsimp only;(repeat' split)<;>omega)
  ·have hlt:xb=0:=by simpa using h
   repeat refine st ?_
   refine rt0 ?_
   exact rV (by unfold A2k;dsimp only;(repeat' split)<;>omega)
 ·repeat refine st ?_
  by_cases ha:0≤xa∧xa≤(F:Int)-1
  rotate_left
  ·refine q1 bod97 Z Z Z Z Z (pF (decide_eq_false ha)) ?_
   repeat refine st ?_
   refine rt0 ?_
   exact rV (by unfold A2k;dsimp only;(repeat' split)<;>omega)
  refine q1 bod97 Z Z Z Z Z (pF (decide_eq_true ha)) ?_
  repeat refine st ?_
  by_cases hb:0≤xb∧xb≤(F:Int)-1
  rotate_left
  ·refine q1 bod97 Z Z Z Z Z (pF (decide_eq_false hb)) ?_
   repeat refine st ?_
   refine rt0 ?_
   exact rV (by unfold A2k;dsimp only;(repeat' split)<;>omega)
  refine q1 bod97 Z Z Z Z Z (pF (decide_eq_true hb)) ?_
  repeat refine st ?_
  refine rt0 ?_
  exact rV (by unfold A2k;dsimp only;(repeat' split)<;>omega)
 ·repeat refine st ?_
  by_cases ha:0≤xa∧xa≤(P:Int)-1
  rotate_left
  ·refine q1 B4y Z Z Z Z Z (pP (decide_eq_false ha)) ?_
   repeat refine st ?_
   refine rt0 ?_
   exact rV (by unfold A2k;dsimp only;(repeat' split)<;>omega)
  refine q1 B4y Z Z Z Z Z (pP (decide_eq_true ha)) ?_
  repeat refine st ?_
  by_cases hb:0≤xb∧xb≤(P:Int)-1
  rotate_left
  ·refine q1 B4y Z Z Z Z Z (pP (decide_eq_false hb)) ?_
   repeat refine st ?_
   refine rt0 ?_
   exact rV (by unfold A2k;dsimp only;(repeat' split)<;>omega)
  refine q1 B4y Z Z Z Z Z (pP (decide_eq_true hb)) ?_
  repeat refine st ?_
  refine A0t Z (fun h=>?_) (fun h=>?_)
  ·have hlt:xa≥xb:=of_decide_eq_true h
   repeat refine st ?_
   refine rt0 ?_
   exact rV (by unfold A2k;dsimp only;(repeat' split)<;>omega)
  ·have hlt:¬xa≥xb:=of_decide_eq_false h
   repeat refine st ?_
   refine rt0 ?_
   exact rV (by unfold A2k;dsimp only;(repeat' split)<;>omega)
 ·repeat refine st ?_
  refine q1 B4z Z Z Z Z Z B5a ?_
  by_cases ha:0≤xa∧xa≤(P:Int)
  rotate_left
  ·rw [decide_eq_false ha]
   repeat refine st ?_
   refine rt0 ?_
   exact rV (by unfold A2k;dsimp only;(repeat' split)<;>omega)
  rw [decide_eq_true ha]
  repeat refine st ?_
  refine A0t Z (fun h=>?_) (fun h=>?_)
  ·have hlt:xb≠0:=bne_iff_ne.1 h
   repeat refine st ?_
   refine rt0 ?_
   exact rV (by unfold A2k;dsimp only;(repeat' split)<;>omega)
  ·have hlt:xb=0:=by simpa using h
   repeat refine st ?_
   refine rt0 ?_
   exact rV (by unfold A2k;dsimp only;(repeat' split)<;>omega)
 ·repeat refine st ?_
  refine A0t Z (fun h=>?_) (fun h=>?_)
  ·exfalso
   have:k=4:=eq_of_beq h
   omega
  clear h
  repeat refine st ?_
  refine A0t Z (fun h=>?_) (fun h=>?_)
  ·exfalso
   have:k=5:=eq_of_beq h
   omega
  clear h
  repeat refine st ?_
  refine A0t Z (fun h=>?_) (fun h=>?_)
  ·exfalso
   have:k=0:=eq_of_beq h
   omega
  clear h
  repeat refine st ?_
  refine A0t Z (fun h=>?_) (fun h=>?_)
  ·exfalso
   have:k=1:=eq_of_beq h
   omega
  clear h
  repeat refine st ?_
  refine A0t Z (fun h=>?_) (fun h=>?_)
  ·exfalso
   have:k=2:=eq_of_beq h
   omega
  clear h
  repeat refine st ?_
  refine A0t Z (fun h=>?_) (fun h=>?_)
  ·exfalso
   have:k=3:=eq_of_beq h
   omega
  clear h
  repeat refine st ?_
  refine A0t Z (fun h=>?_) (fun h=>?_)
  ·exfalso
   have:k=6:=eq_of_beq h
   omega
  clear h
  repeat refine st ?_
  refine rt0 ?_
  exact rV (by unfold A2k;dsimp only;(repeat' split)<;>omega)
end
section
variable{mn:Who}{v:View}
theorem CheckR_x{P F:Int}{ws:List Wd}{wa:Option Addr}{wc:Nat}(hws:WdsAt v wa ws)(hwl:ws.length<2^30):Ret1 prog mn 68 [boV P F wa ws.length wc] (.int .i64 (A2h P F ws)) v:=by
 refine A0f tab func68 Z nB (args:=[_]) ?_
 repeat (first|refine st ?_|refine qb fun bx=>?_)
 refine q1 B4z Z Z Z Z Z B5a ?_
 by_cases hp:1≤P∧P≤4
 rotate_left
 ·rw [decide_eq_false hp]
  repeat refine st ?_
  refine rt0 ?_
  exact⟨congrArg (Value.int .i64) (by unfold A2h;rw [if_pos hp]),Z⟩
 rw [decide_eq_true hp]
 repeat refine st ?_
 refine q1 B4z Z Z Z Z Z B5a ?_
 by_cases hf:0≤F∧F≤3
 rotate_left
 ·rw [decide_eq_false hf]
  repeat refine st ?_
  refine rt0 ?_
  exact⟨congrArg (Value.int .i64) (by unfold A2h;rw [if_neg (not_not_intro hp),if_pos hf]),Z⟩
 rw [decide_eq_true hf]
 repeat refine st ?_
 refine A0t Z (fun h=>?_) (fun h=>?_)
 ·have hl:¬ws.length≤8:=by have:=of_decide_eq_true h;omega
  clear h
  repeat refine st ?_
  refine rt0 ?_
  exact⟨congrArg (Value.int .i64) (by unfold A2h;rw [if_neg (not_not_intro hp),if_neg (not_not_intro hf),if_pos hl]),Z⟩
 have hl:ws.length≤8:=by have:=of_decide_eq_false h;omega
 clear h
 have hE:A2h P F ws=A8y P.toNat F.toNat ws:=by unfold A2h;rw [if_neg (not_not_intro hp),if_neg (not_not_intro hf),if_neg (not_not_intro hl)]
 rw [hE]
 obtain⟨Pn,rfl⟩:=Int.eq_ofNat_of_zero_le (show 0≤P by omega)
 obtain⟨Fn,rfl⟩:=Int.eq_ofNat_of_zero_le hf.1
 clear hE
 simp only [Int.toNat_natCast]
 repeat refine st ?_
 obtain⟨b1,rfl⟩:∃b:Nat,b=bx:=⟨bx,rfl⟩
 refine A1o (α:=Nat) (fun i=>⟨[],[(3,.int .i64 i),(1,.pointer (some ⟨b1,0,none⟩))],[(b1,(boV Pn Fn wa ws.length wc).cells,24)]⟩)
  (fun i u=>v=u∧i≤ws.length∧A8y Pn Fn ws=A8y Pn Fn (ws.drop i)) (fun i=>ws.length-i) 0 ⟨Z,rg,cntL⟩ (Le.refl _) ⟨Z,Nat.zero_le _,Z⟩ ?_
 rintro i u ⟨rfl,hi,hE⟩
 repeat refine st ?_
 refine A0t Z (fun h=>?_) (fun h=>?_)
 ·have hlt:i<ws.length:=by have:=of_decide_eq_true h;omega
  clear h
  obtain⟨bb,off,p,c,e,f,rfl,hv,hc⟩:=hws.get hlt
  rw [List.drop_eq_getElem_cons hlt,A8y]at hE
  repeat refine st ?_
  refine lexL A1w Z kR ?_
  repeat refine st ?_
  refine A2i tab i Z Z Z Z Z Z Z hlt ?_
  refine A9d tab Z Z Z hv (A2d tab Z Z Z (hc i hlt)) ?_
  repeat refine st ?_
  refine A3r bod128 Z Z Z Z Z (B5c oM oM) ?_
  repeat refine st ?_
  refine A0t Z (fun h=>?_) (fun h=>?_)
  ·have h0:A2k Pn Fn ws[i]≠0:=bne_iff_ne.1 h
   clear h
   rw [if_neg h0]at hE
   repeat refine st ?_
   refine rt0 ?_
   exact⟨congrArg (Value.int .i64) hE.symm,Z⟩
  ·have h0:A2k Pn Fn ws[i]=0:=by simpa using h
   clear h
   rw [if_pos h0]at hE
   repeat refine st ?_
   exact A0c ⟨i+1,v,oM,⟨Z,rg,cntL⟩,Le.refl _,Z,hlt,hE⟩
 ·have hin:i=ws.length:=by have:=of_decide_eq_false h;omega
  clear h
  subst hin
  rw [List.drop_length]at hE
  repeat refine st ?_
  refine rt0 ?_
  exact⟨congrArg (Value.int .i64) hE.symm,Z⟩
theorem CheckWordR_x{P F:Int}{ws:List Wd}{x:Wd}{wa:Option Addr}{wc:Nat}(hws:WdsAt v wa ws)(hwl:ws.length<2^30):Ret1 prog mn 70 [boV P F wa ws.length wc,wdV x] (.int .i64 (if A2h P F ws=0 then A2k P.toNat F.toNat x else A2h P F ws)) v:=by
 refine A0f tab func70 Z nB (args:=[_,_]) ?_
 repeat (first|refine st ?_|refine qb fun bx=>?_)
 refine q1 bod68 Z Z Z Z Z (CheckR_x hws hwl) ?_
 repeat (first|refine st ?_|refine qb fun bx=>?_)
 refine A0t Z (fun h=>?_) (fun h=>?_)
 ·have h0:A2h P F ws≠0:=bne_iff_ne.1 h
  clear h
  rw [if_neg h0]
  repeat (first|refine st ?_|refine qb fun bx=>?_)
  refine rt0 ?_
  exact⟨Z,Z⟩
 ·have h0:A2h P F ws=0:=by simpa using h
  clear h
  rw [if_pos h0]
  obtain⟨P,F,rfl,rfl,hv⟩:=A4w h0
  have hp:=hv.p4
  have hf:=hv.f3
  repeat (first|refine st ?_|refine qb fun bx=>?_)
  refine q1 bod128 Z Z Z Z Z (B5c oM oM) ?_
  repeat (first|refine st ?_|refine qb fun bx=>?_)
  refine rt0 ?_
  exact⟨Z,Z⟩
end
end Go.Proofs.YtiolobmgibdfmaaGreat
end
section
namespace Go.Pal.Vo
def lexN:Nat→Nat→List (List Nat)
 | 0,_=>[[]]
 | k+1,f=>[]::((lexN k (f+1)).map (f::·)++(lexN k (f+1)).tail)
def orL(l:List Nat):Nat:=l.foldl (fun g n=>g+2 ^ n) 0
theorem range_low{P:Nat}{q:Nat→Bool}:∀n,(List.range (P+n)).filter (fun m=>decide (m<P)&&q m)=(List.range P).filter q
 | 0=>List.filter_congr fun m hm=>by rw [decide_eq_true (show m<P from List.mem_range.1 hm),Bool.true_and]
 | n+1=>by
  rw [←Nat.add_assoc,List.range_succ,List.filter_append,range_low n,List.filter_cons,List.filter_nil,decide_eq_false oM,Bool.false_and]
  simp
theorem B5d(g n:Nat):bit g n=g.testBit n:=by
 unfold bit
 rw [Nat.testBit_eq_decide_div_mod_eq]
 rfl
def hindL(P:Nat)(ws:List Wd)(w:Wl):List Nat:=(List.range P).filter fun p=>allOf P ws w p != bit w.1 p
theorem hind_lst{P:Nat}{ws:List Wd}{w:Wl}(hP:P≤8)(hx:∀x∈ws,x.who.toNat<8)(hw:w.1<2 ^ P):lst (B1s P ws w ^^^ w.1)=hindL P ws w:=by
 obtain⟨k,hk⟩:∃k,8=P+k:=⟨8-P,oM⟩
 unfold lst hindL
 refine Eq.trans ?_ (range_low (q:=fun p=>allOf P ws w p != bit w.1 p) k)
 rw [←hk]
 refine List.filter_congr fun m hm=>?_
 have h8:=List.mem_range.1 hm
 rw [B5d,Nat.testBit_xor,←B5d,←B5d,(B1m hP h8 hx).1]
 by_cases h:m<P
 ·rw [decide_eq_true h,Bool.true_and,Bool.true_and]
 ·rw [decide_eq_false h,Bool.false_and,Bool.false_and,bit_big hP hw h8 h]
  rfl
theorem or_tab:(List.range 4).all (fun F=>(lexN F 0).all fun l=>l==lst (orL l)&&decide (orL l<2 ^ F))=true:=by decide +kernel
end Go.Pal.Vo
end
section
namespace Go.Proofs.YtiolobmgibdfmaaGreat
open Go Go.Pal Go.Pal.Vo Go.Conc View
open Go.Proofs.Tryz
set_option maxHeartbeats 4000000
set_option maxRecDepth 20000
def hindK(P:Nat)(ws:List Wd)(w:Wl)(k:Nat):List Nat:=(List.range k).filter fun p=>allOf P ws w p != bit w.1 p
theorem hindK_succ{P k:Nat}{ws:List Wd}{w:Wl}:hindK P ws w (k+1)=if(allOf P ws w k != bit w.1 k)=true then hindK P ws w k++[k]else hindK P ws w k:=by
 unfold hindK
 rw [List.range_succ,List.filter_append,List.filter_cons,List.filter_nil]
 split<;>simp
theorem hindK_len{P k:Nat}{ws:List Wd}{w:Wl}:(hindK P ws w k).length≤k:=by
 have:=List.length_filter_le (fun p=>allOf P ws w p != bit w.1 p) (List.range k)
 rwa [List.length_range]at this
theorem allOf_take{P p i:Nat}{ws:List Wd}{w:Wl}(h:i<ws.length):allOf P (ws.take (i+1)) w p=(allOf P (ws.take i) w p&&(ws[i].who.toNat != p||A4h P ws[i] w)):=by
 unfold allOf
 rw [List.take_succ_eq_append_getElem h,List.all_append,List.all_cons,List.all_nil,Bool.and_true]
section
variable{mn:Who}{v:View}
theorem wrong_r{P F t s:Nat}{ws:List Wd}{wa a1 a2:Option Addr}{wc c1 c2:Nat}(hok:VOk P F ws)(hws:WdsAt v wa ws)(ht:t<2 ^ P)(h1:RowAt v a1 ((lst t).map natV))(h2:RowAt v a2 ((lst s).map natV)) :
  CallsB prog mn 125 #[boV P F wa ws.length wc,wldV a1 (lst t).length c1 a2 (lst s).length c2] (RetB fun r β'=>OwnL β' r (hindL P ws (t,s))) [] v:=by
 have hp4:=hok.p4
 have hf3:=hok.f3
 have hw8:=hok.w8
 refine A0f tab func125 Z nB (args:=[_,_]) ?_
 repeat (first|refine st ?_|refine qb fun bx=>?_)
 rename_i b2
 obtain⟨b3,rfl⟩:∃b:Nat,b=bx:=⟨bx,rfl⟩
 refine A1o (α:=TF) (fun z=>⟨[],[(6,.int .i64 z.i),(5,.slice z.a (hindK P ws (t,s) z.i).length z.c),(2,.pointer (some ⟨b2,0,none⟩)),(3,.pointer (some ⟨b3,0,none⟩))],z.seg++[(b3,#[.slice a1 (lst t).length c1,.slice a2 (lst s).length c2],38),(b2,#[.int .i64 P,.int .i64 F,.slice wa ws.length wc],24)]⟩)
  (fun z u=>v=u∧z.i≤P∧OwnS 3 1 z.seg z.a (hindK P ws (t,s) z.i).length z.c ((hindK P ws (t,s) z.i).map natV)) (fun z=>P-z.i)
  ⟨0,none,0,[]⟩ ⟨Z,rg,cntL⟩ (Le.refl _) ⟨Z,Nat.zero_le _,.nil⟩ ?_
 rintro⟨p,ao,co,seg⟩ u ⟨rfl,hi,hS⟩
 dsimp only at hi hS⊢
 have hfl:=hindK_len (P:=P) (ws:=ws) (w:=(t,s)) (k:=p)
 repeat refine st ?_
 refine A0t Z (fun h=>?_) (fun h=>?_)
 ·have hlt:p<P:=by have:=of_decide_eq_true h;omega
  clear h
  repeat refine st ?_
  refine A1o (α:=Nat) (fun i=>⟨[],[(8,.int .i64 i),(7,.bool (allOf P (ws.take i) (t,s) p)),(6,.int .i64 p),(5,.slice ao (hindK P ws (t,s) p).length co),(2,.pointer (some ⟨b2,0,none⟩)),(3,.pointer (some ⟨b3,0,none⟩))],seg++[(b3,#[.slice a1 (lst t).length c1,.slice a2 (lst s).length c2],38),(b2,#[.int .i64 P,.int .i64 F,.slice wa ws.length wc],24)]⟩)
   (fun i w=>v=w∧i≤ws.length) (fun i=>ws.length-i) 0 ⟨Z,rg,cntL⟩ (Le.refl _) ⟨Z,Nat.zero_le _⟩ ?_
  rintro i w ⟨rfl,hi2⟩
  repeat refine st ?_
  refine A0t Z (fun h=>?_) (fun h=>?_)
  ·have hil:i<ws.length:=by have:=of_decide_eq_true h;omega
   clear h
   obtain⟨bb,off,q,c,e,f,rfl,hv,hc⟩:=hws.field hil
   obtain⟨hc1,hc2⟩:=hc i hil
   have hall:=hok.all _ (List.getElem_mem hil)
   have hwho:=(hok.who (List.getElem_mem hil)).2
   have hsuc:=allOf_take (P:=P) (p:=p) (w:=(t,s)) hil
   generalize ws[i]=x at hc1 hc2 hall hwho hsuc
   repeat refine st ?_
   refine lexL A1w Z kR ?_
   repeat refine st ?_
   refine A2i tab i Z Z Z Z Z Z Z hil ?_
   repeat refine st ?_
   refine A9d tab Z Z Z hv (A1b tab Z Z Z hc2) ?_
   repeat refine st ?_
   by_cases he:x.who=(p:Int)
   ·rw [beq_iff_eq.2 he]
    have hne:(x.who.toNat != p)=false:=by rw [bne_eq_false_iff_eq];omega
    rw [hne,Bool.false_or]at hsuc
    repeat refine st ?_
    refine A2i tab i Z Z Z Z Z Z Z hil ?_
    refine A9d tab Z Z Z hv (A2d tab Z Z Z hc1) ?_
    repeat refine st ?_
    refine A3r bod119 Z Z Z Z Z (so_r hp4 hf3 hall h1 h2) ?_
    cases hh:A4h P x (t,s)with
    | true=>
     rw [hh,Bool.and_true]at hsuc
     repeat refine st ?_
     refine A0c ⟨i+1,v,oM,⟨Z,?_,cntL⟩,Le.refl _,Z,hil⟩
     rw [hsuc]
     exact rg
    | false=>
     rw [hh,Bool.and_false]at hsuc
     repeat refine st ?_
     refine A0c ⟨i+1,v,oM,⟨Z,?_,cntL⟩,Le.refl _,Z,hil⟩
     rw [hsuc]
     exact rg
   ·rw [beq_eq_false_iff_ne.2 he]
    have hne:(x.who.toNat != p)=true:=by rw [bne_iff_ne];omega
    rw [hne,Bool.true_or,Bool.and_true]at hsuc
    repeat refine st ?_
    refine A0c ⟨i+1,v,oM,⟨Z,?_,cntL⟩,Le.refl _,Z,hil⟩
    rw [hsuc]
    exact rg
  ·have hil:i=ws.length:=by have:=of_decide_eq_false h;omega
   clear h
   subst hil
   rw [List.take_length]
   repeat refine st ?_
   refine q1 bod93 Z Z Z Z Z (B5b h1 (show p<8 by omega)) ?_
   repeat refine st ?_
   have hsucc:=hindK_succ (P:=P) (ws:=ws) (w:=(t,s)) (k:=p)
   refine A0t Z (fun h=>?_) (fun h=>?_)
   ·rw [if_pos (show(allOf P ws (t,s) p != bit (t,s).1 p)=true from h)]at hsucc
    clear h
    repeat refine st ?_
    refine Q_op fun ho=>A3x tab ho Z Z Z Z Z Z Z Z Z (fun b4 c3 hL=>?_)
    refine Q_op fun ho=>A2w tab (xs:=[natV p]) seg [(b4,c3,3)] [(b3,#[.slice a1 (lst t).length c1,.slice a2 (lst s).length c2],38),(b2,#[.int .i64 P,.int .i64 F,.slice wa ws.length wc],24)] ho Z Z Z Z Z Z Z Z Z Z cntA hS
     (fun hb=>RowAt.own hb cntL hL) Z Z (by show(2*((hindK P ws (t,s) p).length+1)+768)*8≤2^48;omega) oM (fun seg' a' cap' hS'=>?_)
    clear ho
    repeat refine st ?_
    refine A0c ⟨⟨p+1,a',cap',seg'⟩,v,by dsimp only;omega,⟨Z,?_,cntL⟩,Le.refl _,Z,hlt,?_⟩
    ·dsimp only;rw [hsucc,List.length_append,List.length_singleton];exact rg
    ·dsimp only;rw [hsucc,List.length_append,List.length_singleton,List.map_append];exact hS'
   ·rw [if_neg (show ¬(allOf P ws (t,s) p != bit (t,s).1 p)=true from fun h'=>by rw [show(allOf P ws (t,s) p != bit (t,s).1 p)=false from h]at h';cases h')]at hsucc
    clear h
    repeat refine st ?_
    refine A0c ⟨⟨p+1,ao,co,seg⟩,v,by dsimp only;omega,⟨Z,?_,cntL⟩,Le.refl _,Z,hlt,?_⟩
    ·dsimp only;rw [hsucc];exact rg
    ·dsimp only;rw [hsucc];exact hS
 ·have hie:p=P:=by have:=of_decide_eq_false h;omega
  clear h
  subst hie
  repeat refine st ?_
  refine A0l tab (β':=seg) (by exact .tmp rfl .nil) (Back.here cntL) ?_
  exact⟨ao,co,Z,hS⟩
end
theorem asc_eq:∀{l m:List Nat},l.Pairwise (· < ·)→m.Pairwise (· < ·)→(∀x,x∈l↔x∈m)→l=m
 | [],[],_,_,_=>rfl
 | [],y::m,_,_,h=>absurd ((h y).2 (List.mem_cons_self ..)) sM
 | x::l,[],_,_,h=>absurd ((h x).1 (List.mem_cons_self ..)) sM
 | x::l,y::m,h1,h2,h=>by
  rw [List.pairwise_cons]at h1 h2
  have hxy:x=y:=by
   rcases List.mem_cons.1 ((h x).1 (List.mem_cons_self ..))with e|e
   ·exact e
   ·rcases List.mem_cons.1 ((h y).2 (List.mem_cons_self ..))with e'|e'
    ·exact e'.symm
    ·have:=h2.1 x e;have:=h1.1 y e';omega
  subst hxy
  rw [asc_eq h1.2 h2.2 fun z=>?_]
  have:=h z
  simp only [List.mem_cons]at this
  constructor
  ·intro hz
   rcases this.1 (.inr hz)with e|e
   ·subst e;have:=h1.1 z hz;omega
   ·exact e
  ·intro hz
   rcases this.2 (.inr hz)with e|e
   ·subst e;have:=h2.1 z hz;omega
   ·exact e
theorem bit_or:∀(l:List Nat) (g x:Nat),bit (l.foldl (fun g n=>g ||| 2 ^ n) g) x=(bit g x||decide (x∈l))
 | [],g,x=>by simp
 | y::l,g,x=>by
  rw [List.foldl_cons,bit_or l,B5d (g ||| 2 ^ y),Nat.testBit_or,Nat.testBit_two_pow,←B5d,Bool.or_assoc]
  congr 1
  rw [Bool.eq_iff_iff]
  simp only [Bool.or_eq_true,decide_eq_true_eq,List.mem_cons]
  exact⟨fun h=>h.imp Eq.symm id,fun h=>h.imp Eq.symm id⟩
theorem lst_orG{l:List Nat}(hA:l.Pairwise (· < ·))(h8:∀x∈l,x<8):lst (orG l)=l:=by
 refine asc_eq (List.Pairwise.filter _ List.pairwise_lt_range) hA fun x=>?_
 unfold lst
 rw [List.mem_filter,List.mem_range]
 unfold orG
 rw [bit_or]
 have h0:bit 0 x=false:=by rw [B5d];exact Nat.zero_testBit x
 rw [h0,Bool.false_or,decide_eq_true_eq]
 exact⟨fun h=>h.2,fun h=>⟨h8 x h,h⟩⟩
theorem orG_pow{L:Nat}{l:List Nat}(h:∀x∈l,x<L):orG l<2 ^ L:=by
 refine Nat.lt_pow_two_of_testBit _ fun i hi=>?_
 rw [←B5d]
 unfold orG
 rw [bit_or]
 have h0:bit 0 i=false:=by rw [B5d];exact Nat.zero_testBit i
 rw [h0,Bool.false_or,decide_eq_false_iff_not]
 exact fun hm=>absurd (h i hm) oM
theorem numE_asc{L:Nat}:∀{l:List Int} {pr:Option Int},numE L pr l=0→(∀p,pr=some p→∀x∈l,p<x)∧(l.map Int.toNat).Pairwise (· < ·)
 | [],_,_=>⟨fun _ _ x hx=>by simp at hx,.nil⟩
 | y::l,pr,h=>by
  have hall:=numE_all h
  rw [numE_cons]at h
  rw [if_neg (not_not_intro (hall y (List.mem_cons_self ..)))]at h
  have key:numE L (some y) l=0∧∀p,pr=some p→p<y:=by
   cases pr with
   | none=>exact⟨h,fun p e=>by cases e⟩
   | some p=>
    simp only at h
    by_cases h3:y > p
    ·rw [if_pos h3]at h;exact⟨h,fun q e=>by cases e;exact h3⟩
    ·rw [if_neg h3]at h;cases h
  obtain⟨h1,h2⟩:=numE_asc key.1
  have h1':=h1 y Z
  refine⟨fun p e x hx=>?_,?_⟩
  ·have hp:=key.2 p e
   rcases List.mem_cons.1 hx with rfl|hx
   ·exact hp
   ·have:=h1' x hx;omega
  ·rw [List.map_cons,List.pairwise_cons]
   refine⟨fun z hz=>?_,h2⟩
   obtain⟨x,hx,rfl⟩:=List.mem_map.1 hz
   have:=h1' x hx
   have:=hall y (List.mem_cons_self ..)
   omega
theorem num_set{L:Nat}{l:List Int}(hL:L≤8)(h:numE L none l=0):l=A7e (lst (gOf l))∧gOf l<2 ^ L:=by
 have hall:=numE_all h
 have hlt:∀x∈l.map Int.toNat,x<L:=fun x hx=>by
  obtain⟨y,hy,rfl⟩:=List.mem_map.1 hx
  have:=hall y hy;omega
 refine⟨?_,orG_pow hlt⟩
 unfold gOf
 rw [lst_orG (numE_asc h).2 fun x hx=>by have:=hlt x hx;omega]
 unfold A7e
 rw [List.map_map]
 exact(List.map_id l).symm.trans (List.map_congr_left fun x hx=>by
  have:=(hall x hx).1
  show x=((x.toNat:Nat):Int)
  omega)
section
variable{mn:Who}{v:View}
theorem B5e{l:List Int}{L:Nat}{a:Option Addr}{cap:Nat}(hrow:RowAt v a (l.map (.int .i64)))(hlen:l.length<2^30)(hL:L≤8):Ret1 prog mn 124 [.slice a l.length cap,.int .i64 L] (.int .i64 (numE L none l)) v:=by
 refine A0f tab func124 Z nB (args:=[_,_]) ?_
 repeat (first|refine st ?_|refine qb fun bx=>?_)
 refine A1o (α:=Nat) (fun i=>⟨[],[(5,.int .i64 i),(0,.slice a l.length cap),(1,.int .i64 L)],[]⟩)
  (fun i u=>v=u∧i≤l.length∧numE L none l=numE L (prevI l i) (l.drop i)) (fun i=>l.length-i) 0 ⟨Z,rg,cntL⟩ (Le.refl _) ⟨Z,Nat.zero_le _,Z⟩ ?_
 rintro i u ⟨rfl,hi,hE⟩
 repeat refine st ?_
 refine A0t Z (fun h=>?_) (fun h=>?_)
 ·have hlt:i<l.length:=by have:=of_decide_eq_true h;omega
  clear h
  obtain⟨b,off,q,c,e,f,rfl,hv,hc⟩:=hrow.ints hlt
  rw [List.drop_eq_getElem_cons hlt,numE_cons]at hE
  have hA:∀{k:Bool},decide (0≤l[i]∧l[i]≤(L:Int)-1)=k→Ret1 prog mn 127 [.int .i64 l[i],.int .i64 0,.int .i64 ((L:Int)-1)] (.bool k) v:=fun h=>h ▸ B5a
  have hc1:=hc _ hlt
  have hnext:prevI l (i+1)=some l[i]:=by
   unfold prevI
   rw [if_neg oM]
   show l[i]?=_
   exact List.getElem?_eq_getElem hlt
  repeat refine st ?_
  refine A2t tab i Z Z Z Z Z Z Z hlt ?_
  refine A2p tab Z Z Z hv (A1b tab Z Z Z (by rw [Nat.mul_one];exact hc1)) ?_
  repeat refine st ?_
  by_cases hn:0≤l[i]∧l[i]≤(L:Int)-1
  rotate_left
  ·rw [if_pos hn]at hE
   refine q1 B4z Z Z Z Z Z (hA (decide_eq_false hn)) ?_
   repeat refine st ?_
   refine rt0 ?_
   exact⟨by rw [hE],Z⟩
  rw [if_neg (not_not_intro hn)]at hE
  refine q1 B4z Z Z Z Z Z (hA (decide_eq_true hn)) ?_
  repeat refine st ?_
  by_cases hi0:i=0
  ·subst hi0
   rw [show decide (((0:Nat):Int) > 0)=false from rfl]
   repeat refine st ?_
   refine A0c ⟨1,v,oM,⟨Z,rg,cntL⟩,Le.refl _,Z,hlt,?_⟩
   rw [hE,hnext];rfl
  ·have hlt1:i-1<l.length:=oM
   have hpr:prevI l i=some l[i-1]:=by
    unfold prevI
    rw [if_neg hi0,List.getElem?_eq_getElem hlt1]
   rw [hpr]at hE
   simp only at hE
   have hc2:=hc _ hlt1
   rw [show decide ((i:Int) > 0)=true from decide_eq_true oM]
   repeat refine st ?_
   refine A2i tab i Z Z Z Z Z Z Z hlt ?_
   refine A9d tab Z Z Z hv (A1b tab Z Z Z (by rw [Nat.mul_one];exact hc1)) ?_
   repeat refine st ?_
   refine A2i tab (i-1) Z Z Z Z oM Z Z hlt1 ?_
   refine A9d tab Z Z Z hv (A1b tab Z Z Z (by rw [Nat.mul_one];exact hc2)) ?_
   by_cases hgt:l[i] > l[i-1]
   ·rw [if_pos hgt]at hE
    repeat refine st ?_
    rw [show decide (l[i]≤l[i-1])=false from decide_eq_false oM]
    repeat refine st ?_
    refine A0c ⟨i+1,v,oM,⟨Z,rg,cntL⟩,Le.refl _,Z,hlt,?_⟩
    rw [hE,hnext]
   ·rw [if_neg hgt]at hE
    repeat refine st ?_
    rw [show decide (l[i]≤l[i-1])=true from decide_eq_true oM]
    repeat refine st ?_
    refine rt0 ?_
    exact⟨by rw [hE],Z⟩
 ·have hin:i=l.length:=by have:=of_decide_eq_false h;omega
  clear h
  subst hin
  rw [List.drop_length]at hE
  have hE0:numE L none l=0:=hE.trans (by cases prevI l l.length<;>rfl)
  repeat refine st ?_
  refine rt0 ?_
  exact⟨by rw [hE0],Z⟩
theorem WrongR_x{P F:Int}{ws:List Wd}{tr so:List Int}{wa a1 a2:Option Addr}{wc c1 c2:Nat}(hws:WdsAt v wa ws)(hwl:ws.length<2^30)(htr:RowAt v a1 (tr.map (.int .i64)))(hso:RowAt v a2 (so.map (.int .i64)))(hl1:tr.length<2^30)(hl2:so.length<2^30) :
  CallsB prog mn 66 #[boV P F wa ws.length wc,wldV a1 tr.length c1 a2 so.length c2] (RetB fun r β'=>∃t,r = .tuple #[t,.int .i64 (errWr P F ws tr so)]∧OwnL β' t (if errWr P F ws tr so=0 then B4l P.toNat ws tr so else [])) [] v:=by
 refine A0f tab func66 Z nB (args:=[_,_]) ?_
 repeat (first|refine st ?_|refine qb fun bx=>?_)
 refine q1 bod68 Z Z Z Z Z (CheckR_x hws hwl) ?_
 repeat refine st ?_
 by_cases hc:A2h P F ws=0
 rotate_left
 ·rw [show errWr P F ws tr so=A2h P F ws from if_neg hc,if_neg hc]
  rw [show(A2h P F ws != 0)=true from bne_iff_ne.2 hc]
  repeat refine st ?_
  exact A0l tab (β':=[]) (xs:=[_,_]) (by exact .tmp rfl (.tmp rfl .nil)) (Back.here fun p=>Nat.zero_le _) ⟨_,Z,none,0,Z,.nil⟩
 rw [show(A2h P F ws != 0)=false from bne_eq_false_iff_eq.2 hc]
 rw [show errWr P F ws tr so=if numE P.toNat none tr=0 then numE F.toNat none so else numE P.toNat none tr from if_pos hc]
 obtain⟨P,F,rfl,rfl,hv⟩:=A4w hc
 simp only [Int.toNat_natCast]
 have hP4:=hv.p4
 have hF3:=hv.f3
 repeat refine st ?_
 refine q1 bod124 Z Z Z Z Z (B5e (L:=P) htr hl1 oM) ?_
 repeat refine st ?_
 by_cases h1:numE P none tr=0
 rotate_left
 ·rw [if_neg h1,if_neg h1]
  rw [show(numE P none tr != 0)=true from bne_iff_ne.2 h1]
  repeat refine st ?_
  exact A0l tab (β':=[]) (xs:=[_,_]) (by exact .tmp rfl (.tmp rfl .nil)) (Back.here fun p=>Nat.zero_le _) ⟨_,Z,none,0,Z,.nil⟩
 rw [if_pos h1]
 rw [show(numE P none tr != 0)=false from bne_eq_false_iff_eq.2 h1]
 repeat refine st ?_
 refine q1 bod124 Z Z Z Z Z (B5e (L:=F) hso hl2 oM) ?_
 repeat refine st ?_
 by_cases h2:numE F none so=0
 rotate_left
 ·rw [if_neg h2]
  rw [show(numE F none so != 0)=true from bne_iff_ne.2 h2]
  repeat refine st ?_
  exact A0l tab (β':=[]) (xs:=[_,_]) (by exact .tmp rfl (.tmp rfl .nil)) (Back.here fun p=>Nat.zero_le _) ⟨_,Z,none,0,Z,.nil⟩
 rw [if_pos h2,h2]
 rw [show((0:Int) != 0)=false from rfl]
 obtain⟨e1,ht⟩:=num_set oM h1
 obtain⟨e2,hs⟩:=num_set oM h2
 have hwL:B4l P ws tr so=hindL P ws (gOf tr,gOf so):=hind_lst (w:=(gOf tr,gOf so)) oM (fun x hx=>by obtain⟨h1,h2⟩:=hv.who hx;omega) ht
 rw [hwL]
 have htr':RowAt v a1 ((lst (gOf tr)).map natV):=by
  have:=htr
  rw [e1]at this
  unfold A7e at this
  rwa [List.map_map]at this
 have hso':RowAt v a2 ((lst (gOf so)).map natV):=by
  have:=hso
  rw [e2]at this
  unfold A7e at this
  rwa [List.map_map]at this
 have n1:tr.length=(lst (gOf tr)).length:=by
  have:=congrArg List.length e1
  unfold A7e at this
  rwa [List.length_map]at this
 have n2:so.length=(lst (gOf so)).length:=by
  have:=congrArg List.length e2
  unfold A7e at this
  rwa [List.length_map]at this
 rw [n1,n2]
 repeat refine st ?_
 refine Q_op fun ho=>A0i [] _ ho bod125 Z Z Z Z Z A1n (wrong_r (s:=gOf so) hv (hws.le (A0b _ _)) ht (RowAt.le htr' (A0b _ _)) (RowAt.le hso' (A0b _ _))) (fun x β' hR=>?_)
 clear ho
 obtain⟨a,cap,rfl,hS⟩:=hR
 repeat refine st ?_
 exact A0l tab (β':=β') (xs:=[_,_]) (by exact .tmp rfl (.tmp rfl .nil)) (Back.here cntL) ⟨_,Z,a,cap,Z,hS⟩
theorem ownI_x{l:List Int}{a:Option Addr}{cap:Nat}(hrow:RowAt v a (l.map (.int .i64)))(hlen:l.length<2^30):CallsB prog mn 123 #[.slice a l.length cap] (RetB fun r β'=>∃a' cap',r = .slice a' l.length cap'∧OwnS 3 1 β' a' l.length cap' (l.map (.int .i64))) [] v:=by
 refine A0f tab func123 Z nB (args:=[_]) ?_
 repeat (first|refine st ?_|refine qb fun bx=>?_)
 refine Q_op fun ho=>A3x tab ho Z Z Z Z Z Z Z Z Z (fun b3 c3 hL=>?_)
 clear ho
 repeat (first|refine st ?_|refine qb fun bx=>?_)
 refine Q_op fun ho=>A2w tab (xs:=l.map (.int .i64)) [(b3,c3,3)] [] [] ho Z Z Z Z Z Z Z Z Z Z cntA hL
  (fun hb=>RowAt.le hrow (A0b _ _)) sM (nats_one l (.int .i64) fun _=>rfl) (by show(2*(0+l.length)+768)*8≤2^48;omega) oM (fun seg' a' cap' hS'=>?_)
 clear ho
 repeat (first|refine st ?_|refine qb fun bx=>?_)
 refine A0l tab seg' (by exact .tmp rfl .nil) (Back.here cntL) ?_
 rw [Nat.zero_add]at hS'⊢
 exact⟨a',cap',Z,hS'⟩
end
section
variable{P:Program}{mn:Who}(T:Tab P){rd:Option Nat}{n:Nat}{Q:Exit→St→View→Prop}{ds:List Deferred}{ρ:Regs}{β:A0j}{v:View}{K:St→View→Prop}{ops:Array Oper}{i:Nat}{d:Nat}{ty:TypeId}{pos:String}{af:Array Edge}{gu:Option (Nat×Bool)}
theorem C_mid{c y:Code}{σ:St}(M:St→View→Prop)(h':∀τ u,M τ u→XC P mn rd n y Q τ u)(h:XC P mn rd n c (LoopQ (fun σ' u'=>∃τ u,M τ u∧Sub τ σ'∧u.Le u') Q) σ v):XC P mn rd n c (SeqQ P mn rd n y Q) σ v:=B4c h fun e σ u hq=>by
 unfold LoopQ at hq
 unfold SeqQ
 cases e with
 | normal=>obtain⟨τ,u0,hm,hs,hl⟩:=hq;exact XC_sub (h' τ u0 hm) hs hl
 | _=>exact hq
theorem A_alloc{t:TypeId}{z:Value}(ho:ops[i]?=some ⟨some d,.alloc t,ty,pos,af,gu⟩)(hw:A0x ops gu ρ=some true)(hn:Nat.blt d n=true)(hz:T.zer t=some z)
  (h:∀b,K ⟨ds,(d,.pointer (some ⟨b,0,none⟩))::ρ,(b,z.cells,t)::β⟩ v):XOp P mn rd n ops i Q K ⟨ds,ρ,β⟩ v:=by
 refine A2x ho (A0p hw) (.inr Z) hn fun ev hev hbk=>?_
 simp only [execOp,Instr.alloc,A0d,A9x T hz]
 refine sx_newVar fun b hb'=>?_
 obtain⟨h1,h2⟩:=B0s (c:=z.cells) (t:=t) hbk hb'
 exact⟨_,v,⟨h1,h2⟩,h b⟩
end
end Go.Proofs.YtiolobmgibdfmaaGreat
end
