/- Part 36. -/
import Derived.Test.YtiolobmgibdfmaaGreatPbc
import Derived.Test.YtiolobmgibdfmaaGreatPzd
set_option linter.all false
section
namespace Go.Proofs.YtiolobmgibdfmaaGreat
open Go Go.Pal Go.Proofs.Tryz
theorem bod68:A0n Tryz.prog 68:=⟨_,_,func68,Z,by decide⟩
theorem bod81:A0n Tryz.prog 81:=⟨_,_,func81,Z,by decide⟩
theorem bod97:A0n Tryz.prog 97:=⟨_,_,func97,Z,by decide⟩
theorem B5b:A0n Tryz.prog 111:=⟨_,_,func111,Z,by decide⟩
theorem bod119:A0n Tryz.prog 119:=⟨_,_,func119,Z,by decide⟩
theorem bod125:A0n Tryz.prog 125:=⟨_,_,func125,Z,by decide⟩
theorem bod127:A0n Tryz.prog 127:=⟨_,_,func127,Z,by decide⟩
theorem bod128:A0n Tryz.prog 128:=⟨_,_,func128,Z,by decide⟩
theorem bod139:A0n Tryz.prog 139:=⟨_,_,func139,Z,by decide⟩
theorem bod140:A0n Tryz.prog 140:=⟨_,_,func140,Z,by decide⟩
end Go.Proofs.YtiolobmgibdfmaaGreat
end
section
namespace Go.Proofs.YtiolobmgibdfmaaGreat
open Go Go.Pal Go.Pal.Vo Go.Conc View
open Go.Proofs.Tryz
set_option maxHeartbeats 4000000
set_option maxRecDepth 20000
section
variable{mn:Who}{v:View}{P F:Nat}{a:Option Addr}{n cap:Nat}
theorem B5c{x lo hi:Int}:Ret1 prog mn 127 [.int .i64 x,.int .i64 lo,.int .i64 hi] (.bool (decide (lo≤x∧x≤hi))) v:=by
 refine A0f tab func127 Z nB (args:=[_,_,_]) ?_
 repeat refine st ?_
 refine A6d Z Z (fun h=>?_) (fun h=>?_)
 ·replace h:=fa h
  repeat refine st ?_
  refine A0l tab _ (by exact .tmp rfl .nil) (Back.here fun p=>Nat.le_refl _) ?_
  refine⟨?_,Z⟩
  show Value.bool (decide (x≤hi))=_
  congr 1
  rw [Bool.eq_iff_iff,decide_eq_true_eq,decide_eq_true_eq]
  omega
 ·replace h:=fa h
  repeat refine st ?_
  refine A0l tab _ (by exact .tmp rfl .nil) (Back.here fun p=>Nat.le_refl _) ?_
  refine⟨?_,Z⟩
  show Value.bool false=_
  rw [decide_eq_false]
  omega
theorem isPerson_x{x:Int}(hP:P<2^30):Ret1 prog mn 111 [boV P F a n cap,.int .i64 x] (.bool (decide (0≤x∧x≤(P:Int)-1))) v:=by
 refine A0f tab func111 Z nB (args:=[_,_]) ?_
 repeat (first|refine st ?_|refine qb fun bx=>?_)
 refine Q_op fun ho=>A0s ho bod127 Z Z Z Z Z B5c ?_
 clear ho
 repeat (first|refine st ?_|refine qb fun bx=>?_)
 refine A0l tab [] (by exact .tmp rfl .nil) (Back.here cntL) ?_
 exact⟨Z,Z⟩
theorem isFact_x{x:Int}(hF:F<2^30):Ret1 prog mn 97 [boV P F a n cap,.int .i64 x] (.bool (decide (0≤x∧x≤(F:Int)-1))) v:=by
 refine A0f tab func97 Z nB (args:=[_,_]) ?_
 repeat (first|refine st ?_|refine qb fun bx=>?_)
 refine Q_op fun ho=>A0s ho bod127 Z Z Z Z Z B5c ?_
 clear ho
 repeat (first|refine st ?_|refine qb fun bx=>?_)
 refine A0l tab [] (by exact .tmp rfl .nil) (Back.here cntL) ?_
 exact⟨Z,Z⟩
end
section
variable{mn:Who}{v:View}
theorem word_eq{x:Wd}{K:Bool→View→Prop}{E:Value→View→Prop}(h:K true v):SemX prog (Op.equal 26 (wdV x) (wdV x)) K E v:=by
 have hs:prog.stoodInHeld 26=false:=by kernel_rfl
 rw [show wdV x = .agg #[.int .i64 x.who,.int .i64 x.kind,.int .i64 x.a,.int .i64 x.b]from rfl]
 show SemX prog (Op.equalIn (9998+1+1) 26 _ _) K E v
 unfold Op.equalIn
 rw [A0d,A1r tab (t:=26) rfl]
 simp only [A0d,A3v,hs,Bool.false_eq_true,if_false,List.forIn_toArray,List.forIn_cons,List.forIn_nil]
 have ht:∀y:Int,(y==y)=true:=fun y=>by simp
 rw [if_pos dM]
 simp only [A0d]
 refine B2b (x:=.int .i64 x.who) Z ?_
 refine B2b (x:=.int .i64 x.who) Z ?_
 refine i64_eq ?_
 rw [ht]
 simp only [Bool.not_true,Bool.false_eq_true,if_false,A0m,A0d]
 rw [if_pos dM]
 simp only [A0d]
 refine B2b (x:=.int .i64 x.kind) Z ?_
 refine B2b (x:=.int .i64 x.kind) Z ?_
 refine i64_eq ?_
 rw [ht]
 simp only [Bool.not_true,Bool.false_eq_true,if_false,A0m,A0d]
 rw [if_pos dM]
 simp only [A0d]
 refine B2b (x:=.int .i64 x.a) Z ?_
 refine B2b (x:=.int .i64 x.a) Z ?_
 refine i64_eq ?_
 rw [ht]
 simp only [Bool.not_true,Bool.false_eq_true,if_false,A0m,A0d]
 rw [if_pos dM]
 simp only [A0d]
 refine B2b (x:=.int .i64 x.b) Z ?_
 refine B2b (x:=.int .i64 x.b) Z ?_
 refine i64_eq ?_
 rw [ht]
 exact h
end
section
variable{mn:Who}{rd:Option Nat}{n:Nat}{Q:Exit→St→View→Prop}{ds:List Deferred}{ρ:Regs}{β:A0j}{v:View}{K:St→View→Prop}
 {ops:Array Oper}{i:Nat}{l:List Oper}{d:Nat}{ty:TypeId}{pos:String}{af:Array Edge}{gu:Option (Nat×Bool)}
theorem L_neqW{y z:Operand}{t2:TypeId}{x x':Wd}(hw:A0x ops gu ρ=some true)(hn:Nat.blt d n=true)(hy:ρ.val y=some (wdV x))(hz:ρ.val z=some (wdV x'))(hx:x=x')
  (h:XL prog mn n ops Q l ⟨ds,(d,.bool false)::ρ,β⟩ v):XL prog mn n ops Q (⟨some d,.binOp .neq 26 y z t2,ty,pos,af,gu⟩::l) ⟨ds,ρ,β⟩ v:=by
 subst hx
 replace hy:ρ.val y=some (.agg #[.int .i64 x.who,.int .i64 x.kind,.int .i64 x.a,.int .i64 x.b]):=hy
 replace hz:ρ.val z=some (.agg #[.int .i64 x.who,.int .i64 x.kind,.int .i64 x.a,.int .i64 x.b]):=hz
 refine A8u (o:=⟨some d,.binOp .neq 26 y z t2,ty,pos,af,gu⟩) (x:=.bool false) (A0p hw) hn (fun ev hev hbk w hle=>?_) h
 have hg:prog.eqGuardType prog.depth 26=false:=by kernel_rfl
 simp only [execOp,A0d,hev _ _ hy,hev _ _ hz,eqGuard,binOp,A3v,hg]
 simp only [Bool.not_true,Bool.false_eq_true,if_false,A0d]
 rw [A3v,A3v,hg]
 simp only [Bool.not_true,Bool.not_false,Bool.false_eq_true,if_false,if_true,A0m,A0d]
 refine word_eq (x:=x) ?_
 exact⟨Le.refl _,Z⟩
end
section
variable{mn:Who}{v:View}
theorem sameV_x{P F:Int}{a b:Option Addr}{c d:Nat}{ws:List Wd}(ha:WdsAt v a ws)(hb:WdsAt v b ws)(hwl:ws.length<2^30):Ret1 prog mn 32 [boV P F a ws.length c,boV P F b ws.length d] (.bool true) v:=by
 refine A0f tab func32 Z nB (args:=[_,_]) ?_
 repeat (first|refine st ?_|refine qb fun bx=>?_)
 rename_i bx3
 have e0:∀y:Int,(y != y)=false:=fun y=>by simp
 repeat (first|refine st ?_|refine qb fun bx=>?_)
 refine A6d Z Z (fun h=>?_) (fun h=>?_)
 ·rw [e0]at h;cases h
 repeat (first|refine st ?_|refine qb fun bx=>?_)
 refine A6d Z Z (fun h=>?_) (fun h=>?_)
 ·rw [e0]at h;cases h
 repeat (first|refine st ?_|refine qb fun bx=>?_)
 refine A0t Z (fun h=>?_) (fun h=>?_)
 ·rw [e0]at h;cases h
 repeat (first|refine st ?_|refine qb fun bx=>?_)
 refine A1o (α:=Nat) (fun i=>⟨[],[(5,.int .i64 i),(2,.pointer (some ⟨bx3,0,none⟩)),(3,.pointer (some ⟨bx,0,none⟩))],[(bx3,(boV P F a ws.length c).cells,24),(bx,(boV P F b ws.length d).cells,24)]⟩)
  (fun i u=>u=v∧i≤ws.length) (fun i=>ws.length-i) 0 ⟨Z,rg,cntL⟩ (Le.refl _) ⟨Z,Nat.zero_le _⟩ ?_
 rintro i u ⟨rfl,hi⟩
 repeat (first|refine st ?_|refine qb fun bx=>?_)
 refine A0t Z (fun h=>?_) (fun h=>?_)
 ·replace h:=fa h
  have hlt:i<ws.length:=oM
  obtain⟨b1,o1,p1,k1,e1,f1,rfl,hv1,hc1⟩:=ha.get hlt
  obtain⟨b2,o2,p2,k2,e2,f2,rfl,hv2,hc2⟩:=hb.get hlt
  repeat (first|refine st ?_|refine qb fun bx=>?_)
  refine A2i tab i Z Z Z Z Z Z Z hlt ?_
  refine A9d tab Z Z Z hv1 (A2d tab Z Z Z (hc1 i hlt)) ?_
  repeat (first|refine st ?_|refine qb fun bx=>?_)
  refine A2i tab i Z Z Z Z Z Z Z hlt ?_
  refine A9d tab Z Z Z hv2 (A2d tab Z Z Z (hc2 i hlt)) ?_
  repeat (first|refine st ?_|refine qb fun bx=>?_)
  refine L_neqW (x:=ws[i]) (x':=ws[i]) Z Z Z Z Z ?_
  repeat (first|refine st ?_|refine qb fun bx=>?_)
  refine A0c ⟨i+1,_,(by have:=hlt;omega),⟨Z,rg,cntL⟩,Le.refl _,Z,hlt⟩
 ·repeat (first|refine st ?_|refine qb fun bx=>?_)
  refine A0l tab [] (by exact .tmp rfl .nil) (Back.here cntL) ?_
  exact⟨Z,Z⟩
end
def WRows(v:View)(cs:List Value)(W:List Wl):Prop:=cs.length=W.length*2∧∀(i:Nat) (h:i<W.length),∃a1 c1 a2 c2,cs[i*2]?=some (.slice a1 (lst W[i].1).length c1)∧cs[i*2+1]?=some (.slice a2 (lst W[i].2).length c2)∧
 RowAt v a1 ((lst W[i].1).map natV)∧RowAt v a2 ((lst W[i].2).map natV)
theorem WRows.le{u v:View}{cs:List Value}{W:List Wl}(h:WRows u cs W)(hl:u.Le v):WRows v cs W:=⟨h.1,fun i hi=>by
 obtain⟨a1,c1,a2,c2,h1,h2,h3,h4⟩:=h.2 i hi
 exact⟨a1,c1,a2,c2,h1,h2,RowAt.le h3 hl,RowAt.le h4 hl⟩⟩
theorem WRows.snoc{v:View}{cs:List Value}{W:List Wl}{w:Wl}{a1 a2:Option Addr}{n1 n2 c1 c2:Nat}(h:WRows v cs W)(hn1:n1=(lst w.1).length)(hn2:n2=(lst w.2).length)(h1:RowAt v a1 ((lst w.1).map natV))(h2:RowAt v a2 ((lst w.2).map natV)) :
  WRows v (cs++[.slice a1 n1 c1,.slice a2 n2 c2]) (W++[w]):=by
 subst hn1
 subst hn2
 have hl:=h.1
 refine⟨by rw [List.length_append,List.length_append,hl,Nat.add_mul];rfl,fun i hi=>?_⟩
 by_cases e:i<W.length
 ·have e1:(W++[w])[i]=W[i]:=by rw [List.getElem_append_left e]
  rw [e1]
  obtain⟨b1,d1,b2,d2,k1,k2,k3,k4⟩:=h.2 i e
  exact⟨b1,d1,b2,d2,by rw [List.getElem?_append_left oM];exact k1,by rw [List.getElem?_append_left oM];exact k2,k3,k4⟩
 ·have hi':i=W.length:=by simp at hi;omega
  subst hi'
  have e1:(W++[w])[W.length]=w:=by simp
  rw [e1]
  refine⟨a1,c1,a2,c2,?_,?_,h1,h2⟩
  ·rw [List.getElem?_append_right oM,hl];simp
  ·rw [List.getElem?_append_right oM,hl,show W.length*2+1-W.length*2=1 by omega];rfl
def OwnWs2(β:A0j)(a:Option Addr)(n cap:Nat)(W:List Wl):Prop:=∃segO segR cs,β=segO++segR∧n=W.length∧OwnS 38 2 segO a W.length cap cs∧∀v,Bok segR v→WRows (v.union (A0e segR)) cs W
structure WS where
 i:Nat
 a:Option Addr
 cap:Nat
 seg:A0j
 cs:List Value
 segR:A0j
section
variable{mn:Who}{v:View}
theorem lst_mem{g p:Nat}(hp:p<8):p∈lst g↔bit g p=true:=by
 unfold lst
 rw [List.mem_filter,List.mem_range]
 exact⟨fun h=>h.2,fun h=>⟨hp,h⟩⟩
theorem lst_len8(g:Nat):(lst g).length≤8:=by
 have:=List.length_filter_le (bit g) (List.range 8)
 rwa [List.length_range]at this
theorem WRows.at{a:Option Addr}{cs:List Value}{W:List Wl}(hrow:RowAt v a cs)(hW:WRows v cs W){i:Nat}(hi:i<W.length):∃b off p c e f,a=some ⟨b,off,none⟩∧v b=some (p,.cells c e f)∧
  ∀(j:Nat) (hj:j<W.length),∃a1 c1 a2 c2,c[off+j*2]?=some (.slice a1 (lst W[j].1).length c1)∧c[off+j*2+1]?=some (.slice a2 (lst W[j].2).length c2)∧RowAt v a1 ((lst W[j].1).map natV)∧RowAt v a2 ((lst W[j].2).map natV):=by
 obtain⟨h1,h2⟩:=hW
 rcases hrow with h|⟨b,off,p,c,e,f,k1,k2,k3,k4⟩
 ·rw [h]at h1;simp at h1;omega
 ·refine⟨b,off,p,c,e,f,k1,k2,fun j hj=>?_⟩
  obtain⟨a1,c1,a2,c2,m1,m2,m3,m4⟩:=h2 j hj
  exact⟨a1,c1,a2,c2,k4 _ _ m1,by rw [Nat.add_assoc];exact k4 _ _ m2,m3,m4⟩
theorem OwnWs2.row{β:A0j}{a:Option Addr}{n cap:Nat}{W:List Wl}(h:OwnWs2 β a n cap W)(hb:Bok β v):n=W.length∧∃cs,RowAt (v.union (A0e β)) a cs∧WRows (v.union (A0e β)) cs W:=by
 obtain⟨segO,segR,cs,rfl,hn,hO,hW⟩:=h
 refine⟨hn,cs,RowAt.own hb (show Subm segO (segO++segR)from cntL) hO,(hW v (bok_append.1 hb).1).le ?_⟩
 rw [A1m hb]
 exact A0b _ _
end
theorem VOk.snoc{P F:Nat}{ws:List Wd}{x:Wd}(h:VOk P F ws)(hl:ws.length<8)(hx:A2k P F x=0):VOk P F (ws++[x]):=⟨h.p1,h.p4,h.f3,by rw [List.length_append];exact hl,fun y hy=>by
 rcases List.mem_append.1 hy with hy|hy
 ·exact h.all y hy
 ·rw [List.mem_singleton.1 hy];exact hx⟩
theorem RowsOf.append{v:View}{r1 r2:List Value}{l1 l2:List (List Nat)}(h1:RowsOf v r1 l1)(h2:RowsOf v r2 l2):RowsOf v (r1++r2) (l1++l2):=by
 refine⟨by rw [List.length_append,List.length_append,h1.1,h2.1],fun i hi=>?_⟩
 by_cases e:i<l1.length
 ·have e1:(l1++l2)[i]=l1[i]:=by rw [List.getElem_append_left e]
  rw [e1]
  obtain⟨a,c,k1,k2⟩:=h1.2 i e
  exact⟨a,c,by rw [List.getElem?_append_left (by rw [h1.1];exact e)];exact k1,k2⟩
 ·have hl:i-l1.length<l2.length:=by rw [List.length_append]at hi;omega
  have e1:(l1++l2)[i]=l2[i-l1.length]:=by rw [List.getElem_append_right oM]
  rw [e1]
  obtain⟨a,c,k1,k2⟩:=h2.2 _ hl
  exact⟨a,c,by rw [List.getElem?_append_right (by rw [h1.1];omega),h1.1];exact k1,k2⟩
section
variable{P:Nat}{u a b:Int}{w:Wl}
theorem hs0:A4h P ⟨u,0,a,b⟩ w=bit w.2 a.toNat:=by simp [A4h]
theorem hs1:A4h P ⟨u,1,a,b⟩ w=!bit w.2 a.toNat:=by simp [A4h]
theorem hs2:A4h P ⟨u,2,a,b⟩ w=!bit w.1 a.toNat:=by simp [A4h]
theorem hs3:A4h P ⟨u,3,a,b⟩ w=bit w.1 a.toNat:=by simp [A4h]
theorem hs4:A4h P ⟨u,4,a,b⟩ w=(!bit w.2 a.toNat||bit w.2 b.toNat):=by simp [A4h]
theorem hs5:A4h P ⟨u,5,a,b⟩ w=(bit w.1 a.toNat==bit w.1 b.toNat):=by simp [A4h]
theorem hs6:A4h P ⟨u,6,a,b⟩ w=decide ((P:Int)-cnt w.1≥a):=by simp [A4h]
end
theorem wordE_inv{P F:Nat}{w k x y:Int}(h:A2k P F ⟨w,k,x,y⟩=0):(k=0∧0≤x∧x≤(F:Int)-1)∨(k=1∧0≤x∧x≤(F:Int)-1)∨(k=2∧0≤x∧x≤(P:Int)-1)∨(k=3∧0≤x∧x≤(P:Int)-1)∨
  (k=4∧0≤x∧x≤(F:Int)-1∧0≤y∧y≤(F:Int)-1)∨(k=5∧0≤x∧x≤(P:Int)-1∧0≤y∧y≤(P:Int)-1)∨(k=6∧0≤x∧x≤(P:Int)):=by
 unfold A2k at h
 dsimp only at h
 (repeat' split at h)<;>omega
structure TF where
 i:Nat
 a:Option Addr
 c:Nat
 seg:A0j
section
variable{mn:Who}{rd:Option Nat}{n:Nat}{Q:Exit→St→View→Prop}{ds:List Deferred}{ρ:Regs}{β:A0j}{v:View}
 {ops:Array Oper}{i:Nat}{l:List Oper}{d:Nat}{ty:TypeId}{pos:String}{af:Array Edge}{gu:Option (Nat×Bool)}
theorem rt0{fn:Func}{R:Pal.End→A0j→Prop}{x:Value}(h2:R (.ret x) [])(h1:ResL tab ρ β fn.results.toList [x]:=by exact .tmp rfl .nil):FnB tab fn R v .ret ⟨[],ρ,β⟩ v:=A0l tab [] h1 (Back.here fun p=>Nat.zero_le _) h2
theorem q1{f:Operand}{args:Array Operand}{ats:Array TypeId}{k:FuncId}{first captured:Array Value}{xs ys:List Value}{x:Value}(hk:A0n prog k)(hw:A0x ops gu ρ=some true)(hn:Nat.blt d n=true)(hf:ρ.val f=some (.func (.func k) first captured))(hxs:A3q ρ.val args.toList=some xs)
  (hys:first.toList++(xs++captured.toList)=ys)(hc:Ret1 prog mn k ys x v)(h:XR prog mn rd n ops (i+1) l Q ⟨ds,(d,x)::ρ,β⟩ v):XR prog mn rd n ops i (⟨some d,.call {callee:=.value f,args:=args,argTypes:=ats },ty,pos,af,gu⟩::l) Q ⟨ds,ρ,β⟩ v:=Q_op fun ho=>A0s ho hk hw hn hf hxs hys hc h
end
section
variable{mn:Who}{v:View}
theorem has_r{l:List Nat}{a:Option Addr}{cap p:Nat}(hrow:RowAt v a (l.map natV))(hlen:l.length<2^30):Ret1 prog mn 93 [.slice a l.length cap,.int .i64 p] (.bool (decide (p∈l))) v:=by
 refine A0f tab func93 Z nB (args:=[_,_]) ?_
 repeat refine st ?_
 refine A1o (α:=Nat) (fun i=>⟨[],[(5,.int .i64 i),(0,.slice a l.length cap),(1,.int .i64 p)],[]⟩)
  (fun i u=>v=u∧i≤l.length∧decide (p∈l)=decide (p∈l.drop i)) (fun i=>l.length-i) 0 ⟨Z,rg,cntL⟩ (Le.refl _) ⟨Z,Nat.zero_le _,Z⟩ ?_
 rintro i u ⟨rfl,hi,hE⟩
 repeat refine st ?_
 refine A0t Z (fun h=>?_) (fun h=>?_)
 ·have hlt:i<l.length:=by have:=of_decide_eq_true h;omega
  clear h
  obtain⟨b,off,q,c,e,f,rfl,hv,hc⟩:=hrow.get hlt
  rw [List.drop_eq_getElem_cons hlt]at hE
  repeat refine st ?_
  refine A2t tab i Z Z Z Z Z Z Z hlt ?_
  refine A2p tab Z Z Z hv (A1b tab Z Z Z (by rw [Nat.mul_one];exact hc _ hlt)) ?_
  repeat refine st ?_
  refine A0t Z (fun h=>?_) (fun h=>?_)
  ·have he:p=l[i]:=by have:=eq_of_beq h;omega
   clear h
   repeat refine st ?_
   refine rt0 ?_
   rw [hE,decide_eq_true (by rw [he];exact List.mem_cons_self ..)]
   exact⟨Z,Z⟩
  ·have he:p≠l[i]:=by have:=beq_eq_false_iff_ne.1 h;omega
   clear h
   repeat refine st ?_
   refine A0c ⟨i+1,v,oM,⟨Z,rg,cntL⟩,Le.refl _,Z,hlt,?_⟩
   rw [hE]
   simp only [List.mem_cons,he,false_or]
 ·have hin:i=l.length:=by have:=of_decide_eq_false h;omega
  clear h
  subst hin
  rw [List.drop_length]at hE
  repeat refine st ?_
  refine rt0 ?_
  rw [hE];exact⟨Z,Z⟩
theorem B5d{g:Nat}{a:Option Addr}{cap p:Nat}(hrow:RowAt v a ((lst g).map natV))(hp:p<8):Ret1 prog mn 93 [.slice a (lst g).length cap,.int .i64 p] (.bool (bit g p)) v:=by
 have h:=has_r (mn:=mn) (cap:=cap) (p:=p) hrow (Nat.lt_of_le_of_lt (lst_len8 g) dM)
 rwa [show decide (p∈lst g)=bit g p from by rw [Bool.eq_iff_iff,decide_eq_true_eq];exact lst_mem hp]at h
def notK(l:List Nat)(k:Nat):List Nat:=(List.range k).filter fun p=>!decide (p∈l)
theorem notK_succ{l:List Nat}{k:Nat}:notK l (k+1)=if decide (k∈l)=true then notK l k else notK l k++[k]:=by
 unfold notK
 rw [List.range_succ,List.filter_append,List.filter_cons,List.filter_nil]
 cases h:decide (k∈l)<;>simp
theorem notK_len{l:List Nat}{k:Nat}:(notK l k).length≤k:=by
 have:=List.length_filter_le (fun p=>!decide (p∈l)) (List.range k)
 rwa [List.length_range]at this
theorem others_r{l:List Nat}{a:Option Addr}{cap n:Nat}(hrow:RowAt v a (l.map natV))(hlen:l.length<2^30)(hn:n≤8) :
  CallsB prog mn 140 #[.slice a l.length cap,.int .i64 n] (RetB fun r β'=>OwnL β' r (notK l n)) [] v:=by
 refine A0f tab func140 Z nB (args:=[_,_]) ?_
 repeat refine st ?_
 refine A1o (α:=TF) (fun z=>⟨[],[(6,.int .i64 z.i),(5,.slice z.a (notK l z.i).length z.c),(0,.slice a l.length cap),(1,.int .i64 n)],z.seg⟩)
  (fun z u=>v=u∧z.i≤n∧OwnS 3 1 z.seg z.a (notK l z.i).length z.c ((notK l z.i).map natV)) (fun z=>n-z.i)
  ⟨0,none,0,[]⟩ ⟨Z,rg,cntL⟩ (Le.refl _) ⟨Z,Nat.zero_le _,.nil⟩ ?_
 rintro⟨i,ao,co,seg⟩ u ⟨rfl,hi,hS⟩
 dsimp only at hi hS⊢
 have hfl:=notK_len (l:=l) (k:=i)
 repeat refine st ?_
 refine A0t Z (fun h=>?_) (fun h=>?_)
 ·have hlt:i<n:=by have:=of_decide_eq_true h;omega
  clear h
  repeat refine st ?_
  refine q1 bod93 Z Z Z Z Z (has_r hrow hlen) ?_
  repeat refine st ?_
  have hsucc:=notK_succ (l:=l) (k:=i)
  cases hbit:decide (i∈l)with
  | true=>
   rw [hbit,if_pos rfl]at hsucc
   repeat refine st ?_
   refine A0c ⟨⟨i+1,ao,co,seg⟩,v,by dsimp only;omega,⟨Z,?_,cntL⟩,Le.refl _,Z,hlt,?_⟩
   ·dsimp only;rw [hsucc];exact rg
   ·dsimp only;rw [hsucc];exact hS
  | false=>
   rw [hbit,if_neg dM]at hsucc
   repeat refine st ?_
   refine Q_op fun ho=>A3x tab ho Z Z Z Z Z Z Z Z Z (fun b4 c3 hL=>?_)
   refine Q_op fun ho=>A2w tab (xs:=[natV i]) seg [(b4,c3,3)] [] ho Z Z Z Z Z Z Z Z Z Z cntA hS
    (fun hb=>RowAt.own hb cntL hL) Z Z (by show(2*((notK l i).length+1)+768)*8≤2^48;omega) oM (fun seg' a' cap' hS'=>?_)
   clear ho
   repeat refine st ?_
   refine A0c ⟨⟨i+1,a',cap',seg'⟩,v,by dsimp only;omega,⟨Z,?_,cntL⟩,Le.refl _,Z,hlt,?_⟩
   ·dsimp only;rw [hsucc,List.length_append,List.length_singleton];exact rg
   ·dsimp only;rw [hsucc,List.length_append,List.length_singleton,List.map_append];exact hS'
 ·have hie:i=n:=by have:=of_decide_eq_false h;omega
  clear h
  subst hie
  repeat refine st ?_
  refine A0l tab (β':=seg) (by exact .tmp rfl .nil) (Back.here cntL) ?_
  exact⟨ao,co,Z,hS⟩
theorem so_r{P F n cap t s:Nat}{a a1 a2:Option Addr}{c1 c2:Nat}{x:Wd}(hP:P≤4)(hF:F≤3)(hx:A2k P F x=0)(h1:RowAt v a1 ((lst t).map natV))(h2:RowAt v a2 ((lst s).map natV)) :
  Ret1 prog mn 119 [boV P F a n cap,.agg #[.slice a1 (lst t).length c1,.slice a2 (lst s).length c2],wdV x] (.bool (A4h P x (t,s))) v:=by
 obtain⟨w,k,x,y⟩:=x
 have hl1:=lst_len8 t
 refine A0f tab func119 Z nB (args:=[_,_,_]) ?_
 repeat (first|refine st ?_|refine qb fun bx=>?_)
 rcases wordE_inv hx with ⟨rfl,k1,k2⟩|⟨rfl,k1,k2⟩|⟨rfl,k1,k2⟩|⟨rfl,k1,k2⟩|⟨rfl,k1,k2,k3,k4⟩|⟨rfl,k1,k2,k3,k4⟩|⟨rfl,k1,k2⟩
 ·obtain⟨x,rfl⟩:=Int.eq_ofNat_of_zero_le k1
  rw [hs0,Int.toNat_natCast]
  repeat refine st ?_
  refine q1 bod93 Z Z Z Z Z (B5d h2 oM) ?_
  repeat refine st ?_
  refine rt0 ?_
  exact⟨Z,Z⟩
 ·obtain⟨x,rfl⟩:=Int.eq_ofNat_of_zero_le k1
  rw [hs1,Int.toNat_natCast]
  repeat refine st ?_
  refine q1 bod93 Z Z Z Z Z (B5d h2 oM) ?_
  repeat refine st ?_
  refine rt0 ?_
  exact⟨Z,Z⟩
 ·obtain⟨x,rfl⟩:=Int.eq_ofNat_of_zero_le k1
  rw [hs2,Int.toNat_natCast]
  repeat refine st ?_
  refine q1 bod93 Z Z Z Z Z (B5d h1 oM) ?_
  repeat refine st ?_
  refine rt0 ?_
  exact⟨Z,Z⟩
 ·obtain⟨x,rfl⟩:=Int.eq_ofNat_of_zero_le k1
  rw [hs3,Int.toNat_natCast]
  repeat refine st ?_
  refine q1 bod93 Z Z Z Z Z (B5d h1 oM) ?_
  repeat refine st ?_
  refine rt0 ?_
  exact⟨Z,Z⟩
 ·obtain⟨x,rfl⟩:=Int.eq_ofNat_of_zero_le k1
  obtain⟨y,rfl⟩:=Int.eq_ofNat_of_zero_le k3
  rw [hs4,Int.toNat_natCast,Int.toNat_natCast]
  repeat refine st ?_
  refine q1 bod93 Z Z Z Z Z (B5d h2 oM) ?_
  cases hb:bit s x with
  | true=>
   repeat refine st ?_
   refine q1 bod93 Z Z Z Z Z (B5d h2 oM) ?_
   repeat refine st ?_
   refine rt0 ?_
   exact⟨Z,Z⟩
  | false=>
   repeat refine st ?_
   refine rt0 ?_
   exact⟨Z,Z⟩
 ·obtain⟨x,rfl⟩:=Int.eq_ofNat_of_zero_le k1
  obtain⟨y,rfl⟩:=Int.eq_ofNat_of_zero_le k3
  rw [hs5,Int.toNat_natCast,Int.toNat_natCast]
  repeat refine st ?_
  refine lexL A1w Z kR ?_
  repeat refine st ?_
  refine A3r bod93 Z Z Z Z Z (B5d h1 oM) ?_
  repeat refine st ?_
  refine A3r bod93 Z Z Z Z Z (B5d h1 oM) ?_
  repeat refine st ?_
  refine rt0 ?_
  exact⟨Z,Z⟩
 ·obtain⟨x,rfl⟩:=Int.eq_ofNat_of_zero_le k1
  rw [hs6]
  repeat refine st ?_
  refine rt0 ?_
  refine⟨congrArg Value.bool ?_,Z⟩
  rw [Bool.eq_iff_iff,decide_eq_true_eq,decide_eq_true_eq]
  unfold Go.Pal.Vo.cnt
  dsimp only
  exact Iff.rfl
end
end Go.Proofs.YtiolobmgibdfmaaGreat
end
section
namespace Go.Pal.Vo
def lexN:Nat→Nat→List (List Nat)
 | 0,_=>[[]]
 | k+1,f=>[]::((lexN k (f+1)).map (f::·)++(lexN k (f+1)).tail)
theorem lexN_head(k f:Nat):lexN k f=[]::(lexN k f).tail:=by cases k<;>rfl
theorem lexN_len:∀(k f:Nat),(lexN k f).length=2 ^ k
 | 0,_=>rfl
 | k+1,f=>by
  have h:=lexN_len k (f+1)
  have hp:0<2 ^ k:=Nat.pow_pos dM
  simp only [lexN,List.length_cons,List.length_append,List.length_map,List.length_tail,h]
  rw [Nat.pow_succ]
  omega
theorem lexN_mem:∀{k f:Nat} {l:List Nat},l∈lexN k f→l.length≤k∧∀x∈l,f≤x∧x<f+k
 | 0,f,l,h=>by
  simp only [lexN,List.mem_singleton]at h
  subst h
  exact⟨Nat.le_refl _,fun x hx=>by cases hx⟩
 | k+1,f,l,h=>by
  simp only [lexN,List.mem_cons,List.mem_append,List.mem_map]at h
  rcases h with rfl|⟨m,hm,rfl⟩|h
  ·exact⟨Nat.zero_le _,fun x hx=>by cases hx⟩
  ·obtain⟨h1,h2⟩:=lexN_mem hm
   refine⟨by simp;omega,fun x hx=>?_⟩
   rcases List.mem_cons.1 hx with rfl|hx
   ·omega
   ·have:=h2 x hx;omega
  ·obtain⟨h1,h2⟩:=lexN_mem (List.mem_of_mem_tail h)
   refine⟨oM,fun x hx=>?_⟩
   have:=h2 x hx;omega
def orL(l:List Nat):Nat:=l.foldl (fun g n=>g+2 ^ n) 0
def outL(n:Nat)(l:List Nat):Nat:=(2 ^ n-1)-orL l
def refW(P F:Nat):List Wl:=(List.range (P+1)).flatMap fun m=>(lexN P 0).flatMap fun l=>if l.length=m then(lexN F 0).map fun s=>(outL P l,orL s)else []
theorem refW_tab:(List.range 5).all (fun P=>(List.range 4).all fun F=>(refW P F).length==2 ^ P*2 ^ F&&(List.range ((refW P F).length-1)).all (fun i=>ltW P ((refW P F).getD i (0,0)) ((refW P F).getD (i+1) (0,0)))&&(refW P F).all (fun w=>decide (w.1<2 ^ P)&&decide (w.2<2 ^ F))&&(A2a P F).all fun w=>(refW P F).contains w)=true:=by decide +kernel
theorem asc_chain{P:Nat}:∀{l:List Wl},(∀i,i+1<l.length→ltW P (l.getD i (0,0)) (l.getD (i+1) (0,0))=true)→Asc P l
 | [],_=>by simp [Asc]
 | [x],_=>by simp [Asc]
 | x::y::l,h=>by
  have ih:=asc_chain (P:=P) (l:=y::l) fun i hi=>by
   have:=h (i+1) (by simp at hi⊢;omega)
   simpa using this
  have h0:ltW P x y=true:=by
   have:=h 0 sM
   simpa using this
  refine List.pairwise_cons.2 ⟨fun z hz=>?_,ih⟩
  rcases List.mem_cons.1 hz with rfl|hz
  ·exact h0
  ·exact B3f P x y z h0 ((List.pairwise_cons.1 ih).1 z hz)
theorem refW_ok{P F:Nat}(hP:P≤4)(hF:F≤3):Asc P (refW P F)∧∀w,w∈refW P F↔w∈A2a P F:=by
 have h1:=List.all_eq_true.1 (List.all_eq_true.1 refW_tab P (List.mem_range.2 oM)) F (List.mem_range.2 oM)
 simp only [Bool.and_eq_true,List.all_eq_true,List.mem_range,decide_eq_true_eq,beq_iff_eq,List.contains_iff_mem]at h1
 obtain⟨⟨⟨h1,h2⟩,h3⟩,h4⟩:=h1
 exact⟨asc_chain fun i hi=>h2 i oM,fun w=>⟨fun hw=>B1i.2 (h3 w hw),fun hw=>h4 w hw⟩⟩
theorem refW_worlds{P F:Nat}(hP:P≤4)(hF:F≤3)(ws:List Wd):(refW P F).filter (can P ws)=A0g P F ws:=by
 obtain⟨h1,h2⟩:=refW_ok hP hF
 refine worldsL_eq oM oM (h1.filter _) fun w=>?_
 rw [List.mem_filter,h2]
end Go.Pal.Vo
end
section
namespace Go.Proofs.YtiolobmgibdfmaaGreat
open Go Go.Pal Go.Pal.Vo Go.Conc View
open Go.Proofs.Tryz
set_option maxHeartbeats 4000000
set_option maxRecDepth 20000
structure RLS where
 i:Nat
 O:List (List Nat)
 a:Option Addr
 cap:Nat
 seg:A0j
 rows:List Value
 segR:A0j
theorem rows_get{v:View}{al:Option Addr}{rows:List Value}{L:List (List Nat)}(hrow:RowAt v al rows)(hrs:RowsOf v rows L){x:Nat}(hx:x<L.length):∃b off p c e f ai ci,al=some ⟨b,off,none⟩∧v b=some (p,.cells c e f)∧c[off+x]?=some (.slice ai L[x].length ci)∧RowAt v ai (L[x].map natV):=by
 obtain⟨ai,ci,h1,h2⟩:=hrs.2 x hx
 rcases hrow with h|⟨b,off,p,c,e,f,k1,k2,k3,k4⟩
 ·rw [h]at h1;cases h1
 ·exact⟨b,off,p,c,e,f,ai,ci,k1,k2,k4 x _ h1,h2⟩
section
variable{mn:Who}
theorem lists_r{n:Nat}(hn:n≤8):∀(k:Nat) {f:Nat} {v:View},f+k=n→CallsB prog mn 139 #[.int .i64 f,.int .i64 n] (RetB fun r β'=>OwnLL β' r (lexN k f)) [] v:=by
 intro k
 induction k using Nat.strongRecOn with
 | _ k ih=>
 intro f v hfk
 refine A0f tab func139 Z nB (args:=[_,_]) ?_
 repeat refine st ?_
 refine Q_op fun ho=>A3x tab ho Z Z Z Z Z Z Z Z Z (fun b3 c3 hL=>?_)
 clear ho
 repeat refine st ?_
 refine A1o (α:=RLS) (fun z=>⟨[],[(6,.int .i64 z.i),(5,.slice z.a z.O.length z.cap),(0,.int .i64 f),(1,.int .i64 n)],z.seg⟩)
  (fun z u=>u=v.union (A0e z.segR)∧Bok z.segR v∧f≤z.i∧z.i≤n∧z.O++(lexN (n-z.i) z.i).tail=lexN k f∧OwnS 27 1 z.seg z.a z.O.length z.cap z.rows∧∀v,Bok z.segR v→RowsOf (v.union (A0e z.segR)) z.rows z.O) (fun z=>n-z.i)
  ⟨f,[[]],some ⟨b3,0,none⟩,1,[(b3,c3,27)],[.slice none 0 0],[]⟩ ⟨Z,rg,cntL⟩ (by rw [A2r];exact Le.refl _) ⟨Z,B3u v,Nat.le_refl _,by dsimp only;omega,?_,hL,fun v _=>⟨Z,fun i hi=>?_⟩⟩ ?_
 ·dsimp only
  rw [show n-f=k by omega]
  exact(lexN_head k f).symm
 ·have:i=0:=by simp at hi;omega
  subst this
  exact⟨none,0,Z,.inl Z⟩
 rintro⟨i,O,a,cap,seg,rows,segR⟩ u ⟨rfl,hbR,hfi,hi,hE,hO,hR⟩
 dsimp only at hbR hfi hi hE hO hR⊢
 have hOl:O.length≤256:=by
  have h1:=congrArg List.length hE
  rw [List.length_append,lexN_len]at h1
  have h2:2 ^ k≤2^8:=Nat.pow_le_pow_right dM oM
  omega
 repeat refine st ?_
 refine A0t Z (fun h=>?_) (fun h=>?_)
 ·have hlt:i<n:=by have:=of_decide_eq_true h;omega
  clear h
  have hc:=ih (n-(i+1)) oM (f:=i+1) (v:=(v.union (A0e segR)).union (A0e seg)) oM
  rw [show((i+1:Nat):Int)=(i:Int)+1 by omega]at hc
  repeat refine st ?_
  have hR0:=hR
  clear hR
  refine Q_op fun ho=>A0i [] _ ho bod139 Z Z Z Z Z A1n (hc) (fun x β' hR=>?_)
  clear ho hc
  refine A0w (β1:=β') (β2:=_) (fun _=>rfl) (fun hb2=>?_)
  obtain⟨al,cl,rowsL,rfl,hrowL,hrsL⟩:=hR.read hb2 (fun _=>Nat.le_refl _)
  clear hR
  have hbn:Bok (β'++segR) v:=bok_append.2 ⟨hbR,hb2⟩
  have hun:=A1m hbn
  rw [←hun]at hrowL hrsL⊢
  have hRn:∀v,Bok (β'++segR) v→RowsOf (v.union (A0e (β'++segR))) rows O:=fun v' hb'=>by
   obtain⟨k1,k2⟩:=bok_append.1 hb'
   exact(hR0 v' k1).le (by rw [A1m hb'];exact A0b _ _)
  have htl:(lexN (n-i) i).tail=(lexN (n-(i+1)) (i+1)).map (i::·)++(lexN (n-(i+1)) (i+1)).tail:=by
   rw [show n-i=(n-(i+1))+1 by omega];rfl
  have hLl:(lexN (n-(i+1)) (i+1)).length≤256:=by
   rw [lexN_len];exact Nat.pow_le_pow_right (n:=2) dM (show n-(i+1)≤8 by omega)
  have hLm:∀l∈lexN (n-(i+1)) (i+1),l.length≤8:=fun l hl=>by have:=(lexN_mem hl).1;omega
  rw [htl]at hE
  clear htl hR0 hun hb2 hbR
  generalize hLe:lexN (n-(i+1)) (i+1)=L at hrowL hrsL hE hLl hLm
  generalize hT:L.tail=T at hE
  generalize β'++segR=segR1 at hbn hrowL hrsL hRn⊢
  repeat refine st ?_
  refine A1o (α:=RLS) (fun z=>⟨[],[(8,.int .i64 z.i),(7,.slice al L.length cl),(6,.int .i64 i),(5,.slice z.a z.O.length z.cap),(0,.int .i64 f),(1,.int .i64 n)],z.seg⟩)
   (fun z u=>u=v.union (A0e z.segR)∧Bok z.segR v∧z.i≤L.length∧z.O=O++(L.take z.i).map (i::·)∧OwnS 27 1 z.seg z.a z.O.length z.cap z.rows∧(∀v,Bok z.segR v→RowsOf (v.union (A0e z.segR)) z.rows z.O)∧RowAt u al rowsL∧RowsOf u rowsL L) (fun z=>L.length-z.i)
   ⟨0,O,a,cap,seg,rows,segR1⟩ ⟨Z,rg,cntL⟩ (Le.refl _) ⟨Z,hbn,Nat.zero_le _,by simp,hO,hRn,hrowL,hrsL⟩ ?_
  clear hO hRn hrowL hrsL hbn a cap seg rows segR segR1 β'
  rintro⟨x,O',a,cap,seg,rows,segR⟩ u ⟨rfl,hbR,hx,hO',hO,hR,hrowL,hrsL⟩
  dsimp only at hbR hx hO' hO hR hrowL hrsL⊢
  subst hO'
  have hOl':(O++(L.take x).map (i::·)).length≤512:=by
   rw [List.length_append,List.length_map,List.length_take];omega
  repeat refine st ?_
  refine A0t Z (fun h=>?_) (fun h=>?_)
  ·have hxl:x<L.length:=by have:=of_decide_eq_true h;omega
   clear h
   obtain⟨bb,off,q,c,e,fr,ai,ci,rfl,hv,hc,hrowi⟩:=rows_get hrowL hrsL hxl
   have hl8:=hLm _ (List.getElem_mem hxl)
   have htake:(L.take (x+1)).map (i::·)=(L.take x).map (i::·)++[i::L[x]]:=by rw [List.take_succ_eq_append_getElem hxl,List.map_append];rfl
   generalize L[x]=l at hc hrowi hl8 htake
   repeat refine st ?_
   refine Q_op fun ho=>A3x tab ho Z Z Z Z Z Z Z Z Z (fun b4 c4 hL4=>?_)
   clear ho
   repeat refine st ?_
   refine A2t tab x Z Z Z Z Z Z Z hxl ?_
   refine A2p tab Z Z Z hv (A1b tab Z Z Z (by rw [Nat.mul_one];exact hc)) ?_
   refine Q_op fun ho=>A2w tab (xs:=l.map natV) [(b4,c4,3)] [] seg ho Z Z Z Z Z Z Z Z Z Z cntA hL4
    (fun hb=>RowAt.le hrowi (A0b _ _)) sM (nats_one l natV fun _=>rfl) (by show(2*(1+l.length)+768)*8≤2^48;omega) oM (fun seg2 a2 cap2 hS2=>?_)
   clear ho
   refine Q_op fun ho=>A3x tab ho Z Z Z Z Z Z Z Z Z (fun b5 c5 hL5=>?_)
   clear ho
   refine Q_op fun ho=>A2w tab (xs:=[.slice a2 (1+l.length) cap2]) seg [(b5,c5,27)] seg2 ho Z Z Z Z Z Z Z Z Z Z cntA hO
    (fun hb=>RowAt.own hb cntL hL5) Z Z (by show(2*((O++(L.take x).map (i::·)).length+1)+768)*24≤2^48;omega) oM (fun seg3 a3 cap3 hS3=>?_)
   clear ho
   refine A0w (β1:=seg2) (β2:=seg3) cntA (fun hb2=>?_)
   have hbn:Bok (seg2++segR) v:=bok_append.2 ⟨hbR,hb2⟩
   have hun:=A1m hbn
   rw [←hun]
   have hlen:(O++(L.take (x+1)).map (i::·)).length=(O++(L.take x).map (i::·)).length+1:=by rw [htake,←List.append_assoc,List.length_append];rfl
   repeat refine st ?_
   refine A0c ⟨⟨x+1,O++(L.take (x+1)).map (i::·),a3,cap3,seg3,rows++[.slice a2 (1+l.length) cap2],seg2++segR⟩,_,(show L.length-(x+1)<L.length-x by omega),⟨Z,?_,cntL⟩,Le.refl _,Z,hbn,hxl,Z,?_,?_,?_,?_⟩
   ·show SubR [_,_,_,(5,.slice a3 (O++(L.take (x+1)).map (i::·)).length cap3),_,_] _
    rw [hlen]
    exact rg
   ·show OwnS 27 1 seg3 a3 (O++(L.take (x+1)).map (i::·)).length cap3 _
    rw [hlen]
    exact hS3
   ·intro v' hb'
    obtain⟨k1,k2⟩:=bok_append.1 hb'
    show RowsOf _ (rows++[_]) (O++(L.take (x+1)).map (i::·))
    rw [htake,←List.append_assoc]
    refine RowsOf.snoc ((hR v' k1).le ?_) (by simp;omega) ?_
    ·rw [A1m hb'];exact A0b _ _
    ·rw [A1m hb']
     exact RowAt.own k2 (fun _=>Nat.le_refl _) hS2
   ·rw [hun];exact RowAt.le hrowL (A0b _ _)
   ·rw [hun];exact hrsL.le (A0b _ _)
  ·have hxe:x=L.length:=by have:=of_decide_eq_false h;omega
   clear h
   subst hxe
   rw [List.take_length]at hO hR⊢
   repeat refine st ?_
   refine A0c ⟨⟨i+1,O++L.map (i::·),a,cap,seg,rows,segR⟩,_,by dsimp only;omega,⟨Z,rg,cntL⟩,Le.refl _,Z,hbR,by dsimp only;omega,hlt,?_,hO,hR⟩
   show(O++L.map (i::·))++(lexN (n-(i+1)) (i+1)).tail=_
   rw [hLe,hT,List.append_assoc]
   exact hE
 ·have hin:i=n:=by have:=of_decide_eq_false h;omega
  subst hin
  clear h
  rw [Nat.sub_self]at hE
  have hE':O=lexN k f:=by rw [←hE];simp [lexN]
  subst hE'
  repeat refine st ?_
  refine A0l tab (β':=seg++segR) (by exact .tmp rfl .nil) (Back.retired hbR (Back.here cntL)) ?_
  exact⟨a,cap,seg,segR,rows,Z,Z,hO,hR⟩
end
section
variable{mn:Who}{v:View}
theorem rV{a b:Int}(h:a=b):Value.int .i64 a = .int .i64 b∧([]:A0j)=[]:=⟨by rw [h],Z⟩
theorem checkWordR_x{P F:Nat}{x:Wd}{a:Option Addr}{n cap:Nat}(hP:P<2^30)(hF:F<2^30):Ret1 prog mn 128 [boV P F a n cap,wdV x] (.int .i64 (A2k P F x)) v:=by
 have pP:∀{y:Int} {k:Bool},decide (0≤y∧y≤(P:Int)-1)=k→Ret1 prog mn 111 [boV P F a n cap,.int .i64 y] (.bool k) v:=fun h=>h ▸ isPerson_x hP
 have pF:∀{y:Int} {k:Bool},decide (0≤y∧y≤(F:Int)-1)=k→Ret1 prog mn 97 [boV P F a n cap,.int .i64 y] (.bool k) v:=fun h=>h ▸ isFact_x hF
 obtain⟨w,k,xa,xb⟩:=x
 refine A0f tab func128 Z nB (args:=[_,_]) ?_
 repeat (first|refine st ?_|refine qb fun bx=>?_)
 by_cases hw:0≤w∧w≤(P:Int)-1
 rotate_left
 ·refine q1 B5b Z Z Z Z Z (pP (decide_eq_false hw)) ?_
  repeat refine st ?_
  refine rt0 ?_
  exact⟨congrArg (Value.int .i64) (by unfold A2k;dsimp only;rw [if_pos hw]),Z⟩
 refine q1 B5b Z Z Z Z Z (pP (decide_eq_true hw)) ?_
 repeat refine st ?_
 have hk:k=0∨k=1∨k=2∨k=3∨k=4∨k=5∨k=6∨(k<0∨6<k):=oM
 rcases hk with rfl|rfl|rfl|rfl|rfl|rfl|rfl|hk
 ·repeat refine st ?_
  by_cases ha:0≤xa∧xa≤(F:Int)-1
  rotate_left
  ·refine q1 bod97 Z Z Z Z Z (pF (decide_eq_false ha)) ?_
   repeat refine st ?_
   refine rt0 ?_
   exact rV (by unfold A2k;dsimp only;(repeat' split)<;>omega)
  refine q1 bod97 Z Z Z Z Z (pF (decide_eq_true ha)) ?_
  repeat refine st ?_
  refine A0t Z (fun h=>?_) (fun h=>?_)
  ·have hlt:xb≠0:=bne_iff_ne.1 h
   repeat refine st ?_
   refine rt0 ?_
   exact rV (by unfold A2k;dsimp only;(repeat' split)<;>omega)
  ·have hlt:xb=0:=by simpa using h
   repeat refine st ?_
   refine rt0 ?_
   exact rV (by unfold A2k;dsimp only;(repeat' split)<;>omega)
 ·repeat refine st ?_
  by_cases ha:0≤xa∧xa≤(F:Int)-1
  rotate_left
  ·refine q1 bod97 Z Z Z Z Z (pF (decide_eq_false ha)) ?_
   repeat refine st ?_
   refine rt0 ?_
   exact rV (by unfold A2k;dsimp only;(repeat' split)<;>omega)
  refine q1 bod97 Z Z Z Z Z (pF (decide_eq_true ha)) ?_
  repeat refine st ?_
  refine A0t Z (fun h=>?_) (fun h=>?_)
  ·have hlt:xb≠0:=bne_iff_ne.1 h
   repeat refine st ?_
   refine rt0 ?_
   exact rV (by unfold A2k;dsimp only;(repeat' split)<;>omega)
  ·have hlt:xb=0:=by simpa using h
   repeat refine st ?_
   refine rt0 ?_
   exact rV (by unfold A2k;dsimp only;(repeat' split)<;>omega)
 ·repeat refine st ?_
  by_cases ha:0≤xa∧xa≤(P:Int)-1
  rotate_left
  ·refine q1 B5b Z Z Z Z Z (pP (decide_eq_false ha)) ?_
   repeat refine st ?_
   refine rt0 ?_
   exact rV (by unfold A2k;dsimp only;(repeat' split)<;>omega)
  refine q1 B5b Z Z Z Z Z (pP (decide_eq_true ha)) ?_
  repeat refine st ?_
  refine A0t Z (fun h=>?_) (fun h=>?_)
  ·have hlt:xb≠0:=bne_iff_ne.1 h
   repeat refine st ?_
   refine rt0 ?_
   exact rV (by unfold A2k;dsimp only;(repeat' split)<;>omega)
  ·have hlt:xb=0:=by simpa using h
   repeat refine st ?_
   refine rt0 ?_
   exact rV (by unfold A2k;dsimp only;(repeat' split)<;>omega)
 ·repeat refine st ?_
  by_cases ha:0≤xa∧xa≤(P:Int)-1
  rotate_left
  ·refine q1 B5b Z Z Z Z Z (pP (decide_eq_false ha)) ?_
   repeat refine st ?_
   refine rt0 ?_
   exact rV (by unfold A2k;dsimp only;(repeat' split)<;>omega)
  refine q1 B5b Z Z Z Z Z (pP (decide_eq_true ha)) ?_
  repeat refine st ?_
  refine A0t Z (fun h=>?_) (fun h=>?_)
  ·have hlt:xb≠0:=bne_iff_ne.1 h
   repeat refine st ?_
   refine rt0 ?_
   exact rV (by unfold A2k;dsimp only;(repeat' split)<;>omega)
  ·have hlt:xb=0:=by simpa using h
   repeat refine st ?_
   refine rt0 ?_
   exact rV (by unfold A2k;dsimp only;(repeat' split)<;>omega)
 ·repeat refine st ?_
  by_cases ha:0≤xa∧xa≤(F:Int)-1
  rotate_left
  ·refine q1 bod97 Z Z Z Z Z (pF (decide_eq_false ha)) ?_
   repeat refine st ?_
   refine rt0 ?_
   exact rV (by unfold A2k;dsimp only;(repeat' split)<;>omega)
  refine q1 bod97 Z Z Z Z Z (pF (decide_eq_true ha)) ?_
  repeat refine st ?_
  by_cases hb:0≤xb∧xb≤(F:Int)-1
  rotate_left
  ·refine q1 bod97 Z Z Z Z Z (pF (decide_eq_false hb)) ?_
   repeat refine st ?_
   refine rt0 ?_
   exact rV (by unfold A2k;dsimp only;(repeat' split)<;>omega)
  refine q1 bod97 Z Z Z Z Z (pF (decide_eq_true hb)) ?_
  repeat refine st ?_
  refine rt0 ?_
  exact rV (by unfold A2k;dsimp only;(repeat' split)<;>omega)
 ·repeat refine st ?_
  by_cases ha:0≤xa∧xa≤(P:Int)-1
  rotate_left
  ·refine q1 B5b Z Z Z Z Z (pP (decide_eq_false ha)) ?_
   repeat refine st ?_
   refine rt0 ?_
   exact rV (by unfold A2k;dsimp only;(repeat' split)<;>omega)
  refine q1 B5b Z Z Z Z Z (pP (decide_eq_true ha)) ?_
  repeat refine st ?_
  by_cases hb:0≤xb∧xb≤(P:Int)-1
  rotate_left
  ·refine q1 B5b Z Z Z Z Z (pP (decide_eq_false hb)) ?_
   repeat refine st ?_
   refine rt0 ?_
   exact rV (by unfold A2k;dsimp only;(repeat' split)<;>omega)
  refine q1 B5b Z Z Z Z Z (pP (decide_eq_true hb)) ?_
  repeat refine st ?_
  refine A0t Z (fun h=>?_) (fun h=>?_)
  ·have hlt:xa≥xb:=of_decide_eq_true h
   repeat refine st ?_
   refine rt0 ?_
   exact rV (by unfold A2k;dsimp only;(repeat' split)<;>omega)
  ·have hlt:¬xa≥xb:=of_decide_eq_false h
   repeat refine st ?_
   refine rt0 ?_
   exact rV (by unfold A2k;dsimp only;(repeat' split)<;>omega)
 ·repeat refine st ?_
  refine q1 bod127 Z Z Z Z Z B5c ?_
  by_cases ha:0≤xa∧xa≤(P:Int)
  rotate_left
  ·rw [decide_eq_false ha]
   repeat refine st ?_
   refine rt0 ?_
   exact rV (by unfold A2k;dsimp only;(repeat' split)<;>omega)
  rw [decide_eq_true ha]
  repeat refine st ?_
  refine A0t Z (fun h=>?_) (fun h=>?_)
  ·have hlt:xb≠0:=bne_iff_ne.1 h
   repeat refine st ?_
   refine rt0 ?_
   exact rV (by unfold A2k;dsimp only;(repeat' split)<;>omega)
  ·have hlt:xb=0:=by simpa using h
   repeat refine st ?_
   refine rt0 ?_
   exact rV (by unfold A2k;dsimp only;(repeat' split)<;>omega)
 ·repeat refine st ?_
  refine A0t Z (fun h=>?_) (fun h=>?_)
  ·exfalso
   have:k=4:=eq_of_beq h
   omega
  clear h
  repeat refine st ?_
  refine A0t Z (fun h=>?_) (fun h=>?_)
  ·exfalso
   have:k=5:=eq_of_beq h
   omega
  clear h
  repeat refine st ?_
  refine A0t Z (fun h=>?_) (fun h=>?_)
  ·exfalso
   have:k=0:=eq_of_beq h
   omega
  clear h
  repeat refine st ?_
  refine A0t Z (fun h=>?_) (fun h=>?_)
  ·exfalso
   have:k=1:=eq_of_beq h
   omega
  clear h
  repeat refine st ?_
  refine A0t Z (fun h=>?_) (fun h=>?_)
  ·exfalso
   have:k=2:=eq_of_beq h
   omega
  clear h
  repeat refine st ?_
  refine A0t Z (fun h=>?_) (fun h=>?_)
  ·exfalso
   have:k=3:=eq_of_beq h
   omega
  clear h
  repeat refine st ?_
  refine A0t Z (fun h=>?_) (fun h=>?_)
  ·exfalso
   have:k=6:=eq_of_beq h
   omega
  clear h
  repeat refine st ?_
  refine rt0 ?_
  exact rV (by unfold A2k;dsimp only;(repeat' split)<;>omega)
end
section
variable{mn:Who}{v:View}
theorem CheckR_x{P F:Int}{ws:List Wd}{wa:Option Addr}{wc:Nat}(hws:WdsAt v wa ws)(hwl:ws.length<2^30):Ret1 prog mn 68 [boV P F wa ws.length wc] (.int .i64 (A2h P F ws)) v:=by
 refine A0f tab func68 Z nB (args:=[_]) ?_
 repeat (first|refine st ?_|refine qb fun bx=>?_)
 refine q1 bod127 Z Z Z Z Z B5c ?_
 by_cases hp:1≤P∧P≤4
 rotate_left
 ·rw [decide_eq_false hp]
  repeat refine st ?_
  refine rt0 ?_
  exact⟨congrArg (Value.int .i64) (by unfold A2h;rw [if_pos hp]),Z⟩
 rw [decide_eq_true hp]
 repeat refine st ?_
 refine q1 bod127 Z Z Z Z Z B5c ?_
 by_cases hf:0≤F∧F≤3
 rotate_left
 ·rw [decide_eq_false hf]
  repeat refine st ?_
  refine rt0 ?_
  exact⟨congrArg (Value.int .i64) (by unfold A2h;rw [if_neg (not_not_intro hp),if_pos hf]),Z⟩
 rw [decide_eq_true hf]
 repeat refine st ?_
 refine A0t Z (fun h=>?_) (fun h=>?_)
 ·have hl:¬ws.length≤8:=by have:=of_decide_eq_true h;omega
  clear h
  repeat refine st ?_
  refine rt0 ?_
  exact⟨congrArg (Value.int .i64) (by unfold A2h;rw [if_neg (not_not_intro hp),if_neg (not_not_intro hf),if_pos hl]),Z⟩
 have hl:ws.length≤8:=by have:=of_decide_eq_false h;omega
 clear h
 have hE:A2h P F ws=A8y P.toNat F.toNat ws:=by unfold A2h;rw [if_neg (not_not_intro hp),if_neg (not_not_intro hf),if_neg (not_not_intro hl)]
 rw [hE]
 obtain⟨Pn,rfl⟩:=Int.eq_ofNat_of_zero_le (show 0≤P by omega)
 obtain⟨Fn,rfl⟩:=Int.eq_ofNat_of_zero_le hf.1
 clear hE
 simp only [Int.toNat_natCast]
 repeat refine st ?_
 obtain⟨b1,rfl⟩:∃b:Nat,b=bx:=⟨bx,rfl⟩
 refine A1o (α:=Nat) (fun i=>⟨[],[(3,.int .i64 i),(1,.pointer (some ⟨b1,0,none⟩))],[(b1,(boV Pn Fn wa ws.length wc).cells,24)]⟩)
  (fun i u=>v=u∧i≤ws.length∧A8y Pn Fn ws=A8y Pn Fn (ws.drop i)) (fun i=>ws.length-i) 0 ⟨Z,rg,cntL⟩ (Le.refl _) ⟨Z,Nat.zero_le _,Z⟩ ?_
 rintro i u ⟨rfl,hi,hE⟩
 repeat refine st ?_
 refine A0t Z (fun h=>?_) (fun h=>?_)
 ·have hlt:i<ws.length:=by have:=of_decide_eq_true h;omega
  clear h
  obtain⟨bb,off,p,c,e,f,rfl,hv,hc⟩:=hws.get hlt
  rw [List.drop_eq_getElem_cons hlt,A8y]at hE
  repeat refine st ?_
  refine lexL A1w Z kR ?_
  repeat refine st ?_
  refine A2i tab i Z Z Z Z Z Z Z hlt ?_
  refine A9d tab Z Z Z hv (A2d tab Z Z Z (hc i hlt)) ?_
  repeat refine st ?_
  refine A3r bod128 Z Z Z Z Z (checkWordR_x oM oM) ?_
  repeat refine st ?_
  refine A0t Z (fun h=>?_) (fun h=>?_)
  ·have h0:A2k Pn Fn ws[i]≠0:=bne_iff_ne.1 h
   clear h
   rw [if_neg h0]at hE
   repeat refine st ?_
   refine rt0 ?_
   exact⟨congrArg (Value.int .i64) hE.symm,Z⟩
  ·have h0:A2k Pn Fn ws[i]=0:=by simpa using h
   clear h
   rw [if_pos h0]at hE
   repeat refine st ?_
   exact A0c ⟨i+1,v,oM,⟨Z,rg,cntL⟩,Le.refl _,Z,hlt,hE⟩
 ·have hin:i=ws.length:=by have:=of_decide_eq_false h;omega
  clear h
  subst hin
  rw [List.drop_length]at hE
  repeat refine st ?_
  refine rt0 ?_
  exact⟨congrArg (Value.int .i64) hE.symm,Z⟩
end
end Go.Proofs.YtiolobmgibdfmaaGreat
end
section
namespace Go.Pal.Vo
theorem range_low{P:Nat}{q:Nat→Bool}:∀n,(List.range (P+n)).filter (fun m=>decide (m<P)&&q m)=(List.range P).filter q
 | 0=>List.filter_congr fun m hm=>by rw [decide_eq_true (show m<P from List.mem_range.1 hm),Bool.true_and]
 | n+1=>by
  rw [←Nat.add_assoc,List.range_succ,List.filter_append,range_low n,List.filter_cons,List.filter_nil,decide_eq_false oM,Bool.false_and]
  simp
theorem B5e(g n:Nat):bit g n=g.testBit n:=by
 unfold bit
 rw [Nat.testBit_eq_decide_div_mod_eq]
 rfl
def hindL(P:Nat)(ws:List Wd)(w:Wl):List Nat:=(List.range P).filter fun p=>allOf P ws w p != bit w.1 p
theorem hind_lst{P:Nat}{ws:List Wd}{w:Wl}(hP:P≤8)(hx:∀x∈ws,x.who.toNat<8)(hw:w.1<2 ^ P):lst (B1s P ws w ^^^ w.1)=hindL P ws w:=by
 obtain⟨k,hk⟩:∃k,8=P+k:=⟨8-P,oM⟩
 unfold lst hindL
 refine Eq.trans ?_ (range_low (q:=fun p=>allOf P ws w p != bit w.1 p) k)
 rw [←hk]
 refine List.filter_congr fun m hm=>?_
 have h8:=List.mem_range.1 hm
 rw [B5e,Nat.testBit_xor,←B5e,←B5e,(B1m hP h8 hx).1]
 by_cases h:m<P
 ·rw [decide_eq_true h,Bool.true_and,Bool.true_and]
 ·rw [decide_eq_false h,Bool.false_and,Bool.false_and,bit_big hP hw h8 h]
  rfl
theorem hind_can{P:Nat}{ws:List Wd}{w:Wl}(hP:P≤8)(hx:∀x∈ws,x.who.toNat<8)(hw:w.1<2 ^ P):(hindL P ws w).length=0↔can P ws w=true:=by
 have h256:2 ^ P≤2^8:=Nat.pow_le_pow_right dM hP
 have hh:=(B1m (w:=w) (p:=0) hP dM hx).2
 rw [←hind_lst hP hx hw,List.length_eq_zero_iff]
 unfold can
 rw [beq_iff_eq]
 constructor
 ·intro h
  have h0:=lst_inj _ 0 (Nat.xor_lt_two_pow (n:=8) hh oM) dM (h.trans dM)
  refine bit_ext hh oM fun m _=>?_
  have:=congrArg (fun z=>z.testBit m) h0
  simp only [Nat.testBit_xor,Nat.zero_testBit]at this
  rw [B5e,B5e]
  revert this
  cases (B1s P ws w).testBit m<;>cases w.1.testBit m<;>simp
 ·intro h
  rw [h,Nat.xor_self]
  decide
theorem out_tab:(List.range 5).all (fun P=>(lexN P 0).all fun l=>((List.range P).filter fun p=>!decide (p∈l))==lst (outL P l)&&decide (outL P l<2 ^ P))=true:=by decide +kernel
theorem or_tab:(List.range 4).all (fun F=>(lexN F 0).all fun l=>l==lst (orL l)&&decide (orL l<2 ^ F))=true:=by decide +kernel
theorem out_lst{P:Nat}{l:List Nat}(hP:P≤4)(hl:l∈lexN P 0):((List.range P).filter fun p=>!decide (p∈l))=lst (outL P l)∧outL P l<2 ^ P:=by
 have:=List.all_eq_true.1 (List.all_eq_true.1 out_tab P (List.mem_range.2 oM)) l hl
 simpa using this
theorem or_lst{F:Nat}{l:List Nat}(hF:F≤3)(hl:l∈lexN F 0):l=lst (orL l)∧orL l<2 ^ F:=by
 have:=List.all_eq_true.1 (List.all_eq_true.1 or_tab F (List.mem_range.2 oM)) l hl
 simpa using this
end Go.Pal.Vo
end
section
namespace Go.Proofs.YtiolobmgibdfmaaGreat
open Go Go.Pal Go.Pal.Vo Go.Conc View
open Go.Proofs.Tryz
set_option maxHeartbeats 4000000
set_option maxRecDepth 20000
def hindK(P:Nat)(ws:List Wd)(w:Wl)(k:Nat):List Nat:=(List.range k).filter fun p=>allOf P ws w p != bit w.1 p
theorem hindK_succ{P k:Nat}{ws:List Wd}{w:Wl}:hindK P ws w (k+1)=if(allOf P ws w k != bit w.1 k)=true then hindK P ws w k++[k]else hindK P ws w k:=by
 unfold hindK
 rw [List.range_succ,List.filter_append,List.filter_cons,List.filter_nil]
 split<;>simp
theorem hindK_len{P k:Nat}{ws:List Wd}{w:Wl}:(hindK P ws w k).length≤k:=by
 have:=List.length_filter_le (fun p=>allOf P ws w p != bit w.1 p) (List.range k)
 rwa [List.length_range]at this
theorem allOf_take{P p i:Nat}{ws:List Wd}{w:Wl}(h:i<ws.length):allOf P (ws.take (i+1)) w p=(allOf P (ws.take i) w p&&(ws[i].who.toNat != p||A4h P ws[i] w)):=by
 unfold allOf
 rw [List.take_succ_eq_append_getElem h,List.all_append,List.all_cons,List.all_nil,Bool.and_true]
section
variable{mn:Who}{v:View}
theorem wrong_r{P F t s:Nat}{ws:List Wd}{wa a1 a2:Option Addr}{wc c1 c2:Nat}(hok:VOk P F ws)(hws:WdsAt v wa ws)(ht:t<2 ^ P)(h1:RowAt v a1 ((lst t).map natV))(h2:RowAt v a2 ((lst s).map natV)) :
  CallsB prog mn 125 #[boV P F wa ws.length wc,wldV a1 (lst t).length c1 a2 (lst s).length c2] (RetB fun r β'=>OwnL β' r (hindL P ws (t,s))) [] v:=by
 have hp4:=hok.p4
 have hf3:=hok.f3
 have hw8:=hok.w8
 refine A0f tab func125 Z nB (args:=[_,_]) ?_
 repeat (first|refine st ?_|refine qb fun bx=>?_)
 rename_i b2
 obtain⟨b3,rfl⟩:∃b:Nat,b=bx:=⟨bx,rfl⟩
 refine A1o (α:=TF) (fun z=>⟨[],[(6,.int .i64 z.i),(5,.slice z.a (hindK P ws (t,s) z.i).length z.c),(2,.pointer (some ⟨b2,0,none⟩)),(3,.pointer (some ⟨b3,0,none⟩))],z.seg++[(b3,#[.slice a1 (lst t).length c1,.slice a2 (lst s).length c2],38),(b2,#[.int .i64 P,.int .i64 F,.slice wa ws.length wc],24)]⟩)
  (fun z u=>v=u∧z.i≤P∧OwnS 3 1 z.seg z.a (hindK P ws (t,s) z.i).length z.c ((hindK P ws (t,s) z.i).map natV)) (fun z=>P-z.i)
  ⟨0,none,0,[]⟩ ⟨Z,rg,cntL⟩ (Le.refl _) ⟨Z,Nat.zero_le _,.nil⟩ ?_
 rintro⟨p,ao,co,seg⟩ u ⟨rfl,hi,hS⟩
 dsimp only at hi hS⊢
 have hfl:=hindK_len (P:=P) (ws:=ws) (w:=(t,s)) (k:=p)
 repeat refine st ?_
 refine A0t Z (fun h=>?_) (fun h=>?_)
 ·have hlt:p<P:=by have:=of_decide_eq_true h;omega
  clear h
  repeat refine st ?_
  refine A1o (α:=Nat) (fun i=>⟨[],[(8,.int .i64 i),(7,.bool (allOf P (ws.take i) (t,s) p)),(6,.int .i64 p),(5,.slice ao (hindK P ws (t,s) p).length co),(2,.pointer (some ⟨b2,0,none⟩)),(3,.pointer (some ⟨b3,0,none⟩))],seg++[(b3,#[.slice a1 (lst t).length c1,.slice a2 (lst s).length c2],38),(b2,#[.int .i64 P,.int .i64 F,.slice wa ws.length wc],24)]⟩)
   (fun i w=>v=w∧i≤ws.length) (fun i=>ws.length-i) 0 ⟨Z,rg,cntL⟩ (Le.refl _) ⟨Z,Nat.zero_le _⟩ ?_
  rintro i w ⟨rfl,hi2⟩
  repeat refine st ?_
  refine A0t Z (fun h=>?_) (fun h=>?_)
  ·have hil:i<ws.length:=by have:=of_decide_eq_true h;omega
   clear h
   obtain⟨bb,off,q,c,e,f,rfl,hv,hc⟩:=hws.field hil
   obtain⟨hc1,hc2⟩:=hc i hil
   have hall:=hok.all _ (List.getElem_mem hil)
   have hwho:=(hok.who (List.getElem_mem hil)).2
   have hsuc:=allOf_take (P:=P) (p:=p) (w:=(t,s)) hil
   generalize ws[i]=x at hc1 hc2 hall hwho hsuc
   repeat refine st ?_
   refine lexL A1w Z kR ?_
   repeat refine st ?_
   refine A2i tab i Z Z Z Z Z Z Z hil ?_
   repeat refine st ?_
   refine A9d tab Z Z Z hv (A1b tab Z Z Z hc2) ?_
   repeat refine st ?_
   by_cases he:x.who=(p:Int)
   ·rw [beq_iff_eq.2 he]
    have hne:(x.who.toNat != p)=false:=by rw [bne_eq_false_iff_eq];omega
    rw [hne,Bool.false_or]at hsuc
    repeat refine st ?_
    refine A2i tab i Z Z Z Z Z Z Z hil ?_
    refine A9d tab Z Z Z hv (A2d tab Z Z Z hc1) ?_
    repeat refine st ?_
    refine A3r bod119 Z Z Z Z Z (so_r hp4 hf3 hall h1 h2) ?_
    cases hh:A4h P x (t,s)with
    | true=>
     rw [hh,Bool.and_true]at hsuc
     repeat refine st ?_
     refine A0c ⟨i+1,v,oM,⟨Z,?_,cntL⟩,Le.refl _,Z,hil⟩
     rw [hsuc]
     exact rg
    | false=>
     rw [hh,Bool.and_false]at hsuc
     repeat refine st ?_
     refine A0c ⟨i+1,v,oM,⟨Z,?_,cntL⟩,Le.refl _,Z,hil⟩
     rw [hsuc]
     exact rg
   ·rw [beq_eq_false_iff_ne.2 he]
    have hne:(x.who.toNat != p)=true:=by rw [bne_iff_ne];omega
    rw [hne,Bool.true_or,Bool.and_true]at hsuc
    repeat refine st ?_
    refine A0c ⟨i+1,v,oM,⟨Z,?_,cntL⟩,Le.refl _,Z,hil⟩
    rw [hsuc]
    exact rg
  ·have hil:i=ws.length:=by have:=of_decide_eq_false h;omega
   clear h
   subst hil
   rw [List.take_length]
   repeat refine st ?_
   refine q1 bod93 Z Z Z Z Z (B5d h1 (show p<8 by omega)) ?_
   repeat refine st ?_
   have hsucc:=hindK_succ (P:=P) (ws:=ws) (w:=(t,s)) (k:=p)
   refine A0t Z (fun h=>?_) (fun h=>?_)
   ·rw [if_pos (show(allOf P ws (t,s) p != bit (t,s).1 p)=true from h)]at hsucc
    clear h
    repeat refine st ?_
    refine Q_op fun ho=>A3x tab ho Z Z Z Z Z Z Z Z Z (fun b4 c3 hL=>?_)
    refine Q_op fun ho=>A2w tab (xs:=[natV p]) seg [(b4,c3,3)] [(b3,#[.slice a1 (lst t).length c1,.slice a2 (lst s).length c2],38),(b2,#[.int .i64 P,.int .i64 F,.slice wa ws.length wc],24)] ho Z Z Z Z Z Z Z Z Z Z cntA hS
     (fun hb=>RowAt.own hb cntL hL) Z Z (by show(2*((hindK P ws (t,s) p).length+1)+768)*8≤2^48;omega) oM (fun seg' a' cap' hS'=>?_)
    clear ho
    repeat refine st ?_
    refine A0c ⟨⟨p+1,a',cap',seg'⟩,v,by dsimp only;omega,⟨Z,?_,cntL⟩,Le.refl _,Z,hlt,?_⟩
    ·dsimp only;rw [hsucc,List.length_append,List.length_singleton];exact rg
    ·dsimp only;rw [hsucc,List.length_append,List.length_singleton,List.map_append];exact hS'
   ·rw [if_neg (show ¬(allOf P ws (t,s) p != bit (t,s).1 p)=true from fun h'=>by rw [show(allOf P ws (t,s) p != bit (t,s).1 p)=false from h]at h';cases h')]at hsucc
    clear h
    repeat refine st ?_
    refine A0c ⟨⟨p+1,ao,co,seg⟩,v,by dsimp only;omega,⟨Z,?_,cntL⟩,Le.refl _,Z,hlt,?_⟩
    ·dsimp only;rw [hsucc];exact rg
    ·dsimp only;rw [hsucc];exact hS
 ·have hie:p=P:=by have:=of_decide_eq_false h;omega
  clear h
  subst hie
  repeat refine st ?_
  refine A0l tab (β':=seg) (by exact .tmp rfl .nil) (Back.here cntL) ?_
  exact⟨ao,co,Z,hS⟩
end
section
variable{P:Program}{mn:Who}(T:Tab P){rd:Option Nat}{n:Nat}{Q:Exit→St→View→Prop}{ds:List Deferred}{ρ:Regs}{β:A0j}{v:View}{K:St→View→Prop}{ops:Array Oper}{i:Nat}{d:Nat}{ty:TypeId}{pos:String}{af:Array Edge}{gu:Option (Nat×Bool)}
theorem C_mid{c y:Code}{σ:St}(M:St→View→Prop)(h':∀τ u,M τ u→XC P mn rd n y Q τ u)(h:XC P mn rd n c (LoopQ (fun σ' u'=>∃τ u,M τ u∧Sub τ σ'∧u.Le u') Q) σ v):XC P mn rd n c (SeqQ P mn rd n y Q) σ v:=B4c h fun e σ u hq=>by
 unfold LoopQ at hq
 unfold SeqQ
 cases e with
 | normal=>obtain⟨τ,u0,hm,hs,hl⟩:=hq;exact XC_sub (h' τ u0 hm) hs hl
 | _=>exact hq
theorem A_alloc{t:TypeId}{z:Value}(ho:ops[i]?=some ⟨some d,.alloc t,ty,pos,af,gu⟩)(hw:A0x ops gu ρ=some true)(hn:Nat.blt d n=true)(hz:T.zer t=some z)
  (h:∀b,K ⟨ds,(d,.pointer (some ⟨b,0,none⟩))::ρ,(b,z.cells,t)::β⟩ v):XOp P mn rd n ops i Q K ⟨ds,ρ,β⟩ v:=by
 refine A2x ho (A0p hw) (.inr Z) hn fun ev hev hbk=>?_
 simp only [execOp,Instr.alloc,A0d,A9x T hz]
 refine sx_newVar fun b hb'=>?_
 obtain⟨h1,h2⟩:=B0s (c:=z.cells) (t:=t) hbk hb'
 exact⟨_,v,⟨h1,h2⟩,h b⟩
end
end Go.Proofs.YtiolobmgibdfmaaGreat
end
section
namespace Go.Pal
open Go Go.Conc View
section
variable{P:Program}{mn:Who}{rd:Option Nat}{n:Nat}{Q:Exit→St→View→Prop}{ds:List Deferred}{ρ:Regs}{β:A0j}{v:View}
 {ops:Array Oper}{i:Nat}{S:List Rec}{done done':List Nat}{ms:List Nat}{v0:View}{todo todo':List Nat}
def AllL(f:Nat→Prop):List Nat→Prop
 | []=>True
 | j::r=>f j∧AllL f r
theorem AllL.at{f:Nat→Prop}:∀{js:List Nat},AllL f js→∀{j:Nat},j∈js→f j
 | x::r,h,j,hj=>by
  rcases List.mem_cons.1 hj with rfl|hj
  ·exact h.1
  ·exact h.2.at hj
end
end Go.Pal
end
