/- 'palfreylaw06.VouchMore' returns true for every list of numbers, whatever the goroutines of its calls do, and the list reads as it did, as its row says it. No condition. -/
import Derived.JoinedOf
import Derived.Test.YtiolobmgibdfmaaGreatPbc
import Derived.Test.YtiolobmgibdfmaaGreatPbd
import Derived.Test.YtiolobmgibdfmaaGreatRaspra
set_option linter.all false
section
namespace Go.Proofs.YtiolobmgibdfmaaGreat
open Go Go.Pal Go.Proofs.Tryz
theorem bod32:A0n Tryz.prog 32:=⟨_,_,func32,rfl,by decide⟩
theorem bod57:A0n Tryz.prog 57:=⟨_,_,func57,rfl,by decide⟩
theorem bod71:A0n Tryz.prog 71:=⟨_,_,func71,rfl,by decide⟩
end Go.Proofs.YtiolobmgibdfmaaGreat
end
section
namespace Go.Pal
open Go Go.Conc View
section
variable{P:Program}{mn:Who}(T:Tab P){rd:Option Nat}{n:Nat}{Q:Exit→St→View→Prop}{ds:List Deferred}{ρ:Regs}{β:A0j}{v:View}{K:St→View→Prop}
 {ops:Array Oper}{i:Nat}{d:Nat}{ty:TypeId}{pos:String}{af:Array Edge}{gu:Option (Nat×Bool)}
theorem A_appendB{t t' e e':TypeId}{k by_ m len cap cap2:Nat}{y y2:Operand}{z:Value}{a a2:Option Addr}{cs xs:List Value}(ho:ops[i]?=some ⟨some d,.call {callee:=.builtin .append,args:=#[y,y2],argTypes:=#[t,t'] },ty,pos,af,gu⟩)(hw:A0x ops gu ρ=some true)(hn:Nat.blt d n=true)
  (hy:ρ.val y=some (.slice a len cap))(hy2:ρ.val y2=some (.slice a2 m cap2))
  (ht:T.und t=some (.slice e))(ht':T.und t'=some (.slice e'))(hs:T.siz e=some k)(hby:T.byt e=some by_)(hz:T.zer e=some z)(hzs:z.cells.size=k)
  (hr1:Bok β v→RowAt (v.union (A0e β)) a cs)(hl1:cs.length=len*k)(hr2:Bok β v→RowAt (v.union (A0e β)) a2 xs)(hxl:xs.length=m*k)(hc:cap<len+m)
  (hb:(2*(len+m)+768)*by_≤2^48)(hp:0<by_)
  (h:∀b c cap',OwnS e k [(b,c,e)] (some ⟨b,0,none⟩) (len+m) cap' (cs++xs)→K ⟨ds,(d,.slice (some ⟨b,0,none⟩) (len+m) cap')::ρ,(b,c,e)::β⟩ v):XOp P mn rd n ops i Q K ⟨ds,ρ,β⟩ v:=by
 refine A2x ho (A0p hw) (.inr rfl) hn fun ev hev hbk=>?_
 simp only [execOp,resolve,show(#[y,y2]:Array Operand).map ev=#[ev y,ev y2]from by simp,hev _ _ hy,hev _ _ hy2,A0d,A0m,invoke,builtin]
 refine B0b T ht ht' hs hby hz hzs (hr1 hbk) hl1 (hr2 hbk) hxl hc hb hp fun r cap' c hr hc1 hc2 hc3=>?_
 obtain⟨h5,h6⟩:=B0s (c:=c) (t:=e) hbk hr
 exact⟨(r,c,e)::β,v,⟨h5,h6⟩,h r c cap' (.box (by rw [List.length_append,hl1,hxl,Nat.add_mul]) hc1 hc2 hc3)⟩
end
end Go.Pal
end
section
namespace Go.Proofs.YtiolobmgibdfmaaGreat
open Go Go.Pal Go.Pal.Vo Go.Conc View
open Go.Proofs.Tryz
set_option maxHeartbeats 4000000
set_option maxRecDepth 20000
section
variable{v:View}{wa:Option Addr}{wc:Nat}
def B4y(P F:Nat)(ws:List Wd)(x:Wd):Int:=if(A0g P F ws).isEmpty || !(A0g P F (ws++[x])).isEmpty then 0 else 9
def errAd(P F:Int)(ws:List Wd)(x:Wd):Int:=if A2h P F ws=0 then(if ws.length<8 then(if A2k P.toNat F.toNat x=0 then B4y P.toNat F.toNat ws x else A2k P.toNat F.toNat x)else 6)else A2h P F ws
def AddR(v:View)(β:A0j)(r:Value)(P F:Int)(ws:List Wd)(x:Wd):Prop:=∃t,r = .tuple #[t,.int .i64 (errAd P F ws x)]∧((errAd P F ws x=0∧ReadV v β t P F (ws++[x]))∨(errAd P F ws x≠0∧ReadV v β t 0 0 []))
theorem Add_x{P F:Int}{ws:List Wd}{x:Wd}(hws:WdsAt v wa ws)(hwl:ws.length<2^30)(hwc:ws.length≤wc) :
  CallsB prog ⟨true,true⟩ 71 #[boV P F wa ws.length wc,wdV x] (RetB fun r β'=>AddR v β' r P F ws x) [] v:=by
 refine A3m tab A4x func71 rfl nB (args:=[_,_]) ?_
 unfold AddR
 repeat (first|refine st ?_|refine qb fun bx=>?_)
 refine Q_op fun ho=>A6x rfl ho rfl rfl ?_
 clear ho
 repeat (first|refine st ?_|refine qb fun bx=>?_)
 refine Q_op fun ho=>A6g ho bod79 rfl rfl rfl rfl (A6u (hws.le (A0b _ _)) hwl) (fun h=>?_) (fun h=>?_)
 ·rw [show errAd P F ws x=A2h P F ws from if_neg h]
  refine pn ?_
  exact A2n tab rfl ib dM sb (xs:=[_,_]) (by exact .cell rfl ib rfl (.cell rfl ib rfl .nil)) (β':=[]) (Back.here fun p=>Nat.zero_le _) ⟨_,rfl,.inr ⟨h,ReadV.zero⟩⟩
 clear ho
 rw [show errAd P F ws x=if ws.length<8 then(if A2k P.toNat F.toNat x=0 then B4y P.toNat F.toNat ws x else A2k P.toNat F.toNat x)else 6 from if_pos h]
 obtain⟨P,F,rfl,rfl,hv⟩:=A4w h
 simp only [Int.toNat_natCast]
 have hP4:=hv.p4
 have hF3:=hv.f3
 clear h
 repeat (first|refine st ?_|refine qb fun bx=>?_)
 refine Q_op fun ho=>A3d ho rfl rfl rfl rfl (fun h=>?_) (fun h=>?_)
 ·have h:¬ws.length<8:=by have h:=of_decide_eq_false h;omega
  rw [if_neg h]
  refine pn ?_
  exact A2n tab rfl ib dM sb (xs:=[_,_]) (by exact .cell rfl ib rfl (.cell rfl ib rfl .nil)) (β':=[]) (Back.here fun p=>Nat.zero_le _) ⟨_,rfl,.inr ⟨by decide,ReadV.zero⟩⟩
 clear ho
 have hl8:ws.length<8:=by have h:=of_decide_eq_true h;omega
 rw [if_pos hl8]
 clear h
 repeat (first|refine st ?_|refine qb fun bx=>?_)
 refine Q_op fun ho=>A6g ho bod104 rfl rfl rfl rfl (B3t oM oM) (fun h=>?_) (fun h=>?_)
 ·rw [if_neg h]
  refine pn ?_
  exact A2n tab rfl ib dM sb (xs:=[_,_]) (by exact .cell rfl ib rfl (.cell rfl ib rfl .nil)) (β':=[]) (Back.here fun p=>Nat.zero_le _) ⟨_,rfl,.inr ⟨h,ReadV.zero⟩⟩
 clear ho
 rw [if_pos h]
 have hv2:VOk P F (ws++[x]):=⟨hv.p1,hv.p4,hv.f3,by rw [List.length_append];exact hl8,fun y hy=>by
  rcases List.mem_append.1 hy with hy|hy
  ·exact hv.all y hy
  ·rw [List.mem_singleton.1 hy];exact h⟩
 clear h
 repeat (first|refine st ?_|refine qb fun bx=>?_)
 refine A2u [6,7,9] [0,1,2,3,5,4,6,7,8,9] A1w rfl kR ?_
 repeat (first|refine st ?_|refine qb fun bx=>?_)
 refine S_slice_hm tab (h':=ws.length) (m:=ws.length) rfl rfl rfl kR rfl rfl rfl rfl rfl oM (Nat.le_refl _) ?_
 have ea:(if ws.length=0 then wa else Option.map (fun(x:Addr)=>x.add (0*4)) wa)=wa:=by
  split
  ·rfl
  ·cases wa with
   | none=>rfl
   | some a0=>
    have h0:0<ws.length:=oM
    obtain⟨b,off,q,c,e,f,ha,_⟩:=hws.get h0
    injection ha with ha
    subst ha
    rw [Option.map_some,A5m];simp
 rw [ea]
 refine S_do kR (A3x tab rfl rfl rfl rfl rfl rfl rfl rfl rfl rfl (fun b5 c5 hL=>⟨Le.refl _,kp,?_⟩))
 refine S_do kR (A_appendB tab (len:=ws.length) (m:=1) (cs:=(ws.map wdC).flatten) (xs:=wdC x) rfl rfl rfl rfl rfl rfl rfl rfl rfl rfl rfl
  (fun hb=>RowAt.le hws (A0b _ _)) (A4m ws) (fun hb=>RowAt.own hb cntL hL) rfl oM (by show(2*(ws.length+1)+768)*32≤2^48;omega) oM (fun b7 c7 cap7 hS=>⟨Le.refl _,kp,?_⟩))
 repeat (refine ss ?_)
 refine S_do kR (B0z tab rfl rfl rfl rfl rfl rfl rfl ib (by exact rfl) sb ⟨Le.refl _,kp,?_⟩)
 repeat (refine ss ?_)
 refine A7g ?_
 refine XC_retire (β1:=[(b7,c7,26)]) (β2:=_) (fun _=>rfl) (fun hb7=>?_)
 have hws2:WdsAt (v.union (A0e [(b7,c7,26)])) (some ⟨b7,0,none⟩) (ws++[x]):=by
  unfold WdsAt
  rw [List.map_append,List.flatten_append]
  exact A2m hb7 hS
 obtain⟨_,_,_,_,hcap7,_⟩:=A5w hS oM
 have hlx:(ws++[x]).length=ws.length+1:=by rw [List.length_append];rfl
 repeat (first|refine st ?_|refine qb fun bx=>?_)
 refine Q_op fun ho=>A0i [] _ ho bod80 rfl rfl rfl rfl rfl A1n (worlds_x hv.p4 hv.f3 ((hws.le (A0b _ _)).le (A0b _ _)) hv.fit hwl) (fun x β' hR=>?_)
 clear ho
 obtain⟨a1,cap1,rfl,hS1⟩:=hR
 clear hS1
 repeat (first|refine st ?_|refine qb fun bx=>?_)
 by_cases h0:A0g P F ws=[]
 ·rw [show((((A0g P F ws).length:Nat):Int)==0)=true from by simp [h0]]
  have hE:B4y P F ws x=0:=by unfold B4y;rw [h0];rfl
  rw [hE]
  repeat (first|refine st ?_|refine qb fun bx=>?_)
  refine Q_op fun ho=>A3d ho rfl rfl rfl rfl (fun h=>by cases h) (fun _=>?_)
  clear ho
  repeat (first|refine st ?_|refine qb fun bx=>?_)
  refine A6e tab rfl (β':=[]++[(b7,c7,26)]) (xs:=[_,_]) (by exact .cell rfl ib rfl (.cell rfl ib rfl .nil)) (Back.retired hb7 (Back.here fun p=>Nat.zero_le _)) ⟨_,rfl,.inl ⟨rfl,some ⟨b7,0,none⟩,cap7,?_,by rw [hlx];exact hcap7,hws2⟩⟩
  rw [hlx];rfl
 ·rw [show((((A0g P F ws).length:Nat):Int)==0)=false from by simp;exact h0]
  repeat (first|refine st ?_|refine qb fun bx=>?_)
  refine Q_op fun ho=>A0i [] _ ho bod80 rfl rfl rfl rfl rfl A1n (by rw [←hlx];exact worlds_x hv2.p4 hv2.f3 (hws2.le (A0b _ _)) hv2.fit (by rw [hlx];omega)) (fun x β' hR=>?_)
  clear ho
  obtain⟨a2,cap2,rfl,hS2⟩:=hR
  clear hS2
  repeat (first|refine st ?_|refine qb fun bx=>?_)
  refine Q_op fun ho=>A3d ho rfl rfl rfl rfl (fun h=>?_) (fun h=>?_)
  ·have h2:A0g P F (ws++[x])=[]:=List.length_eq_zero_iff.1 (by have h:=of_decide_eq_false h;omega)
   have hE:B4y P F ws x=9:=by unfold B4y;rw [h2];simp [h0]
   rw [hE]
   refine pn ?_
   exact A2n tab rfl ib dM sb (xs:=[_,_]) (by exact .cell rfl ib rfl (.cell rfl ib rfl .nil)) (β':=[]) (Back.forget hb7 (Back.here fun p=>Nat.zero_le _)) ⟨_,rfl,.inr ⟨by decide,ReadV.zero⟩⟩
  clear ho
  have h2:A0g P F (ws++[x])≠[]:=fun e=>by have h:=of_decide_eq_true h;rw [e]at h;simp at h
  have hE:B4y P F ws x=0:=by
   unfold B4y
   rw [if_pos (by simp [h2])]
  rw [hE]
  clear h
  repeat (first|refine st ?_|refine qb fun bx=>?_)
  refine A6e tab rfl (β':=[]++[(b7,c7,26)]) (xs:=[_,_]) (by exact .cell rfl ib rfl (.cell rfl ib rfl .nil)) (Back.retired hb7 (Back.here fun p=>Nat.zero_le _)) ⟨_,rfl,.inl ⟨rfl,some ⟨b7,0,none⟩,cap7,?_,by rw [hlx];exact hcap7,hws2⟩⟩
  rw [hlx];rfl
end
section
variable{mn:Who}{v:View}
theorem word_eq{x:Wd}{K:Bool→View→Prop}{E:Value→View→Prop}(h:K true v):SemX prog (Op.equal 26 (wdV x) (wdV x)) K E v:=by
 have hs:prog.stoodInHeld 26=false:=by kernel_rfl
 rw [show wdV x = .agg #[.int .i64 x.who,.int .i64 x.kind,.int .i64 x.a,.int .i64 x.b]from rfl]
 show SemX prog (Op.equalIn (9998+1+1) 26 _ _) K E v
 unfold Op.equalIn
 rw [A0d,A1r tab (t:=26) rfl]
 simp only [A0d,A3v,hs,Bool.false_eq_true,if_false,List.forIn_toArray,List.forIn_cons,List.forIn_nil]
 have ht:∀y:Int,(y==y)=true:=fun y=>by simp
 rw [if_pos dM]
 simp only [A0d]
 refine B2b (x:=.int .i64 x.who) rfl ?_
 refine B2b (x:=.int .i64 x.who) rfl ?_
 refine i64_eq ?_
 rw [ht]
 simp only [Bool.not_true,Bool.false_eq_true,if_false,A0m,A0d]
 rw [if_pos dM]
 simp only [A0d]
 refine B2b (x:=.int .i64 x.kind) rfl ?_
 refine B2b (x:=.int .i64 x.kind) rfl ?_
 refine i64_eq ?_
 rw [ht]
 simp only [Bool.not_true,Bool.false_eq_true,if_false,A0m,A0d]
 rw [if_pos dM]
 simp only [A0d]
 refine B2b (x:=.int .i64 x.a) rfl ?_
 refine B2b (x:=.int .i64 x.a) rfl ?_
 refine i64_eq ?_
 rw [ht]
 simp only [Bool.not_true,Bool.false_eq_true,if_false,A0m,A0d]
 rw [if_pos dM]
 simp only [A0d]
 refine B2b (x:=.int .i64 x.b) rfl ?_
 refine B2b (x:=.int .i64 x.b) rfl ?_
 refine i64_eq ?_
 rw [ht]
 exact h
end
section
variable{mn:Who}{rd:Option Nat}{n:Nat}{Q:Exit→St→View→Prop}{ds:List Deferred}{ρ:Regs}{β:A0j}{v:View}{K:St→View→Prop}
 {ops:Array Oper}{i:Nat}{l:List Oper}{d:Nat}{ty:TypeId}{pos:String}{af:Array Edge}{gu:Option (Nat×Bool)}
theorem L_neqW{y z:Operand}{t2:TypeId}{x x':Wd}(hw:A0x ops gu ρ=some true)(hn:Nat.blt d n=true)(hy:ρ.val y=some (wdV x))(hz:ρ.val z=some (wdV x'))(hx:x=x')
  (h:XL prog mn n ops Q l ⟨ds,(d,.bool false)::ρ,β⟩ v):XL prog mn n ops Q (⟨some d,.binOp .neq 26 y z t2,ty,pos,af,gu⟩::l) ⟨ds,ρ,β⟩ v:=by
 subst hx
 replace hy:ρ.val y=some (.agg #[.int .i64 x.who,.int .i64 x.kind,.int .i64 x.a,.int .i64 x.b]):=hy
 replace hz:ρ.val z=some (.agg #[.int .i64 x.who,.int .i64 x.kind,.int .i64 x.a,.int .i64 x.b]):=hz
 refine A8u (o:=⟨some d,.binOp .neq 26 y z t2,ty,pos,af,gu⟩) (x:=.bool false) (A0p hw) hn (fun ev hev hbk w hle=>?_) h
 have hg:prog.eqGuardType prog.depth 26=false:=by kernel_rfl
 simp only [execOp,A0d,hev _ _ hy,hev _ _ hz,eqGuard,binOp,A3v,hg]
 simp only [Bool.not_true,Bool.false_eq_true,if_false,A0d]
 rw [A3v,A3v,hg]
 simp only [Bool.not_true,Bool.not_false,Bool.false_eq_true,if_false,if_true,A0m,A0d]
 refine word_eq (x:=x) ?_
 exact⟨Le.refl _,rfl⟩
end
section
variable{mn:Who}{v:View}
theorem sameV_x{P F:Int}{a b:Option Addr}{c d:Nat}{ws:List Wd}(ha:WdsAt v a ws)(hb:WdsAt v b ws)(hwl:ws.length<2^30):Ret1 prog mn 32 [boV P F a ws.length c,boV P F b ws.length d] (.bool true) v:=by
 refine A0f tab func32 rfl nB (args:=[_,_]) ?_
 repeat (first|refine st ?_|refine qb fun bx=>?_)
 rename_i bx3
 have e0:∀y:Int,(y != y)=false:=fun y=>by simp
 repeat (first|refine st ?_|refine qb fun bx=>?_)
 refine A6d rfl rfl (fun h=>?_) (fun h=>?_)
 ·rw [e0]at h;cases h
 repeat (first|refine st ?_|refine qb fun bx=>?_)
 refine A6d rfl rfl (fun h=>?_) (fun h=>?_)
 ·rw [e0]at h;cases h
 repeat (first|refine st ?_|refine qb fun bx=>?_)
 refine A0t rfl (fun h=>?_) (fun h=>?_)
 ·rw [e0]at h;cases h
 repeat (first|refine st ?_|refine qb fun bx=>?_)
 refine A1o (α:=Nat) (fun i=>⟨[],[(5,.int .i64 i),(2,.pointer (some ⟨bx3,0,none⟩)),(3,.pointer (some ⟨bx,0,none⟩))],[(bx3,(boV P F a ws.length c).cells,24),(bx,(boV P F b ws.length d).cells,24)]⟩)
  (fun i u=>u=v∧i≤ws.length) (fun i=>ws.length-i) 0 ⟨rfl,rg,cntL⟩ (Le.refl _) ⟨rfl,Nat.zero_le _⟩ ?_
 rintro i u ⟨rfl,hi⟩
 repeat (first|refine st ?_|refine qb fun bx=>?_)
 refine A0t rfl (fun h=>?_) (fun h=>?_)
 ·replace h:=fa h
  have hlt:i<ws.length:=oM
  obtain⟨b1,o1,p1,k1,e1,f1,rfl,hv1,hc1⟩:=ha.get hlt
  obtain⟨b2,o2,p2,k2,e2,f2,rfl,hv2,hc2⟩:=hb.get hlt
  repeat (first|refine st ?_|refine qb fun bx=>?_)
  refine A2i tab i rfl rfl rfl rfl rfl rfl rfl hlt ?_
  refine A9d tab rfl rfl rfl hv1 (A2d tab rfl rfl rfl (hc1 i hlt)) ?_
  repeat (first|refine st ?_|refine qb fun bx=>?_)
  refine A2i tab i rfl rfl rfl rfl rfl rfl rfl hlt ?_
  refine A9d tab rfl rfl rfl hv2 (A2d tab rfl rfl rfl (hc2 i hlt)) ?_
  repeat (first|refine st ?_|refine qb fun bx=>?_)
  refine L_neqW (x:=ws[i]) (x':=ws[i]) rfl rfl rfl rfl rfl ?_
  repeat (first|refine st ?_|refine qb fun bx=>?_)
  refine A0c ⟨i+1,_,(by have:=hlt;omega),⟨rfl,rg,cntL⟩,Le.refl _,rfl,hlt⟩
 ·repeat (first|refine st ?_|refine qb fun bx=>?_)
  refine A0l tab [] (by exact .tmp rfl .nil) (Back.here cntL) ?_
  exact⟨rfl,rfl⟩
end
section
variable{P:Nat}{u a b:Int}{w:Wl}
theorem hs0:A4h P ⟨u,0,a,b⟩ w=bit w.2 a.toNat:=by simp [A4h]
theorem hs1:A4h P ⟨u,1,a,b⟩ w=!bit w.2 a.toNat:=by simp [A4h]
theorem hs2:A4h P ⟨u,2,a,b⟩ w=!bit w.1 a.toNat:=by simp [A4h]
theorem hs3:A4h P ⟨u,3,a,b⟩ w=bit w.1 a.toNat:=by simp [A4h]
theorem hs4:A4h P ⟨u,4,a,b⟩ w=(!bit w.2 a.toNat||bit w.2 b.toNat):=by simp [A4h]
theorem hs5:A4h P ⟨u,5,a,b⟩ w=(bit w.1 a.toNat==bit w.1 b.toNat):=by simp [A4h]
theorem hs6:A4h P ⟨u,6,a,b⟩ w=decide ((P:Int)-cnt w.1≥a):=by simp [A4h]
end
theorem wordE_inv{P F:Nat}{w k x y:Int}(h:A2k P F ⟨w,k,x,y⟩=0):(k=0∧0≤x∧x≤(F:Int)-1)∨(k=1∧0≤x∧x≤(F:Int)-1)∨(k=2∧0≤x∧x≤(P:Int)-1)∨(k=3∧0≤x∧x≤(P:Int)-1)∨
  (k=4∧0≤x∧x≤(F:Int)-1∧0≤y∧y≤(F:Int)-1)∨(k=5∧0≤x∧x≤(P:Int)-1∧0≤y∧y≤(P:Int)-1)∨(k=6∧0≤x∧x≤(P:Int)):=by
 unfold A2k at h
 dsimp only at h
 (repeat' split at h)<;>omega
section
variable{mn:Who}{v:View}
theorem so_x{P F n cap t s:Nat}{a a1 a2:Option Addr}{c1 c2:Nat}{x:Wd}(hP:P≤4)(hF:F≤3)(hx:A2k P F x=0)(h1:RowAt v a1 ((lst t).map natV))(h2:RowAt v a2 ((lst s).map natV)) :
  Ret1 prog mn 57 [boV P F a n cap,.agg #[.slice a1 (lst t).length c1,.slice a2 (lst s).length c2],wdV x] (.bool (A4h P x (t,s))) v:=by
 obtain⟨w,k,x,y⟩:=x
 have hl1:=lst_len8 t
 refine A0f tab func57 rfl nB (args:=[_,_,_]) ?_
 rcases wordE_inv hx with ⟨rfl,k1,k2⟩|⟨rfl,k1,k2⟩|⟨rfl,k1,k2⟩|⟨rfl,k1,k2⟩|⟨rfl,k1,k2,k3,k4⟩|⟨rfl,k1,k2,k3,k4⟩|⟨rfl,k1,k2⟩
 ·obtain⟨x,rfl⟩:=Int.eq_ofNat_of_zero_le k1
  rw [hs0,Int.toNat_natCast]
  repeat (first|refine st ?_|refine qb fun bx=>?_)
  refine Q_op fun ho=>A0s ho bod49 rfl rfl rfl rfl rfl (has_b h2 oM) ?_
  clear ho
  repeat (first|refine st ?_|refine qb fun bx=>?_)
  refine A0l tab [] (by exact .tmp rfl .nil) (Back.here cntL) ?_
  exact⟨rfl,rfl⟩
 ·obtain⟨x,rfl⟩:=Int.eq_ofNat_of_zero_le k1
  rw [hs1,Int.toNat_natCast]
  repeat (first|refine st ?_|refine qb fun bx=>?_)
  refine Q_op fun ho=>A0s ho bod49 rfl rfl rfl rfl rfl (has_b h2 oM) ?_
  clear ho
  repeat (first|refine st ?_|refine qb fun bx=>?_)
  refine A0l tab [] (by exact .tmp rfl .nil) (Back.here cntL) ?_
  exact⟨rfl,rfl⟩
 ·obtain⟨x,rfl⟩:=Int.eq_ofNat_of_zero_le k1
  rw [hs2,Int.toNat_natCast]
  repeat (first|refine st ?_|refine qb fun bx=>?_)
  refine Q_op fun ho=>A0s ho bod49 rfl rfl rfl rfl rfl (has_b h1 oM) ?_
  clear ho
  repeat (first|refine st ?_|refine qb fun bx=>?_)
  refine A0l tab [] (by exact .tmp rfl .nil) (Back.here cntL) ?_
  exact⟨rfl,rfl⟩
 ·obtain⟨x,rfl⟩:=Int.eq_ofNat_of_zero_le k1
  rw [hs3,Int.toNat_natCast]
  repeat (first|refine st ?_|refine qb fun bx=>?_)
  refine Q_op fun ho=>A0s ho bod49 rfl rfl rfl rfl rfl (has_b h1 oM) ?_
  clear ho
  repeat (first|refine st ?_|refine qb fun bx=>?_)
  refine A0l tab [] (by exact .tmp rfl .nil) (Back.here cntL) ?_
  exact⟨rfl,rfl⟩
 ·obtain⟨x,rfl⟩:=Int.eq_ofNat_of_zero_le k1
  obtain⟨y,rfl⟩:=Int.eq_ofNat_of_zero_le k3
  rw [hs4,Int.toNat_natCast,Int.toNat_natCast]
  repeat (first|refine st ?_|refine qb fun bx=>?_)
  refine Q_op fun ho=>A0s ho bod49 rfl rfl rfl rfl rfl (has_b h2 oM) ?_
  clear ho
  cases hb:bit s x with
  | true=>
   repeat (first|refine st ?_|refine qb fun bx=>?_)
   refine Q_op fun ho=>A0s ho bod49 rfl rfl rfl rfl rfl (has_b h2 oM) ?_
   clear ho
   repeat (first|refine st ?_|refine qb fun bx=>?_)
   refine A0l tab [] (by exact .tmp rfl .nil) (Back.here cntL) ?_
   exact⟨rfl,rfl⟩
  | false=>
   repeat (first|refine st ?_|refine qb fun bx=>?_)
   refine A0l tab [] (by exact .tmp rfl .nil) (Back.here cntL) ?_
   exact⟨rfl,rfl⟩
 ·obtain⟨x,rfl⟩:=Int.eq_ofNat_of_zero_le k1
  obtain⟨y,rfl⟩:=Int.eq_ofNat_of_zero_le k3
  rw [hs5,Int.toNat_natCast,Int.toNat_natCast]
  repeat (first|refine st ?_|refine qb fun bx=>?_)
  refine lexL A1w rfl kR ?_
  repeat (first|refine st ?_|refine qb fun bx=>?_)
  refine A3r bod49 rfl rfl rfl rfl rfl (has_b h1 oM) ?_
  repeat (first|refine st ?_|refine qb fun bx=>?_)
  refine A3r bod49 rfl rfl rfl rfl rfl (has_b h1 oM) ?_
  repeat (first|refine st ?_|refine qb fun bx=>?_)
  refine A0l tab [] (by exact .tmp rfl .nil) (Back.here cntL) ?_
  exact⟨rfl,rfl⟩
 ·obtain⟨x,rfl⟩:=Int.eq_ofNat_of_zero_le k1
  rw [hs6]
  repeat (first|refine st ?_|refine qb fun bx=>?_)
  refine A0l tab [] (by exact .tmp rfl .nil) (Back.here cntL) ?_
  refine⟨congrArg Value.bool ?_,rfl⟩
  rw [Bool.eq_iff_iff,decide_eq_true_eq,decide_eq_true_eq]
  unfold Go.Pal.Vo.cnt
  dsimp only
  rw [A4k oM oM]
  omega
end
theorem more_can{P F:Nat}{ws:List Wd}{x:Wd}{w:Wl}(h:VOk P F ws)(hx:A2k P F x=0)(hw:w∈A0g P F ws):can P (ws++[x]) w=(!bit w.1 x.who.toNat||A4h P x w):=by
 have h4:=h.p4
 have hwho:=A7u hx
 have h8:∀y∈ws++[x],y.who.toNat<8:=fun y hy=>by
  rcases List.mem_append.1 hy with hy|hy
  ·exact h.who8 y hy
  ·rw [List.mem_singleton.1 hy];omega
 have hb:=(A6z oM h.who8).1 hw
 have hall:∀p,allOf P (ws++[x]) w p=(allOf P ws w p&&(x.who.toNat != p||A4h P x w)):=fun p=>by
  unfold allOf
  rw [List.all_append,List.all_cons,List.all_nil,Bool.and_true]
 have hiff:can P (ws++[x]) w=true↔∀p,p<P→bit w.1 p=allOf P (ws++[x]) w p:=by
  have:=A6z (P:=P) (F:=F) (w:=w) oM h8
  rw [worldsL_mem]at this
  constructor
  ·intro hc
   exact(this.1 ⟨hb.1,by unfold can at hc;exact eq_of_beq hc⟩).2
  ·intro hp
   have:=(this.2 ⟨hb.1,hp⟩).2
   unfold can
   rw [this];exact beq_self_eq_true _
 rw [Bool.eq_iff_iff,hiff]
 have hp0:x.who.toNat<P:=oM
 constructor
 ·intro hp
  have h1:=hp _ hp0
  rw [hall]at h1
  simp only [bne_self_eq_false,Bool.false_or]at h1
  cases hbit:bit w.1 x.who.toNat with
  | false=>rfl
  | true=>
   rw [hbit]at h1
   have:=h1.symm
   rw [Bool.and_eq_true]at this
   rw [this.2];rfl
 ·intro ho p hp
  rw [hall,hb.2 p hp]
  by_cases e:x.who.toNat=p
  ·subst e
   have h1:=hb.2 _ hp0
   rw [h1]at ho
   cases h2:allOf P ws w x.who.toNat with
   | false=>rfl
   | true=>
    rw [h2]at ho
    have h3:A4h P x w=true:=by simpa using ho
    rw [h3];simp
  ·simp [e]
section
variable{P:Program}{mn:Who}(T:Tab P){rd:Option Nat}{n:Nat}{Q:Exit→St→View→Prop}{ds:List Deferred}{ρ:Regs}{β:A0j}{v:View}{K:St→View→Prop}{ops:Array Oper}{i:Nat}{d:Nat}{ty:TypeId}{pos:String}{af:Array Edge}{gu:Option (Nat×Bool)}
theorem C_mid{c y:Code}{σ:St}(M:St→View→Prop)(h':∀τ u,M τ u→XC P mn rd n y Q τ u)(h:XC P mn rd n c (LoopQ (fun σ' u'=>∃τ u,M τ u∧Sub τ σ'∧u.Le u') Q) σ v):XC P mn rd n c (SeqQ P mn rd n y Q) σ v:=B4c h fun e σ u hq=>by
 unfold LoopQ at hq
 unfold SeqQ
 cases e with
 | normal=>obtain⟨τ,u0,hm,hs,hl⟩:=hq;exact XC_sub (h' τ u0 hm) hs hl
 | _=>exact hq
theorem A_alloc{t:TypeId}{z:Value}(ho:ops[i]?=some ⟨some d,.alloc t,ty,pos,af,gu⟩)(hw:A0x ops gu ρ=some true)(hn:Nat.blt d n=true)(hz:T.zer t=some z)
  (h:∀b,K ⟨ds,(d,.pointer (some ⟨b,0,none⟩))::ρ,(b,z.cells,t)::β⟩ v):XOp P mn rd n ops i Q K ⟨ds,ρ,β⟩ v:=by
 refine A2x ho (A0p hw) (.inr rfl) hn fun ev hev hbk=>?_
 simp only [execOp,Instr.alloc,A0d,A9x T hz]
 refine sx_newVar fun b hb'=>?_
 obtain⟨h1,h2⟩:=B0s (c:=z.cells) (t:=t) hbk hb'
 exact⟨_,v,⟨h1,h2⟩,h b⟩
end
theorem ext_two{c:Array Value}{o:Nat}{x y:Value}(h1:c[o]?=some x)(h2:c[o+1]?=some y):o+2≤c.size∧c.extract o (o+2)=[x,y].toArray:=by
 have k1:=(Array.getElem?_eq_some_iff.1 h1)
 have k2:=(Array.getElem?_eq_some_iff.1 h2)
 obtain⟨l1,e1⟩:=k1
 obtain⟨l2,e2⟩:=k2
 refine⟨l2,Array.ext (by simp;omega) fun i hi hj=>?_⟩
 have hi2:i<2:=by simpa using hj
 rw [Array.getElem_extract]
 rcases i with _|_|i
 ·simpa using e1
 ·simpa using e2
 ·omega
theorem num_tab:(List.range 5).all (fun P=>(List.range (2 ^ P)).all fun t=>numE P none (A7e (lst t))==0&&orG (lst t)==t)=true:=by decide +kernel
theorem num_lst{P t:Nat}(hP:P≤4)(ht:t<2 ^ P):numE P none (A7e (lst t))=0∧orG (lst t)=t:=by
 have:=List.all_eq_true.1 (List.all_eq_true.1 num_tab P (List.mem_range.2 oM)) t (List.mem_range.2 ht)
 simpa using this
theorem wrong_w{P F:Nat}{ws:List Wd}{w:Wl}(h:VOk P F ws)(h1:w.1<2 ^ P)(h2:w.2<2 ^ F):errWr P F ws (A7e (lst w.1)) (A7e (lst w.2))=0∧((B4l P ws (A7e (lst w.1)) (A7e (lst w.2))).isEmpty=can P ws w):=by
 have h4:=h.p4
 have h3:=h.f3
 obtain⟨n1,o1⟩:=num_lst oM h1
 obtain⟨n2,o2⟩:=num_lst oM h2
 refine⟨?_,?_⟩
 ·unfold errWr
  simp only [Int.toNat_natCast]
  rw [h.check,if_pos rfl,n1,if_pos rfl,n2]
 ·unfold B4l
  rw [gOf_ints,gOf_ints,o1,o2]
  show(lst (B1s P ws w ^^^ w.1)).isEmpty=(B1s P ws w==w.1)
  have hx:B1s P ws w ^^^ w.1<2 ^ P:=Nat.xor_lt_two_pow (honest_lt h4 h.who8) h1
  have h16:2 ^ P≤2^4:=Nat.pow_le_pow_right dM h4
  have h1:=List.all_eq_true.1 (List.all_eq_true.1 lst_tab P (List.mem_range.2 oM)) _ (List.mem_range.2 (show B1s P ws w ^^^ w.1<256 by omega))
  simp only [Bool.and_eq_true,beq_iff_eq]at h1
  rw [h1.1.1,Bool.eq_iff_iff,beq_iff_eq,beq_iff_eq]
  exact xor_zero_iff
theorem VOk.snoc2{P F:Nat}{ws:List Wd}{x:Wd}(h:VOk P F ws)(hl:ws.length<8)(hx:A2k P F x=0):VOk P F (ws++[x]):=⟨h.p1,h.p4,h.f3,by rw [List.length_append];exact hl,fun y hy=>by
 rcases List.mem_append.1 hy with hy|hy
 ·exact h.all y hy
 ·rw [List.mem_singleton.1 hy];exact hx⟩
theorem own_capM{e:TypeId}{k:Nat}{seg:A0j}{a:Option Addr}{len cap:Nat}{xs:List Value}(h:OwnS e k seg a len cap xs):len≤cap:=by
 cases h with
 | nil=>exact Nat.le_refl _
 | box h1 h2 h3 h4=>exact h2
theorem more_run{v:View}{a0:Option Addr}{cap0:Nat}{ns:List Int}(hns:RowAt v a0 (ns.map (.int .i64))):Run prog ⟨true,true⟩ (AtTop 19 2) v (G (Frame.enter prog 19 (List.toArray [.slice a0 ns.length cap0]) .normal) []):=by
 refine top_run func19 rfl nB ?_
 repeat (first|refine st ?_|refine qb fun bx=>?_)
 refine Q_op fun ho=>A0i [] _ ho bod23 rfl rfl rfl rfl rfl A1n (newBag_x) (fun x β' hR=>?_)
 clear ho
 obtain⟨b,rfl,hB⟩:=hR
 rename A0j=>β1
 repeat (first|refine st ?_|refine qb fun bx=>?_)
 refine A2f (bin:=β1) (by repeat (first|(with_reducible exact A0k)|(with_reducible exact A0u)|(with_reducible exact A1e)|(with_reducible apply A0y))) ?_
 refine Q_op fun ho=>A0i β1 _ ho bod40 rfl rfl rfl rfl rfl A0k (B1e (g:=⟨b,a0,cap0,ns⟩) (P0:=4) (F0:=3) (wl:=7) (RowAt.le hns (A0b _ _)) hB dM ⟨by decide,by decide⟩ dM dM) (fun x β' hR=>?_)
 clear ho hB
 obtain⟨P,F,ws,tr,so,a,a1,a2,cap,c1,c2,β0,βw,βt,βs,hS⟩:=hR
 obtain rfl:=hS.val
 obtain rfl:=hS.box
 refine A0w (β1:=βw++(βt++βs)) (β2:=β0) cntA (fun hb=>?_)
 have hws:WdsAt (v.union (A0e (βw++(βt++βs)))) a ws:=RowAt.own hb (show Subm βw (βw++(βt++βs))from cntL) hS.hw
 have htr:RowAt (v.union (A0e (βw++(βt++βs)))) a1 (tr.map (.int .i64)):=RowAt.own hb (show Subm βt (βw++(βt++βs))from cntL) hS.ht
 have hso:RowAt (v.union (A0e (βw++(βt++βs)))) a2 (so.map (.int .i64)):=RowAt.own hb (show Subm βs (βw++(βt++βs))from cntL) hS.hs
 have hr:RowAt (v.union (A0e (βw++(βt++βs)))) a0 (ns.map (.int .i64)):=RowAt.le hns (A0b _ _)
 generalize v.union (A0e (βw++(βt++βs)))=u at hws hr htr hso⊢
 have hok:VOk P F ws:=⟨hS.p1,hS.p4,hS.f3,Nat.le_trans hS.w7 dM,hS.all⟩
 have h7:=hS.w7
 have hB:=hS.on
 have hcap:=own_capM hS.hw
 have htl:=hS.t1
 have hsl:=hS.s1
 clear hb hS hns
 have h1:=hok.p1
 have h4:=hok.p4
 repeat (first|refine st ?_|refine qb fun bx=>?_)
 rename_i b4
 have hf3:=hok.f3
 refine C_mid (fun σ w=>w=u∧∃(b6:Nat) (who kd xa xb:Int),A2k P F ⟨who,kd,xa,xb⟩=0∧σ=⟨[],[(6,.pointer (some ⟨b6,0,none⟩)),(4,.pointer (some ⟨b4,0,none⟩))],[(b6,#[.int .i64 who,.int .i64 kd,.int .i64 xa,.int .i64 xb],26),(b4,#[.int .i64 P,.int .i64 F,.slice a ws.length cap],24)]⟩) ?_ ?_
 rotate_left
 ·refine XC_front (bin:=β0) (by repeat (first|(with_reducible exact A0k)|(with_reducible exact A0u)|(with_reducible exact A1e)|(with_reducible apply A0y))) ?_
  refine A2u [4,5,6,7] [0,1,2,3,4,6,5,7] A1w rfl kR ?_
  repeat (first|refine st ?_|refine qb fun bx=>?_)
  refine S_two 6 kR (A0i β0 _ rfl bod45 rfl rfl rfl rfl rfl A0k (B3b (g:=⟨b,a0,cap0,ns⟩) (RowAt.le hr (A0b _ _)) hB dM 2 oM) (fun x β2 hR=>⟨Le.refl _,?_,?_⟩)) (A_alloc tab rfl rfl rfl rfl (fun b6=>⟨Le.refl _,kp,?_⟩))
  ·exact kp
  ·obtain⟨⟨to,rfl⟩,hB⟩:=hR
   repeat (first|refine st ?_|refine qb fun bx=>?_)
   refine S_two 5 kR (A_alloc tab rfl rfl rfl rfl (fun b6=>⟨Le.refl _,kp,?_⟩)) (A0i β2 _ rfl bod54 rfl rfl rfl rfl rfl A0k (wordOf_x (g:=⟨b,a0,cap0,ns⟩) (RowAt.le hr (A0b _ _)) hB dM h1 oM oM (RowAt.le htr (A0b _ _)) (RowAt.le hso (A0b _ _)) htl oM) (fun x β3 hR=>⟨Le.refl _,?_,?_⟩))
   ·refine S_do kR (A0i β2 _ rfl bod54 rfl rfl rfl rfl rfl (A0y A0k) (wordOf_x (g:=⟨b,a0,cap0,ns⟩) (RowAt.le hr (A0b _ _)) hB dM h1 oM oM (RowAt.le htr (A0b _ _)) (RowAt.le hso (A0b _ _)) htl oM) (fun x β3 hR=>⟨Le.refl _,?_,?_⟩))
    ·exact kp
    obtain⟨⟨⟨who,kd,xa,xb⟩,rfl,hx⟩,-⟩:=hR
    repeat (first|refine st ?_|refine qb fun bx=>?_)
    exact A0c ⟨_,_,⟨rfl,b6,who,kd,xa,xb,hx,rfl⟩,⟨rfl,rg,show Subm [(b6,#[.int .i64 who,.int .i64 kd,.int .i64 xa,.int .i64 xb],26),(b4,#[.int .i64 P,.int .i64 F,.slice a ws.length cap],24)] (β3++((b6,#[.int .i64 who,.int .i64 kd,.int .i64 xa,.int .i64 xb],26)::[(bx,#[.slice a1 tr.length c1,.slice a2 so.length c2],38),(b4,#[.int .i64 P,.int .i64 F,.slice a ws.length cap],24)]))from cntL⟩,Le.refl _⟩
   ·exact kp
   ·obtain⟨⟨⟨who,kd,xa,xb⟩,rfl,hx⟩,-⟩:=hR
    repeat (first|refine st ?_|refine qb fun bx=>?_)
    refine S_do kR (A_alloc tab rfl rfl rfl rfl (fun b6=>⟨Le.refl _,kp,?_⟩))
    repeat (first|refine st ?_|refine qb fun bx=>?_)
    exact A0c ⟨_,_,⟨rfl,b6,who,kd,xa,xb,hx,rfl⟩,⟨rfl,rg,show Subm [(b6,#[.int .i64 who,.int .i64 kd,.int .i64 xa,.int .i64 xb],26),(b4,#[.int .i64 P,.int .i64 F,.slice a ws.length cap],24)] ((b6,#[.int .i64 who,.int .i64 kd,.int .i64 xa,.int .i64 xb],26)::(β3++[(bx,#[.slice a1 tr.length c1,.slice a2 so.length c2],38),(b4,#[.int .i64 P,.int .i64 F,.slice a ws.length cap],24)]))from cntL⟩,Le.refl _⟩
  ·refine S_do kR (A0i β0 _ rfl bod45 rfl rfl rfl rfl rfl (A0y A0k) (B3b (g:=⟨b,a0,cap0,ns⟩) (RowAt.le hr (A0b _ _)) hB dM 2 oM) (fun x β2 hR=>⟨Le.refl _,?_,?_⟩))
   ·exact kp
   obtain⟨⟨to,rfl⟩,hB⟩:=hR
   repeat (first|refine st ?_|refine qb fun bx=>?_)
   refine S_do kR (A0i β2 _ rfl bod54 rfl rfl rfl rfl rfl A0k (wordOf_x (g:=⟨b,a0,cap0,ns⟩) (RowAt.le hr (A0b _ _)) hB dM h1 oM oM (RowAt.le htr (A0b _ _)) (RowAt.le hso (A0b _ _)) htl oM) (fun x β3 hR=>⟨Le.refl _,?_,?_⟩))
   ·exact kp
   obtain⟨⟨⟨who,kd,xa,xb⟩,rfl,hx⟩,-⟩:=hR
   repeat (first|refine st ?_|refine qb fun bx=>?_)
   exact A0c ⟨_,_,⟨rfl,b6,who,kd,xa,xb,hx,rfl⟩,⟨rfl,rg,show Subm [(b6,#[.int .i64 who,.int .i64 kd,.int .i64 xa,.int .i64 xb],26),(b4,#[.int .i64 P,.int .i64 F,.slice a ws.length cap],24)] (β3++((b6,#[.int .i64 who,.int .i64 kd,.int .i64 xa,.int .i64 xb],26)::[(bx,#[.slice a1 tr.length c1,.slice a2 so.length c2],38),(b4,#[.int .i64 P,.int .i64 F,.slice a ws.length cap],24)]))from cntL⟩,Le.refl _⟩
 rintro σ w ⟨rfl,b6,who,kd,xa,xb,hx,rfl⟩
 have hwho:0≤who∧who≤(P:Int)-1:=A7u hx
 obtain⟨who,rfl⟩:=Int.eq_ofNat_of_zero_le hwho.1
 have h3:=hok.f3
 have hokD:=hok.snoc2 oM hx
 have hlD:(ws++[(⟨who,kd,xa,xb⟩:Wd)]).length=ws.length+1:=by rw [List.length_append];rfl
 repeat (first|refine st ?_|refine qb fun bx=>?_)
 refine Q_op fun ho=>A0i [] _ ho bod64 rfl rfl rfl rfl rfl A1n (with_x (x:=(⟨who,kd,xa,xb⟩:Wd)) (hws.le (A0b _ _)) oM) (fun x β' hR=>?_)
 clear ho
 obtain⟨aD,cD,rfl,hSD⟩:=hR
 have hcapD:=own_capM hSD
 refine A0w (β1:=β') (β2:=_) (fun _=>rfl) (fun hb=>?_)
 have hwD:WdsAt (w.union (A0e β')) aD (ws++[(⟨who,kd,xa,xb⟩:Wd)]):=A2m hb hSD
 replace hws:=hws.le (A0b w (A0e β'))
 generalize w.union (A0e β')=u1 at hws hwD⊢
 clear hb hSD hr htr hso
 rw [hlD]at hcapD⊢
 have hcD:=count_r (cap:=cD) hokD hwD
 rw [hlD]at hcD
 have hwr:=fun(w:Wl) (h1:w.1<2 ^ P) (h2:w.2<2 ^ F)=>wrong_w (w:=w) hokD h1 h2
 have hmore:=fun(w:Wl) (hw:w∈A0g P F ws)=>more_can hok hx hw
 repeat (first|refine st ?_|refine qb fun bx=>?_)
 obtain⟨b7,rfl⟩:∃b:Nat,b=bx:=⟨bx,rfl⟩
 refine Q_op fun ho=>A0i [] _ ho bod48 rfl rfl rfl rfl rfl A1n (B4u hok (hws.le (A0b _ _))) (fun x β' hR=>?_)
 clear ho
 obtain⟨aw,nw,cw,rfl,hO⟩:=hR
 refine A0w (β1:=β') (β2:=_) (fun _=>rfl) (fun hb=>?_)
 obtain⟨rfl,rs,hrow,hW⟩:=hO.row hb
 have hle:=A0b u1 (A0e β')
 replace hws:=hws.le hle
 replace hwD:=hwD.le hle
 replace hcD:=hcD.le hle
 generalize u1.union (A0e β')=u2 at hws hwD hcD hrow hW⊢
 clear hb hO hle
 have hperm:=wlT_perm h4 h3 ws
 have hWl:(wlT P F ws).length≤128:=by
  refine Nat.le_trans (List.length_filter_le _ _) ?_
  rw [List.length_map,B4o]
  exact Nat.pow_le_pow_right (n:=2) dM (show P+F≤7 by omega)
 generalize wlT P F ws=W at hrow hW hperm hWl⊢
 repeat (first|refine st ?_|refine qb fun bx=>?_)
 refine Q_op fun ho=>A0s ho bod25 rfl rfl rfl rfl rfl hcD ?_
 clear ho
 repeat (first|refine st ?_|refine qb fun bx=>?_)
 refine A1o (α:=Nat) (fun i=>⟨[],[(12,.int .i64 i),(10,.int .i64 (A0g P F (ws++[(⟨who,kd,xa,xb⟩:Wd)])).length),(8,.slice aw W.length cw),(7,.pointer (some ⟨b7,0,none⟩)),(6,.pointer (some ⟨b6,0,none⟩)),(4,.pointer (some ⟨b4,0,none⟩))],[(b7,#[.int .i64 P,.int .i64 F,.slice aD (ws.length+1) cD],24),(b6,#[.int .i64 who,.int .i64 kd,.int .i64 xa,.int .i64 xb],26),(b4,#[.int .i64 P,.int .i64 F,.slice a ws.length cap],24)]⟩)
  (fun i w=>u2=w∧i≤W.length) (fun i=>W.length-i) 0 ⟨rfl,rg,cntL⟩ (Le.refl _) ⟨rfl,Nat.zero_le _⟩ ?_
 rintro i w ⟨rfl,hi⟩
 repeat (first|refine st ?_|refine qb fun bx=>?_)
 refine A0t rfl (fun h=>?_) (fun h=>?_)
 ·have hil:i<W.length:=by have:=of_decide_eq_true h;omega
  clear h
  obtain⟨bb,off,q,c,e,f,rfl,hv,hc⟩:=WRows.at hrow hW hil
  obtain⟨x1,d1,x2,d2,m1,m2,m3,m4⟩:=hc i hil
  have hmw:W[i]∈A0g P F ws:=hperm.mem_iff.1 (List.getElem_mem hil)
  have hrec:=ext_two m1 m2
  generalize W[i]=wl at m1 m2 m3 m4 hmw hrec
  obtain⟨⟨ht,hs⟩,-⟩:=worldsL_mem.1 hmw
  obtain⟨he0,hem⟩:=hwr wl ht hs
  rw [hmore wl hmw]at hem
  have hl1:=lst_len8 wl.1
  have hl2:=lst_len8 wl.2
  repeat (first|refine st ?_|refine qb fun bx=>?_)
  refine A2u [5] [0,1,2,3,4,5,6,7,8,9,10] A1w rfl kR ?_
  repeat (first|refine st ?_|refine qb fun bx=>?_)
  refine A0v tab i rfl rfl rfl kR rfl rfl rfl rfl rfl hil ?_
  repeat (first|refine st ?_|refine qb fun bx=>?_)
  refine A8d tab rfl rfl rfl kR rfl hv (A2d tab rfl rfl rfl hrec) ?_
  repeat (first|refine st ?_|refine qb fun bx=>?_)
  refine S_do kR (A0i [] _ rfl bod56 rfl rfl rfl rfl rfl A1n (by rw [←hlD];exact wrong_n (A0b _ _) hwD oM m3 m4 oM oM) (fun x β' hR=>⟨Le.refl _,?_,?_⟩))
  ·exact kp
  obtain⟨t,rfl,hT⟩:=hR
  rw [he0,if_pos rfl]at hT
  rw [he0]
  obtain⟨ar,cr_,rfl,hSr⟩:=hT
  generalize B4l P (ws++[(⟨who,kd,xa,xb⟩:Wd)]) (A7e (lst wl.1)) (A7e (lst wl.2))=wr at hem⊢
  clear hSr
  repeat (first|refine st ?_|refine qb fun bx=>?_)
  have hem:wr.isEmpty=(!bit wl.1 who||A4h P (⟨who,kd,xa,xb⟩:Wd) wl):=hem
  cases hbit:bit wl.1 who with
  | false=>
   rw [hbit]at hem
   have hw0:wr=[]:=by simpa using hem
   subst hw0
   refine lexL A1w rfl kR ?_
   repeat (first|refine st ?_|refine qb fun bx=>?_)
   refine A2i tab i rfl rfl rfl rfl rfl rfl rfl hil ?_
   repeat (first|refine st ?_|refine qb fun bx=>?_)
   refine A9d tab rfl rfl rfl hv (A1b tab rfl rfl rfl m1) ?_
   repeat (first|refine st ?_|refine qb fun bx=>?_)
   refine A3r bod49 rfl rfl rfl rfl rfl (has_b m3 oM) ?_
   rw [hbit]
   repeat (first|refine st ?_|refine qb fun bx=>?_)
   exact A0c ⟨i+1,u2,oM,⟨rfl,rg,cntL⟩,Le.refl _,rfl,hil⟩
  | true=>
   rw [hbit]at hem
   cases hho:A4h P (⟨who,kd,xa,xb⟩:Wd) wl with
   | true=>
    rw [hho]at hem
    have hw0:wr=[]:=by simpa using hem
    subst hw0
    refine lexL A1w rfl kR ?_
    repeat (first|refine st ?_|refine qb fun bx=>?_)
    refine A2i tab i rfl rfl rfl rfl rfl rfl rfl hil ?_
    repeat (first|refine st ?_|refine qb fun bx=>?_)
    refine A9d tab rfl rfl rfl hv (A1b tab rfl rfl rfl m1) ?_
    repeat (first|refine st ?_|refine qb fun bx=>?_)
    refine A3r bod49 rfl rfl rfl rfl rfl (has_b m3 oM) ?_
    rw [hbit]
    repeat (first|refine st ?_|refine qb fun bx=>?_)
    refine A2i tab i rfl rfl rfl rfl rfl rfl rfl hil ?_
    repeat (first|refine st ?_|refine qb fun bx=>?_)
    refine A9d tab rfl rfl rfl hv (A2d tab rfl rfl rfl hrec) ?_
    repeat (first|refine st ?_|refine qb fun bx=>?_)
    refine A3r bod57 rfl rfl rfl rfl rfl (so_x (x:=(⟨who,kd,xa,xb⟩:Wd)) h4 h3 hx m3 m4) ?_
    rw [hho]
    repeat (first|refine st ?_|refine qb fun bx=>?_)
    exact A0c ⟨i+1,u2,oM,⟨rfl,rg,cntL⟩,Le.refl _,rfl,hil⟩
   | false=>
    rw [hho]at hem
    have hw0:((wr.length:Int)==0)=false:=by
     rw [beq_eq_false_iff_ne]
     intro e
     have:wr=[]:=List.length_eq_zero_iff.1 oM
     rw [this]at hem
     cases hem
    refine lexL A1w rfl kR ?_
    repeat (first|refine st ?_|refine qb fun bx=>?_)
    refine A2i tab i rfl rfl rfl rfl rfl rfl rfl hil ?_
    repeat (first|refine st ?_|refine qb fun bx=>?_)
    refine A9d tab rfl rfl rfl hv (A1b tab rfl rfl rfl m1) ?_
    repeat (first|refine st ?_|refine qb fun bx=>?_)
    refine A3r bod49 rfl rfl rfl rfl rfl (has_b m3 oM) ?_
    rw [hbit]
    repeat (first|refine st ?_|refine qb fun bx=>?_)
    refine A2i tab i rfl rfl rfl rfl rfl rfl rfl hil ?_
    repeat (first|refine st ?_|refine qb fun bx=>?_)
    refine A9d tab rfl rfl rfl hv (A2d tab rfl rfl rfl hrec) ?_
    repeat (first|refine st ?_|refine qb fun bx=>?_)
    refine A3r bod57 rfl rfl rfl rfl rfl (so_x (x:=(⟨who,kd,xa,xb⟩:Wd)) h4 h3 hx m3 m4) ?_
    rw [hho]
    repeat (first|refine st ?_|refine qb fun bx=>?_)
    rw [hw0]
    repeat (first|refine st ?_|refine qb fun bx=>?_)
    exact A0c ⟨i+1,u2,oM,⟨rfl,rg,cntL⟩,Le.refl _,rfl,hil⟩
 ·clear h
  repeat (first|refine st ?_|refine qb fun bx=>?_)
  refine A0w (β1:=[(b7,#[.int .i64 P,.int .i64 F,.slice aD (ws.length+1) cD],24),(b6,#[.int .i64 who,.int .i64 kd,.int .i64 xa,.int .i64 xb],26),(b4,#[.int .i64 P,.int .i64 F,.slice a ws.length cap],24)]) (β2:=[]) cntA (fun hb=>?_)
  have hv7:=A9c hb (b:=b7) ib
  have hle:=A0b u2 (A0e [(b7,#[.int .i64 P,.int .i64 F,.slice aD (ws.length+1) cD],24),(b6,#[.int .i64 who,.int .i64 kd,.int .i64 xa,.int .i64 xb],26),(b4,#[.int .i64 P,.int .i64 F,.slice a ws.length cap],24)])
  replace hws:=hws.le hle
  replace hwD:=hwD.le hle
  generalize u2.union (A0e [(b7,#[.int .i64 P,.int .i64 F,.slice aD (ws.length+1) cD],24),(b6,#[.int .i64 who,.int .i64 kd,.int .i64 xa,.int .i64 xb],26),(b4,#[.int .i64 P,.int .i64 F,.slice a ws.length cap],24)])=u3 at hws hwD hv7⊢
  clear hb hle
  refine Q_op fun ho=>A0i [] [] ho bod71 rfl rfl rfl rfl rfl cntA (Add_x (v:=u3.union (A0e [])) (x:=(⟨who,kd,xa,xb⟩:Wd)) (hws.le (A0b _ _)) oM hcap) (fun x β' hR=>?_)
  clear ho
  rw [A2r]at hR
  obtain⟨t,rfl,hY⟩:=hR
  have herr:errAd P F ws (⟨who,kd,xa,xb⟩:Wd)=B4y P F ws (⟨who,kd,xa,xb⟩:Wd):=by
   unfold errAd
   rw [hok.check,if_pos rfl,if_pos oM]
   simp only [Int.toNat_natCast]
   rw [if_pos hx]
  rw [herr]at hY⊢
  by_cases hbad:0<W.length∧A0g P F (ws++[(⟨who,kd,xa,xb⟩:Wd)])=[]
  ·obtain⟨hW0,hD0⟩:=hbad
   have h9:B4y P F ws (⟨who,kd,xa,xb⟩:Wd)=9:=by
    unfold B4y
    rw [hD0]
    have:(A0g P F ws).isEmpty=false:=by
     cases h:A0g P F ws with
     | nil=>rw [hperm.length_eq,h]at hW0;cases hW0
     | cons y l=>rfl
    rw [this];rfl
   rw [h9]at hY⊢
   rcases hY with ⟨h,_⟩|⟨_,ay,cy,rfl,_,_⟩
   ·cases h
   rw [hD0]
   repeat (first|refine st ?_|refine qb fun bx=>?_)
   refine A6d rfl rfl (fun h=>?_) (fun h=>?_)
   ·clear h
    repeat (first|refine st ?_|refine qb fun bx=>?_)
    refine Q_op fun ho=>A0s ho bod21 rfl rfl rfl rfl rfl A9k ?_
    clear ho
    repeat (first|refine st ?_|refine qb fun bx=>?_)
    exact⟨rfl,rfl,rfl⟩
   ·exfalso;have:=of_decide_eq_false h;omega
  ·have h0:B4y P F ws (⟨who,kd,xa,xb⟩:Wd)=0:=by
    unfold B4y
    rw [if_pos]
    rw [Bool.or_eq_true]
    by_cases hW0:0<W.length
    ·right
     cases h:A0g P F (ws++[(⟨who,kd,xa,xb⟩:Wd)])with
     | nil=>exact absurd ⟨hW0,h⟩ hbad
     | cons y l=>rfl
    ·left
     have:A0g P F ws=[]:=List.length_eq_zero_iff.1 (by rw [←hperm.length_eq];omega)
     rw [this];rfl
   rw [h0]at hY⊢
   rcases hY with ⟨_,ay,cy,rfl,hcy,hwy⟩|⟨h,_⟩
   rotate_left
   ·exact absurd rfl h
   refine A0w (β1:=β') (β2:=[]) (fun _=>rfl) (fun hb=>?_)
   have hle:=A0b u3 (A0e β')
   replace hwD:=hwD.le hle
   replace hv7:=hle _ _ hv7
   generalize u3.union (A0e β')=u4 at hwD hv7 hwy⊢
   clear hb hle
   have hsm:=sameV_x (mn:=⟨true,true⟩) (P:=(P:Int)) (F:=(F:Int)) (c:=cy) (d:=cD) hwy hwD oM
   rw [hlD]at hsm⊢
   repeat (first|refine st ?_|refine qb fun bx=>?_)
   refine A6d rfl rfl (fun h=>?_) (fun h=>?_)
   ·have hW0:0<W.length:=by have:=of_decide_eq_true h;omega
    clear h
    repeat (first|refine st ?_|refine qb fun bx=>?_)
    refine A0t rfl (fun h=>?_) (fun h=>?_)
    ·exfalso
     refine hbad ⟨hW0,List.length_eq_zero_iff.1 ?_⟩
     have h:=eq_of_beq h
     omega
    ·clear h
     repeat (first|refine st ?_|refine qb fun bx=>?_)
     refine A2p tab rfl rfl rfl hv7 (A2d tab rfl rfl rfl (x:=[.int .i64 P,.int .i64 F,.slice aD (ws.length+1) cD]) ⟨Nat.le_refl 3,rfl⟩) ?_
     refine Q_op fun ho=>A0s ho bod32 rfl rfl rfl rfl rfl hsm ?_
     clear ho
     repeat (first|refine st ?_|refine qb fun bx=>?_)
     refine Q_op fun ho=>A0s ho bod21 rfl rfl rfl rfl rfl A9k ?_
     clear ho
     repeat (first|refine st ?_|refine qb fun bx=>?_)
     exact⟨rfl,rfl,rfl⟩
   ·clear h
    repeat (first|refine st ?_|refine qb fun bx=>?_)
    refine A2p tab rfl rfl rfl hv7 (A2d tab rfl rfl rfl (x:=[.int .i64 P,.int .i64 F,.slice aD (ws.length+1) cD]) ⟨Nat.le_refl 3,rfl⟩) ?_
    refine Q_op fun ho=>A0s ho bod32 rfl rfl rfl rfl rfl hsm ?_
    clear ho
    repeat (first|refine st ?_|refine qb fun bx=>?_)
    refine Q_op fun ho=>A0s ho bod21 rfl rfl rfl rfl rfl A9k ?_
    clear ho
    repeat (first|refine st ?_|refine qb fun bx=>?_)
    exact⟨rfl,rfl,rfl⟩
end Go.Proofs.YtiolobmgibdfmaaGreat
end
section
namespace Go.Proofs.YtiolobmgibdfmaaGreat
open Go Go.ChangeShapes
theorem A1c{a b:Bool}(ha:a=true)(hb:b=true):(a&&b)=true:=by rw [ha,hb];rfl
theorem j19_0:(Rows.vouchMoreRow.wf (OpenSpec.ofChange Rows.vouchMoreSpec))=true:=by kernel_rfl
theorem j19_1:(laidOutB Tryz.prog)=true:=by kernel_rfl
theorem j19_2:(mapsRowed Tryz.prog)=true:=by kernel_rfl
theorem j19_3:(Tryz.f19.params.all (Tryz.prog.readableRec ·))=true:=by kernel_rfl
theorem j19_4:(namedTie Tryz.prog Rows.vouchMoreRow.named Rows.vouchMoreSpec.vars)=true:=by kernel_rfl
theorem j19_5:((Rows.vouchMoreRow.stops == []))=true:=by kernel_rfl
theorem j19_6:((Tryz.prog.stops == []))=true:=by kernel_rfl
theorem j19_7:((Rows.vouchMoreRow.knobs == []))=true:=by kernel_rfl
theorem j19_8:((Tryz.prog.stopKnobs == []))=true:=by kernel_rfl
theorem j19_9:((Rows.vouchMoreRow.inPlace==Tryz.prog.inPlace 19))=true:=by kernel_rfl
theorem j19_10:((Rows.vouchMoreRow.unfollowed==Tryz.prog.unfollowed 19))=true:=by kernel_rfl
theorem j19_11:((Rows.vouchMoreRow.recurses==Tryz.prog.recurses 19))=true:=by kernel_rfl
theorem j19_12:((Rows.vouchMoreRow.named==Tryz.prog.varsNamed 19))=true:=by kernel_rfl
theorem j19_13:((Rows.vouchMoreRow.maps==(Tryz.f19.params.toList++Rows.vouchMoreSpec.plain.varTypes Tryz.prog).any (Tryz.prog.mapsRec ·)))=true:=by kernel_rfl
theorem j19_14:((Rows.vouchMoreRow.ifaces==(Tryz.f19.params.toList++Rows.vouchMoreSpec.plain.varTypes Tryz.prog).any (Tryz.prog.ifacesRec ·)))=true:=by kernel_rfl
theorem j19_15:((Rows.vouchMoreRow.mapsOut==Tryz.prog.mapsAmong Tryz.f19.resultTypes.toList))=true:=by kernel_rfl
theorem j19_16:((Rows.vouchMoreRow.loops==(Tryz.f19.params.toList++Rows.vouchMoreSpec.plain.varTypes Tryz.prog).any (Tryz.prog.loopsFrom ·)))=true:=by kernel_rfl
theorem j19_17:((Rows.vouchMoreRow.wideKeys==(Tryz.f19.params.toList++Rows.vouchMoreSpec.plain.varTypes Tryz.prog++Tryz.f19.resultTypes.toList).any (Tryz.prog.wideKeysFrom ·)))=true:=by kernel_rfl
theorem j19_18:(Rows.vouchMoreSpec.vars.all (Tryz.prog.varReadable ·))=true:=by kernel_rfl
theorem j19_19:(Tryz.f19.resultTypes.all (fun t=>Tryz.prog.readableRec t&&decide (t<Tryz.prog.types.size)))=true:=by kernel_rfl
theorem j19_20:((Rows.vouchMoreRow.ifacesOut==Tryz.f19.resultTypes.toList.any (Tryz.prog.ifacesRec ·)))=true:=by kernel_rfl
theorem j19_21:((Rows.vouchMoreRow.loopsOut==Tryz.f19.resultTypes.toList.any (Tryz.prog.loopsFrom ·)))=true:=by kernel_rfl
theorem j19_22:((Rows.vouchMoreRow.plainKeys==Tryz.prog.plainKeys))=true:=by kernel_rfl
theorem j19_23:(Rows.vouchMoreRow.shortTexts.isNone)=true:=by kernel_rfl
theorem j19_24:(Tryz.prog.stopsHeard)=true:=by kernel_rfl
theorem j19_25:(Tryz.prog.mayEnter)=true:=by kernel_rfl
theorem j19_26:((Rows.vouchMoreRow.lifted==Tryz.prog.liftsFinal))=true:=by kernel_rfl
theorem j19_27:((Tryz.prog.make==some Rows.vouchMoreRow.make))=true:=by kernel_rfl
theorem j19_28:((Rows.vouchMoreRow.kinds==(if Rows.vouchMoreRow.domain.isEmpty then []else Tryz.f19.params.toList.map fun t=>match Tryz.prog.underlying t with|some (.int k)=>some k|_=>none)))=true:=by kernel_rfl
theorem j19_29:((Rows.vouchMoreRow.pinned==Rows.vouchMoreRow.pinnedBy))=true:=by kernel_rfl
theorem j19_30:((Rows.vouchMoreRow.veiled==(Tryz.f19.params.toList++Rows.vouchMoreSpec.plain.varTypes Tryz.prog++Tryz.f19.resultTypes.toList).any (Tryz.prog.veiledRec ·)))=true:=by kernel_rfl
theorem j19_31:(Rows.vouchMoreRow.veiledFits Tryz.prog Tryz.f19.params.toList (Tryz.f19.params.toList++Rows.vouchMoreSpec.plain.varTypes Tryz.prog++Tryz.f19.resultTypes.toList))=true:=by kernel_rfl
set_option maxRecDepth 100000 in
theorem j19:joinedFacts Tryz.prog 19 Tryz.f19 Rows.vouchMoreSpec Rows.vouchMoreRow=true:=A1c (A1c (A1c (A1c (A1c (A1c (A1c (A1c (A1c (A1c (A1c (A1c (A1c (A1c (A1c (A1c (A1c (A1c (A1c (A1c (A1c (A1c (A1c (A1c (A1c (A1c (A1c (A1c (A1c (A1c (A1c (j19_0) j19_1) j19_2) j19_3) j19_4) j19_5) j19_6) j19_7) j19_8) j19_9) j19_10) j19_11) j19_12) j19_13) j19_14) j19_15) j19_16) j19_17) j19_18) j19_19) j19_20) j19_21) j19_22) j19_23) j19_24) j19_25) j19_26) j19_27) j19_28) j19_29) j19_30) j19_31
end Go.Proofs.YtiolobmgibdfmaaGreat
end
section
namespace Go.Proofs.YtiolobmgibdfmaaGreat
open Go Go.Pal Go.Conc Go.ConcM Go.RowKit Go.ChangeShapes Go.WideShapes Go.ChangeAt
theorem B0f:ownKnob Tryz.prog.godebug=none:=by kernel_rfl
set_option maxRecDepth 100000 in
theorem more_lifted(os:Os)(started:os.Started)(H:Type)(enc:TypeId×Value→H)(F:Stop.Interp) :
  ReturnsInLeavingWide Rows.vouchMoreRow.assume Tryz.checked os 19 .any (Rows.vouchMoreSpec.pre6 enc Tryz.prog Tryz.f19 Rows.vouchMoreRow.domain false) ((OpenSpec.ofChange Rows.vouchMoreSpec).postWith enc Tryz.prog Tryz.f19 F (outsideKept [.timePasses]) false true false):=by
 refine returnsInLeavingWide_of_change_time (C:=Tryz.checked) B0f started Tryz.func19
  (ChangeSpec.witness6c (enc:=enc) (C:=Tryz.checked) ⟨#[],#[.slice none 0 0],[]⟩ 8 kR kR kR kR) ?_
 intro W base args ds gs before hval0 hW _ _ hass
 have hval:∀(j:Nat) t v,Tryz.f19.params[j]?=some t→args[j]?=some v→Value.okWide Tryz.prog W .any base t v:=hval0
 have hW':=hW
 obtain⟨p,q,hA0,hV,rfl,_,_⟩:=hW
 have hA:DataW.TrodAll enc Tryz.prog W 0 (fun _=>true) true Tryz.f19.params.toList args.toList ds p:=hA0
 rw [Tryz.params19]at hA hval
 obtain⟨v0,d0,rfl,rfl,h0⟩:=trodAll_one hA
 obtain⟨rfl,rfl⟩:=trodVars_none hV
 clear hA0 hval0
 simp only [List.append_nil]at hW'
 have hlt:∀x∈p,x.block<W.heap.size:=fun x hx=>by simpa using hW'.lt x hx
 obtain⟨a0,cap,ns,v,rfl,hag,hro,hns,hargs⟩:=B3a (hval 0 27 v0 rfl rfl) h0 hlt
 have hcalm:Calm W.tape:=hass.2.1 rfl
 obtain⟨M,last,o,w',t',r1,r2,r3,v',e,hp,g1,g2,g3,g4⟩:=law_run (P:=Tryz.prog) (W:=W) (v:=v) (args:=[.slice a0 ns.length cap]) Tryz.func19 rfl kR hag hro hcalm (more_run hns)
 refine⟨M,last,o,w',t',r1,r2,r3,v',e,⟨?_,hp.2.2⟩,g1,g2,g3,g4⟩
 obtain⟨rfl,hbel,hos⟩:=hp
 exact⟨_,_,_,[],p,[],hW',trodAll_mk1 (shut_bool Tryz.underlying4 true),trodAll_mk1 (hargs _ hbel),rfl,hbel.frame _,fun h=>by cases h⟩
theorem more_said:Rows.VouchMoreSaid:=
 OpenClaim.holds_of_wide_leaving_time 19 Tryz.f19 rfl rfl rfl rfl rfl rfl rfl ⟨rfl,rfl,rfl,rfl,rfl⟩ rfl rfl rfl rfl rfl kR Tryz.func19 j19
  (of_decide_eq_true kR) (by unfold Func.isWrapper;first|(rw [if_pos (by decide +kernel)];kernel_rfl)|(rw [if_neg (by decide +kernel)];exact⟨rfl,rfl⟩))
  (fun os started H enc _ F=>more_lifted os started H enc F)
end Go.Proofs.YtiolobmgibdfmaaGreat
end
#print axioms Go.Proofs.YtiolobmgibdfmaaGreat.more_said
