/- 'palfreylaw06.VouchAdds' returns true for all arguments, whatever the goroutines of its calls do, and the arguments read as they did, as its row says it. No condition. -/
import Derived.JoinedOf
import Derived.Test.YtiolobmgibdfmaaGreatQcomb
set_option linter.all false
section
namespace Go.Proofs.YtiolobmgibdfmaaGreat
open Go Go.Pal Go.Proofs.Tryz
theorem bod24:A0n Tryz.prog 24:=⟨_,_,func24,Z,by decide⟩
theorem bod32:A0n Tryz.prog 32:=⟨_,_,func32,Z,by decide⟩
theorem bod71:A0n Tryz.prog 71:=⟨_,_,func71,Z,by decide⟩
theorem bod72:A0n Tryz.prog 72:=⟨_,_,func72,Z,by decide⟩
end Go.Proofs.YtiolobmgibdfmaaGreat
end
section
namespace Go.Pal
open Go Go.Conc View
section
variable{P:Program}{mn:Who}(T:Tab P){rd:Option Nat}{n:Nat}{Q:Exit→St→View→Prop}{ds:List Deferred}{ρ:Regs}{β:A0j}{v:View}{K:St→View→Prop}
 {ops:Array Oper}{i:Nat}{d:Nat}{ty:TypeId}{pos:String}{af:Array Edge}{gu:Option (Nat×Bool)}
theorem A_appendB{t t' e e':TypeId}{k by_ m len cap cap2:Nat}{y y2:Operand}{z:Value}{a a2:Option Addr}{cs xs:List Value}(ho:ops[i]?=some ⟨some d,.call {callee:=.builtin .append,args:=#[y,y2],argTypes:=#[t,t'] },ty,pos,af,gu⟩)(hw:A0x ops gu ρ=some true)(hn:Nat.blt d n=true)
  (hy:ρ.val y=some (.slice a len cap))(hy2:ρ.val y2=some (.slice a2 m cap2))
  (ht:T.und t=some (.slice e))(ht':T.und t'=some (.slice e'))(hs:T.siz e=some k)(hby:T.byt e=some by_)(hz:T.zer e=some z)(hzs:z.cells.size=k)
  (hr1:Bok β v→RowAt (v.union (A0e β)) a cs)(hl1:cs.length=len*k)(hr2:Bok β v→RowAt (v.union (A0e β)) a2 xs)(hxl:xs.length=m*k)(hc:cap<len+m)
  (hb:(2*(len+m)+768)*by_≤2^48)(hp:0<by_)
  (h:∀b c cap',OwnS e k [(b,c,e)] (some ⟨b,0,none⟩) (len+m) cap' (cs++xs)→K ⟨ds,(d,.slice (some ⟨b,0,none⟩) (len+m) cap')::ρ,(b,c,e)::β⟩ v):XOp P mn rd n ops i Q K ⟨ds,ρ,β⟩ v:=by
 refine A2x ho (A0p hw) (.inr Z) hn fun ev hev hbk=>?_
 simp only [execOp,resolve,show(#[y,y2]:Array Operand).map ev=#[ev y,ev y2]from by simp,hev _ _ hy,hev _ _ hy2,A0d,A0m,invoke,builtin]
 refine B0b T ht ht' hs hby hz hzs (hr1 hbk) hl1 (hr2 hbk) hxl hc hb hp fun r cap' c hr hc1 hc2 hc3=>?_
 obtain⟨h5,h6⟩:=B0s (c:=c) (t:=e) hbk hr
 exact⟨(r,c,e)::β,v,⟨h5,h6⟩,h r c cap' (.box (by rw [List.length_append,hl1,hxl,Nat.add_mul]) hc1 hc2 hc3)⟩
end
end Go.Pal
end
section
namespace Go.Proofs.YtiolobmgibdfmaaGreat
open Go Go.Pal Go.Pal.Vo Go.Conc View
open Go.Proofs.Tryz
set_option maxHeartbeats 4000000
set_option maxRecDepth 20000
section
variable{v:View}{wa:Option Addr}{wc:Nat}
def B4y(P F:Nat)(ws:List Wd)(x:Wd):Int:=if(A0g P F ws).isEmpty || !(A0g P F (ws++[x])).isEmpty then 0 else 9
def B4z(P F:Int)(ws:List Wd)(x:Wd):Int:=if A2h P F ws=0 then(if ws.length<8 then(if A2k P.toNat F.toNat x=0 then B4y P.toNat F.toNat ws x else A2k P.toNat F.toNat x)else 6)else A2h P F ws
def AddR(v:View)(β:A0j)(r:Value)(P F:Int)(ws:List Wd)(x:Wd):Prop:=∃t,r = .tuple #[t,.int .i64 (B4z P F ws x)]∧((B4z P F ws x=0∧ReadV v β t P F (ws++[x]))∨(B4z P F ws x≠0∧ReadV v β t 0 0 []))
theorem Add_x{P F:Int}{ws:List Wd}{x:Wd}(hws:WdsAt v wa ws)(hwl:ws.length<2^30)(hwc:ws.length≤wc) :
  CallsB prog ⟨true,true⟩ 71 #[boV P F wa ws.length wc,wdV x] (RetB fun r β'=>AddR v β' r P F ws x) [] v:=by
 refine A3m tab A4x func71 Z nB (args:=[_,_]) ?_
 unfold AddR
 repeat (first|refine st ?_|refine qb fun bx=>?_)
 refine Q_op fun ho=>A6x Z ho Z Z ?_
 clear ho
 repeat (first|refine st ?_|refine qb fun bx=>?_)
 refine Q_op fun ho=>A6g ho bod79 Z Z Z Z (A6u (hws.le (A0b _ _)) hwl) (fun h=>?_) (fun h=>?_)
 ·rw [show B4z P F ws x=A2h P F ws from if_neg h]
  refine pn ?_
  exact A2n tab Z ib dM sb (xs:=[_,_]) (by exact .cell rfl ib rfl (.cell rfl ib rfl .nil)) (β':=[]) (Back.here fun p=>Nat.zero_le _) ⟨_,Z,.inr ⟨h,ReadV.zero⟩⟩
 clear ho
 rw [show B4z P F ws x=if ws.length<8 then(if A2k P.toNat F.toNat x=0 then B4y P.toNat F.toNat ws x else A2k P.toNat F.toNat x)else 6 from if_pos h]
 obtain⟨P,F,rfl,rfl,hv⟩:=A4w h
 simp only [Int.toNat_natCast]
 have hP4:=hv.p4
 have hF3:=hv.f3
 clear h
 repeat (first|refine st ?_|refine qb fun bx=>?_)
 refine Q_op fun ho=>A3d ho Z Z Z Z (fun h=>?_) (fun h=>?_)
 ·have h:¬ws.length<8:=by have h:=of_decide_eq_false h;omega
  rw [if_neg h]
  refine pn ?_
  exact A2n tab Z ib dM sb (xs:=[_,_]) (by exact .cell rfl ib rfl (.cell rfl ib rfl .nil)) (β':=[]) (Back.here fun p=>Nat.zero_le _) ⟨_,Z,.inr ⟨by decide,ReadV.zero⟩⟩
 clear ho
 have hl8:ws.length<8:=by have h:=of_decide_eq_true h;omega
 rw [if_pos hl8]
 clear h
 repeat (first|refine st ?_|refine qb fun bx=>?_)
 refine Q_op fun ho=>A6g ho bod104 Z Z Z Z (B3t oM oM) (fun h=>?_) (fun h=>?_)
 ·rw [if_neg h]
  refine pn ?_
  exact A2n tab Z ib dM sb (xs:=[_,_]) (by exact .cell rfl ib rfl (.cell rfl ib rfl .nil)) (β':=[]) (Back.here fun p=>Nat.zero_le _) ⟨_,Z,.inr ⟨h,ReadV.zero⟩⟩
 clear ho
 rw [if_pos h]
 have hv2:VOk P F (ws++[x]):=⟨hv.p1,hv.p4,hv.f3,by rw [List.length_append];exact hl8,fun y hy=>by
  rcases List.mem_append.1 hy with hy|hy
  ·exact hv.all y hy
  ·rw [List.mem_singleton.1 hy];exact h⟩
 clear h
 repeat (first|refine st ?_|refine qb fun bx=>?_)
 refine A2u [6,7,9] [0,1,2,3,5,4,6,7,8,9] A1w Z kR ?_
 repeat (first|refine st ?_|refine qb fun bx=>?_)
 refine S_slice_hm tab (h':=ws.length) (m:=ws.length) Z Z Z kR Z Z Z Z Z oM (Nat.le_refl _) ?_
 have ea:(if ws.length=0 then wa else Option.map (fun(x:Addr)=>x.add (0*4)) wa)=wa:=by
  split
  ·rfl
  ·cases wa with
   | none=>rfl
   | some a0=>
    have h0:0<ws.length:=oM
    obtain⟨b,off,q,c,e,f,ha,_⟩:=hws.get h0
    injection ha with ha
    subst ha
    rw [Option.map_some,A5m];simp
 rw [ea]
 refine S_do kR (A3x tab Z Z Z Z Z Z Z Z Z Z (fun b5 c5 hL=>⟨Le.refl _,kp,?_⟩))
 refine S_do kR (A_appendB tab (len:=ws.length) (m:=1) (cs:=(ws.map wdC).flatten) (xs:=wdC x) Z Z Z Z Z Z Z Z Z Z Z
  (fun hb=>RowAt.le hws (A0b _ _)) (A4m ws) (fun hb=>RowAt.own hb cntL hL) Z oM (by show(2*(ws.length+1)+768)*32≤2^48;omega) oM (fun b7 c7 cap7 hS=>⟨Le.refl _,kp,?_⟩))
 repeat (refine ss ?_)
 refine S_do kR (B0z tab Z Z Z Z Z Z Z ib (by exact Z) sb ⟨Le.refl _,kp,?_⟩)
 repeat (refine ss ?_)
 refine A7g ?_
 refine XC_retire (β1:=[(b7,c7,26)]) (β2:=_) (fun _=>rfl) (fun hb7=>?_)
 have hws2:WdsAt (v.union (A0e [(b7,c7,26)])) (some ⟨b7,0,none⟩) (ws++[x]):=by
  unfold WdsAt
  rw [List.map_append,List.flatten_append]
  exact A2m hb7 hS
 obtain⟨_,_,_,_,hcap7,_⟩:=A5w hS oM
 have hlx:(ws++[x]).length=ws.length+1:=by rw [List.length_append];rfl
 repeat (first|refine st ?_|refine qb fun bx=>?_)
 refine Q_op fun ho=>A0i [] _ ho bod80 Z Z Z Z Z A1n (worlds_x hv.p4 hv.f3 ((hws.le (A0b _ _)).le (A0b _ _)) hv.fit hwl) (fun x β' hR=>?_)
 clear ho
 obtain⟨a1,cap1,rfl,hS1⟩:=hR
 clear hS1
 repeat (first|refine st ?_|refine qb fun bx=>?_)
 by_cases h0:A0g P F ws=[]
 ·rw [show((((A0g P F ws).length:Nat):Int)==0)=true from by simp [h0]]
  have hE:B4y P F ws x=0:=by unfold B4y;rw [h0];rfl
  rw [hE]
  repeat (first|refine st ?_|refine qb fun bx=>?_)
  refine Q_op fun ho=>A3d ho Z Z Z Z (fun h=>by cases h) (fun _=>?_)
  clear ho
  repeat (first|refine st ?_|refine qb fun bx=>?_)
  refine A6e tab Z (β':=[]++[(b7,c7,26)]) (xs:=[_,_]) (by exact .cell rfl ib rfl (.cell rfl ib rfl .nil)) (Back.retired hb7 (Back.here fun p=>Nat.zero_le _)) ⟨_,Z,.inl ⟨Z,some ⟨b7,0,none⟩,cap7,?_,by rw [hlx];exact hcap7,hws2⟩⟩
  rw [hlx];rfl
 ·rw [show((((A0g P F ws).length:Nat):Int)==0)=false from by simp;exact h0]
  repeat (first|refine st ?_|refine qb fun bx=>?_)
  refine Q_op fun ho=>A0i [] _ ho bod80 Z Z Z Z Z A1n (by rw [←hlx];exact worlds_x hv2.p4 hv2.f3 (hws2.le (A0b _ _)) hv2.fit (by rw [hlx];omega)) (fun x β' hR=>?_)
  clear ho
  obtain⟨a2,cap2,rfl,hS2⟩:=hR
  clear hS2
  repeat (first|refine st ?_|refine qb fun bx=>?_)
  refine Q_op fun ho=>A3d ho Z Z Z Z (fun h=>?_) (fun h=>?_)
  ·have h2:A0g P F (ws++[x])=[]:=List.length_eq_zero_iff.1 (by have h:=of_decide_eq_false h;omega)
   have hE:B4y P F ws x=9:=by unfold B4y;rw [h2];simp [h0]
   rw [hE]
   refine pn ?_
   exact A2n tab Z ib dM sb (xs:=[_,_]) (by exact .cell rfl ib rfl (.cell rfl ib rfl .nil)) (β':=[]) (Back.forget hb7 (Back.here fun p=>Nat.zero_le _)) ⟨_,Z,.inr ⟨by decide,ReadV.zero⟩⟩
  clear ho
  have h2:A0g P F (ws++[x])≠[]:=fun e=>by have h:=of_decide_eq_true h;rw [e]at h;simp at h
  have hE:B4y P F ws x=0:=by
   unfold B4y
   rw [if_pos (by simp [h2])]
  rw [hE]
  clear h
  repeat (first|refine st ?_|refine qb fun bx=>?_)
  refine A6e tab Z (β':=[]++[(b7,c7,26)]) (xs:=[_,_]) (by exact .cell rfl ib rfl (.cell rfl ib rfl .nil)) (Back.retired hb7 (Back.here fun p=>Nat.zero_le _)) ⟨_,Z,.inl ⟨Z,some ⟨b7,0,none⟩,cap7,?_,by rw [hlx];exact hcap7,hws2⟩⟩
  rw [hlx];rfl
end
end Go.Proofs.YtiolobmgibdfmaaGreat
end
section
namespace Go.Proofs.YtiolobmgibdfmaaGreat
open Go Go.Pal Go.Pal.Vo Go.Conc Go.ConcM Go.RowKit Go.ChangeShapes Go.WideShapes Go.ChangeAt Go.Deep
set_option maxHeartbeats 4000000
set_option maxRecDepth 100000
theorem Opened.both{W:World}{u v:View}(hu:Opened W u)(hv:Opened W v):Opened W (u.union v)∧u.Le (u.union v)∧v.Le (u.union v):=by
 have key:∀b,(u.union v) b=u b∨(u.union v) b=v b:=fun b=>by
  unfold View.union
  cases u b with
  | none=>exact .inr rfl
  | some x=>exact .inl rfl
 refine⟨⟨fun b p o h=>?_,fun b h=>?_⟩,(fun b x h=>by unfold View.union;rw [h]),fun b x h=>?_⟩
 ·rcases key b with e|e
  ·exact hu.ag b p o (e ▸ h)
  ·exact hv.ag b p o (e ▸ h)
 ·obtain⟨o,h⟩:=h
  rcases key b with e|e
  ·exact hu.ro b ⟨o,e ▸ h⟩
  ·exact hv.ro b ⟨o,e ▸ h⟩
 ·unfold View.union
  cases hb:u b with
  | none=>exact h
  | some y=>
   obtain⟨p,o⟩:=y
   obtain⟨p',o'⟩:=x
   have e1:=hu.ag b p o hb
   have e2:=hv.ag b p' o' h
   rw [e1]at e2
   cases e2
   have f1:p=false:=by
    cases p with
    | false=>rfl
    | true=>exact absurd ⟨_,hb⟩ (hu.ro b)
   have f2:p'=false:=by
    cases p' with
    | false=>rfl
    | true=>exact absurd ⟨_,h⟩ (hv.ro b)
   rw [f1,f2]
end Go.Proofs.YtiolobmgibdfmaaGreat
end
section
namespace Go.Proofs.YtiolobmgibdfmaaGreat
open Go Go.Pal Go.Pal.Vo Go.Conc View
open Go.Proofs.Tryz
set_option maxHeartbeats 4000000
set_option maxRecDepth 20000
section
variable{mn:Who}{v:View}
theorem Add_r{P F:Int}{ws:List Wd}{x:Wd}{wa:Option Addr}{wc:Nat}(hws:WdsAt v wa ws)(hwl:ws.length<2^20) :
  CallsB prog mn 72 #[boV P F wa ws.length wc,wdV x] (RetB fun r β'=>AddR v β' r P F ws x) [] v:=by
 refine A0f tab func72 Z nB (args:=[_,_]) ?_
 have hzero:∀{e:Int},e≠0→B4z P F ws x=e→AddR v [] (.tuple #[.agg #[.int .i64 0,.int .i64 0,.slice none 0 0],.int .i64 e]) P F ws x:=fun he h=>⟨_,by rw [h],.inr ⟨by rw [h];exact he,ReadV.zero⟩⟩
 unfold B4z at hzero
 repeat (first|refine st ?_|refine qb fun bx=>?_)
 refine q1 bod68 Z Z Z Z Z (CheckR_x hws oM) ?_
 repeat (first|refine st ?_|refine qb fun bx=>?_)
 refine A0t Z (fun h=>?_) (fun h=>?_)
 ·have h0:A2h P F ws≠0:=bne_iff_ne.1 h
  clear h
  repeat (first|refine st ?_|refine qb fun bx=>?_)
  refine A0l tab (β':=[]) (xs:=[.agg #[.int .i64 0,.int .i64 0,.slice none 0 0],.int .i64 (A2h P F ws)]) (by exact .cell rfl ib rfl (.tmp rfl .nil)) (Back.here fun p=>Nat.zero_le _) ?_
  exact hzero h0 (if_neg h0)
 have h0:A2h P F ws=0:=by simpa using h
 clear h
 rw [if_pos h0]at hzero
 obtain⟨P,F,rfl,rfl,hok⟩:=A4w h0
 simp only [Int.toNat_natCast]at hzero
 have h8:=hok.w8
 have h4:=hok.p4
 have h3:=hok.f3
 repeat (first|refine st ?_|refine qb fun bx=>?_)
 refine A0t Z (fun h=>?_) (fun h=>?_)
 ·have hl:¬ws.length<8:=by have:=eq_of_beq h;omega
  clear h
  repeat (first|refine st ?_|refine qb fun bx=>?_)
  refine A0l tab (β':=[]) (xs:=[.agg #[.int .i64 0,.int .i64 0,.slice none 0 0],.int .i64 6]) (by exact .cell rfl ib rfl (.tmp rfl .nil)) (Back.here fun p=>Nat.zero_le _) ?_
  exact hzero dM (if_neg hl)
 have hl:ws.length<8:=by have:=beq_eq_false_iff_ne.1 h;omega
 clear h
 rw [if_pos hl]at hzero
 repeat (first|refine st ?_|refine qb fun bx=>?_)
 refine q1 bod128 Z Z Z Z Z (checkWordR_x oM oM) ?_
 repeat (first|refine st ?_|refine qb fun bx=>?_)
 refine A0t Z (fun h=>?_) (fun h=>?_)
 ·have hx:A2k P F x≠0:=bne_iff_ne.1 h
  clear h
  repeat (first|refine st ?_|refine qb fun bx=>?_)
  refine A0l tab (β':=[]) (xs:=[.agg #[.int .i64 0,.int .i64 0,.slice none 0 0],.int .i64 (A2k P F x)]) (by exact .cell rfl ib rfl (.tmp rfl .nil)) (Back.here fun p=>Nat.zero_le _) ?_
  exact hzero hx (if_neg hx)
 have hx:A2k P F x=0:=by simpa using h
 clear h
 rw [if_pos hx]at hzero
 have hokX:VOk P F (ws++[x]):=⟨hok.p1,hok.p4,hok.f3,by rw [List.length_append,List.length_singleton];omega,fun z hz=>by
  rcases List.mem_append.1 hz with hz|hz
  ·exact hok.all z hz
  ·rw [List.mem_singleton.1 hz];exact hx⟩
 repeat (first|refine st ?_|refine qb fun bx=>?_)
 refine Q_op fun ho=>A0i [] _ ho bod64 Z Z Z Z Z A1n (with_x (x:=x) (hws.le (A0b _ _)) oM) (fun x β' hR=>?_)
 clear ho
 obtain⟨aX,cX,rfl,hSX⟩:=hR
 rename A0j=>βX
 have hcX:=own_capR hSX
 have hE:B4z (P:Int) (F:Int) ws x=B4y P F ws x:=by
  unfold B4z
  rw [if_pos h0,if_pos hl]
  simp only [Int.toNat_natCast]
  rw [if_pos hx]
 have e9:0<(A0g P F ws).length→(A0g P F (ws++[x])).length=0→B4y P F ws x=9:=fun h1 h2=>by
  unfold B4y
  rw [List.length_eq_zero_iff.1 h2]
  cases hw:A0g P F ws with
  | nil=>rw [hw]at h1;cases h1
  | cons y l=>rfl
 have e0:(A0g P F ws).length=0∨0<(A0g P F (ws++[x])).length→B4y P F ws x=0:=fun h=>by
  unfold B4y
  rcases h with h|h
  ·rw [List.length_eq_zero_iff.1 h];rfl
  ·cases hw:A0g P F (ws++[x])with
   | nil=>rw [hw]at h;cases h
   | cons y l=>rw [if_pos sM]
 refine A0w (β1:=βX) cntA (fun hb=>?_)
 have hwX:WdsAt (v.union (A0e βX)) aX (ws++[x]):=A2m hb hSX
 have hgood:B4y P F ws x=0→AddR v βX (.tuple #[boV P F aX (ws++[x]).length cX,.int .i64 0]) P F ws x:=fun h=>⟨_,by rw [hE,h],.inl ⟨by rw [hE,h],aX,cX,Z,hcX,hwX⟩⟩
 have hws':=hws.le (A0b v (A0e βX))
 repeat (first|refine st ?_|refine qb fun bx=>?_)
 refine Q_op fun ho=>A0i [] _ ho bod81 Z Z Z Z Z A1n (Worlds_r hok (hws'.le (A0b _ _))) (fun x β' hR=>?_)
 clear ho
 obtain⟨aW,nW,cW,rfl,hW⟩:=hR
 have hn:nW=(A0g P F ws).length:=by obtain⟨_,_,_,_,hn,_⟩:=hW;exact hn
 subst hn
 clear hW
 repeat (first|refine st ?_|refine qb fun bx=>?_)
 refine A6d Z Z (fun h=>?_) (fun h=>?_)
 ·have hW0:0<(A0g P F ws).length:=by have:=of_decide_eq_true h;omega
  clear h
  repeat (first|refine st ?_|refine qb fun bx=>?_)
  refine Q_op fun ho=>A0i [] _ ho bod81 Z Z Z Z Z A1n (Worlds_r hokX (hwX.le (A0b _ _))) (fun x β' hR=>?_)
  clear ho
  obtain⟨aW2,nW2,cW2,rfl,hW⟩:=hR
  have hn:nW2=(A0g P F (ws++[x])).length:=by obtain⟨_,_,_,_,hn,_⟩:=hW;exact hn
  subst hn
  clear hW
  repeat (first|refine st ?_|refine qb fun bx=>?_)
  refine A0t Z (fun h=>?_) (fun h=>?_)
  ·have hz:(A0g P F (ws++[x])).length=0:=by
    have h:(((A0g P F (ws++[x])).length:Int)==0)=true:=h
    have:=eq_of_beq h
    omega
   clear h
   repeat (first|refine st ?_|refine qb fun bx=>?_)
   refine A0l tab (β':=[]) (xs:=[.agg #[.int .i64 0,.int .i64 0,.slice none 0 0],.int .i64 9]) (by exact .cell rfl ib rfl (.tmp rfl .nil)) (Back.forget hb (Back.here fun p=>Nat.zero_le _)) ?_
   exact hzero dM (e9 hW0 hz)
  ·have hz:0<(A0g P F (ws++[x])).length:=by
    have h:(((A0g P F (ws++[x])).length:Int)==0)=false:=h
    have:=beq_eq_false_iff_ne.1 h
    omega
   clear h
   repeat (first|refine st ?_|refine qb fun bx=>?_)
   refine A0l tab (β':=βX) (xs:=[boV P F aX (ws++[x]).length cX,.int .i64 0]) (by exact .cell rfl ib rfl (.tmp rfl .nil)) (back_all hb) ?_
   exact hgood (e0 (.inr hz))
 ·have hW0:(A0g P F ws).length=0:=by have:=of_decide_eq_false h;omega
  clear h
  repeat (first|refine st ?_|refine qb fun bx=>?_)
  refine A0l tab (β':=βX) (xs:=[boV P F aX (ws++[x]).length cX,.int .i64 0]) (by exact .cell rfl ib rfl (.tmp rfl .nil)) (back_all hb) ?_
  exact hgood (e0 (.inl hW0))
end
theorem B5a{P:Program}{mn:Who}{k:FuncId}{args:Array Value}{R:Pal.End→A0j→Prop}{u v:View}(h:CallsB P mn k args R [] u)(hl:u.Le v):CallsB P mn k args R [] v:=fun hb=>by
 obtain⟨F,rfl,hd⟩:=B0j hl
 rw [A2r]
 have h1:=h ⟨List.nodup_nil,fun _=>.inr Z⟩
 rw [A2r]at h1
 refine(CallsX.frame h1 hd).mono fun e w hR=>?_
 obtain⟨u',rfl,hd',β',hR,hb',hle⟩:=hR
 have key:∀b x,A0e β' b=some x→u b=none∧u' b=some x:=fun b x hx=>by
  have h0:u b=none:=(hb'.2 b).resolve_right (by rw [hx];exact fun h=>by cases h)
  exact⟨h0,hle b x (by unfold View.union;rw [h0];exact hx)⟩
 refine⟨_,Le.refl _,β',hR,⟨hb'.1,fun b=>?_⟩,fun b x hx=>?_⟩
 ·cases hx:A0e β' b with
  | none=>exact .inr rfl
  | some x=>
   obtain⟨h0,h2⟩:=key b x hx
   refine .inl ?_
   unfold View.union
   rw [h0]
   exact(hd' b).resolve_left (by rw [h2];exact fun h=>by cases h)
 ·unfold View.union at hx⊢
  cases h0:u b with
  | some y=>
   rw [h0]at hx
   have h2:=hle b y (by unfold View.union;rw [h0])
   rw [h2];exact hx
  | none=>
   rw [h0]at hx
   dsimp only at hx
   cases hF:F b with
   | some y=>
    rw [hF]at hx
    have h2:u' b=none:=(hd' b).resolve_right (by rw [hF];exact fun h=>by cases h)
    rw [h2];exact hx
   | none=>
    rw [hF]at hx
    rw [(key b x hx).2]
def adO(P F:Int)(ws:List Wd)(x:Wd):Int×Int×List Wd:=if B4z P F ws x=0 then(P,F,ws++[x])else(0,0,[])
theorem adO_len{P F:Int}{ws:List Wd}{x:Wd}(h:ws.length≤20):(adO P F ws x).2.2.length≤21:=by
 unfold adO
 split
 ·simp;omega
 ·exact Nat.zero_le _
theorem add_one{v:View}{e:Pal.End}{β:A0j}{P F:Int}{ws:List Wd}{x:Wd}(h:RetB (fun r β'=>AddR v β' r P F ws x) e β):RetB (fun r β'=>∃t,r = .tuple #[t,.int .i64 (B4z P F ws x)]∧ReadV v β' t (adO P F ws x).1 (adO P F ws x).2.1 (adO P F ws x).2.2) e β:=by
 unfold adO
 cases e with
 | pan c=>exact h
 | ret r=>
  obtain⟨t,h1,⟨h2,h3⟩|⟨h2,h3⟩⟩:=h
  ·rw [if_pos h2];exact⟨t,h1,h3⟩
  ·rw [if_neg h2];exact⟨t,h1,h3⟩
section
variable{v:View}
theorem adds_run{y:Vc}{xw:Wd}{a0:Option Addr}{cap0:Nat}{ns:List Int}(hy:WdsAt v y.a y.ws)(hns:RowAt v a0 (ns.map (.int .i64))):Run prog ⟨true,true⟩ (AtTop 18 6) v (G (Frame.enter prog 18 (List.toArray [vcV y,wdV xw,.slice a0 ns.length cap0]) .normal) []):=by
 refine top_run func18 Z nB ?_
 repeat (first|refine st ?_|refine qb fun bx=>?_)
 rename_i b3
 obtain⟨b4,rfl⟩:∃b:Nat,b=bx:=⟨bx,rfl⟩
 refine A0t Z (fun h=>?_) (fun h=>?_)
 ·clear h
  repeat (first|refine st ?_|refine qb fun bx=>?_)
  refine Q_op fun ho=>A0s ho bod21 Z Z Z Z Z A9k ?_
  clear ho
  repeat (first|refine st ?_|refine qb fun bx=>?_)
  exact⟨Z,Z,Z⟩
 have hl20:y.ws.length≤20:=by have:=of_decide_eq_false h;omega
 clear h
 repeat (first|refine st ?_|refine qb fun bx=>?_)
 refine Q_op fun ho=>A0i [] _ ho bod23 Z Z Z Z Z A1n (newBag_x) (fun x β' hR=>?_)
 clear ho
 obtain⟨b,rfl,hB⟩:=hR
 rename A0j=>β1
 repeat (first|refine st ?_|refine qb fun bx=>?_)
 refine A2f (bin:=β1) (by repeat (first|(with_reducible exact A0k)|(with_reducible exact A0u)|(with_reducible exact A1e)|(with_reducible apply A0y))) ?_
 refine Q_op fun ho=>A0i β1 _ ho bod40 Z Z Z Z Z A0k (B1e (g:=⟨b,a0,cap0,ns⟩) (P0:=4) (F0:=3) (wl:=7) (RowAt.le hns (A0b _ _)) hB dM ⟨by decide,by decide⟩ dM dM) (fun x β' hR=>?_)
 clear ho hB
 obtain⟨Pm,Fm,mws,tr,so,ma,a1,a2,mc,c1,c2,β0,βw,βt,βs,hS⟩:=hR
 obtain rfl:=hS.val
 obtain rfl:=hS.box
 have hok:VOk Pm Fm mws:=⟨hS.p1,hS.p4,hS.f3,Nat.le_trans hS.w7 dM,hS.all⟩
 refine A0w (β1:=βw++(βt++βs)) (β2:=β0++[(b4,(wdV xw).cells,26),(b3,(vcV y).cells,24)]) cntA (fun hb=>?_)
 have hm:WdsAt (v.union (A0e (βw++(βt++βs)))) ma mws:=RowAt.own hb (show Subm βw (βw++(βt++βs))from cntL) hS.hw
 have htr:RowAt (v.union (A0e (βw++(βt++βs)))) a1 (tr.map (.int .i64)):=RowAt.own hb (show Subm βt (βw++(βt++βs))from cntL) hS.ht
 have hso:RowAt (v.union (A0e (βw++(βt++βs)))) a2 (so.map (.int .i64)):=RowAt.own hb (show Subm βs (βw++(βt++βs))from cntL) hS.hs
 replace hns:=RowAt.le hns (A0b v (A0e (βw++(βt++βs))))
 replace hy:=hy.le (A0b v (A0e (βw++(βt++βs))))
 generalize v.union (A0e (βw++(βt++βs)))=u at hm htr hso hns hy⊢
 have hB0:=hS.on
 have ht1:=hS.t1
 have hs1:=hS.s1
 have hm7:=hS.w7
 have hp1:=hok.p1
 have hp4:=hok.p4
 have hf3:=hok.f3
 clear hS hb hok
 repeat (first|refine st ?_|refine qb fun bx=>?_)
 rename_i b8
 obtain⟨b9,rfl⟩:∃b:Nat,b=bx:=⟨bx,rfl⟩
 refine C_mid (fun σ z=>∃(x1 x2:Wd) (bV:Nat) (cV:Array Value) (bW:Nat) (cW:Array Value),z=u∧OwnS 24 3 [(bV,cV,24)] (some ⟨bV,0,none⟩) 4 4 ([y,⟨Pm,Fm,mws,ma,mc⟩,⟨Pm,Fm,mws,ma,mc⟩,⟨Pm,Fm,mws,ma,mc⟩].map vcC).flatten∧OwnS 26 4 [(bW,cW,26)] (some ⟨bW,0,none⟩) 4 4 ([xw,x1,x2,xw].map wdC).flatten∧
  σ=⟨[],[(11,.slice (some ⟨bW,0,none⟩) 4 4),(10,.slice (some ⟨bV,0,none⟩) 4 4)],[(bV,cV,24),(bW,cW,26)]⟩) ?_ ?_
 rotate_left
 ·refine A2u [4,9,13,15] [0,1,2,3,5,6,7,8,10,11,12,14,4,9,13,16,15,17] A1w Z kR ?_
  repeat (first|refine st ?_|refine qb fun bx=>?_)
  refine S_two 9 kR (A3x tab Z Z Z Z Z Z Z Z Z Z (fun bV cV hL1=>⟨Le.refl _,kp,?_⟩)) (A0i β0 _ Z bod54 Z Z Z Z Z (by repeat (first|(with_reducible exact A0k)|(with_reducible exact A0u)|(with_reducible exact A1e)|(with_reducible apply A0y))) (wordOf_x (g:=⟨b,a0,cap0,ns⟩) (P:=Pm) (F:=Fm) (to:=false) (RowAt.le hns (A0b _ _)) hB0 dM hp1 hp4 hf3 (RowAt.le htr (A0b _ _)) (RowAt.le hso (A0b _ _)) ht1 oM) (fun x β' hR=>⟨Le.refl _,?_,?_⟩))
  ·repeat (first|refine st ?_|refine qb fun bx=>?_)
   refine S_do kR (A0i β0 _ Z bod54 Z Z Z Z Z (by repeat (first|(with_reducible exact A0k)|(with_reducible exact A0u)|(with_reducible exact A1e)|(with_reducible apply A0y))) (wordOf_x (g:=⟨b,a0,cap0,ns⟩) (P:=Pm) (F:=Fm) (to:=false) (RowAt.le hns (A0b _ _)) hB0 dM hp1 hp4 hf3 (RowAt.le htr (A0b _ _)) (RowAt.le hso (A0b _ _)) ht1 oM) (fun x β' hR=>⟨Le.refl _,?_,?_⟩))
   ·exact kp
   obtain⟨⟨x1,rfl,-⟩,hB2⟩:=hR
   rename A0j=>β2
   repeat (first|refine st ?_|refine qb fun bx=>?_)
   refine S_do kR (A0i β2 _ Z bod54 Z Z Z Z Z (by repeat (first|(with_reducible exact A0k)|(with_reducible exact A0u)|(with_reducible exact A1e)|(with_reducible apply A0y))) (wordOf_x (g:=⟨b,a0,cap0,ns⟩) (P:=Pm) (F:=Fm) (to:=true) (RowAt.le hns (A0b _ _)) hB2 dM hp1 hp4 hf3 (RowAt.le htr (A0b _ _)) (RowAt.le hso (A0b _ _)) ht1 oM) (fun x β' hR=>⟨Le.refl _,?_,?_⟩))
   ·exact kp
   obtain⟨⟨x2,rfl,-⟩,hB3⟩:=hR
   rename A0j=>β3
   refine XS_re (todo:=[16,15,17]) ?_ Z
   repeat (first|refine st ?_|refine qb fun bx=>?_)
   refine S_do kR (A3x tab Z Z Z Z Z Z Z Z Z Z (fun bW cW hL2=>⟨Le.refl _,kp,?_⟩))
   repeat (first|refine st ?_|refine qb fun bx=>?_)
   exact A0c ⟨_,_,⟨x1,x2,bV,cV,bW,cW,Z,hL1,hL2,Z⟩,⟨Z,rg,cntL⟩,Le.refl _⟩
  ·exact kp
  ·obtain⟨⟨x1,rfl,-⟩,hB2⟩:=hR
   rename A0j=>β2
   refine XS_re (todo:=[4,13,16,15,17]) ?_ Z
   repeat (first|refine st ?_|refine qb fun bx=>?_)
   refine S_two 13 kR (A3x tab Z Z Z Z Z Z Z Z Z Z (fun bV cV hL1=>⟨Le.refl _,kp,?_⟩)) (A0i β2 _ Z bod54 Z Z Z Z Z (by repeat (first|(with_reducible exact A0k)|(with_reducible exact A0u)|(with_reducible exact A1e)|(with_reducible apply A0y))) (wordOf_x (g:=⟨b,a0,cap0,ns⟩) (P:=Pm) (F:=Fm) (to:=true) (RowAt.le hns (A0b _ _)) hB2 dM hp1 hp4 hf3 (RowAt.le htr (A0b _ _)) (RowAt.le hso (A0b _ _)) ht1 oM) (fun x β' hR=>⟨Le.refl _,?_,?_⟩))
   ·repeat (first|refine st ?_|refine qb fun bx=>?_)
    refine S_do kR (A0i β2 _ Z bod54 Z Z Z Z Z (by repeat (first|(with_reducible exact A0k)|(with_reducible exact A0u)|(with_reducible exact A1e)|(with_reducible apply A0y))) (wordOf_x (g:=⟨b,a0,cap0,ns⟩) (P:=Pm) (F:=Fm) (to:=true) (RowAt.le hns (A0b _ _)) hB2 dM hp1 hp4 hf3 (RowAt.le htr (A0b _ _)) (RowAt.le hso (A0b _ _)) ht1 oM) (fun x β' hR=>⟨Le.refl _,?_,?_⟩))
    ·exact kp
    obtain⟨⟨x2,rfl,-⟩,hB3⟩:=hR
    rename A0j=>β3
    refine XS_re (todo:=[16,15,17]) ?_ Z
    repeat (first|refine st ?_|refine qb fun bx=>?_)
    refine S_do kR (A3x tab Z Z Z Z Z Z Z Z Z Z (fun bW cW hL2=>⟨Le.refl _,kp,?_⟩))
    repeat (first|refine st ?_|refine qb fun bx=>?_)
    exact A0c ⟨_,_,⟨x1,x2,bV,cV,bW,cW,Z,hL1,hL2,Z⟩,⟨Z,rg,cntL⟩,Le.refl _⟩
   ·exact kp
   ·obtain⟨⟨x2,rfl,-⟩,hB3⟩:=hR
    rename A0j=>β3
    refine XS_re (todo:=[4,15,16,17]) ?_ Z
    repeat (first|refine st ?_|refine qb fun bx=>?_)
    refine S_two 15 kR (A3x tab Z Z Z Z Z Z Z Z Z Z (fun bV cV hL1=>⟨Le.refl _,kp,?_⟩)) (A3x tab Z Z Z Z Z Z Z Z Z Z (fun bW cW hL2=>⟨Le.refl _,kp,?_⟩))
    ·refine XS_re (todo:=[16,15,17]) ?_ Z
     repeat (first|refine st ?_|refine qb fun bx=>?_)
     refine S_do kR (A3x tab Z Z Z Z Z Z Z Z Z Z (fun bW cW hL2=>⟨Le.refl _,kp,?_⟩))
     repeat (first|refine st ?_|refine qb fun bx=>?_)
     exact A0c ⟨_,_,⟨x1,x2,bV,cV,bW,cW,Z,hL1,hL2,Z⟩,⟨Z,rg,cntL⟩,Le.refl _⟩
    ·repeat (first|refine st ?_|refine qb fun bx=>?_)
     refine S_do kR (A3x tab Z Z Z Z Z Z Z Z Z Z (fun bV cV hL1=>⟨Le.refl _,kp,?_⟩))
     repeat (first|refine st ?_|refine qb fun bx=>?_)
     exact A0c ⟨_,_,⟨x1,x2,bV,cV,bW,cW,Z,hL1,hL2,Z⟩,⟨Z,rg,cntL⟩,Le.refl _⟩
 rintro σ z ⟨x1,x2,bV,cV,bW,cW,rfl,hL1,hL2,rfl⟩
 refine XC_retire (β1:=[(bV,cV,24),(bW,cW,26)]) (β2:=[]) (fun _=>rfl) (fun hb=>?_)
 have hV:VcAt (z.union (A0e [(bV,cV,24),(bW,cW,26)])) (some ⟨bV,0,none⟩) [y,⟨Pm,Fm,mws,ma,mc⟩,⟨Pm,Fm,mws,ma,mc⟩,⟨Pm,Fm,mws,ma,mc⟩]:=⟨RowAt.own hb (show Subm [(bV,cV,24)] [(bV,cV,24),(bW,cW,26)]from cntL) hL1,fun z' hz=>by
  simp only [List.mem_cons,List.mem_nil_iff,or_false]at hz
  rcases hz with rfl|rfl|rfl|rfl
  ·exact⟨hy.le (A0b _ _),hl20⟩
  ·exact⟨hm.le (A0b _ _),by dsimp only;omega⟩
  ·exact⟨hm.le (A0b _ _),by dsimp only;omega⟩
  ·exact⟨hm.le (A0b _ _),by dsimp only;omega⟩⟩
 have hX:WdsAt (z.union (A0e [(bV,cV,24),(bW,cW,26)])) (some ⟨bW,0,none⟩) [xw,x1,x2,xw]:=RowAt.own hb (show Subm [(bW,cW,26)] [(bV,cV,24),(bW,cW,26)]from cntL) hL2
 have hl4:[y,(⟨Pm,Fm,mws,ma,mc⟩:Vc),⟨Pm,Fm,mws,ma,mc⟩,⟨Pm,Fm,mws,ma,mc⟩].length=4:=rfl
 have hx4:[xw,x1,x2,xw].length=4:=rfl
 generalize z.union (A0e [(bV,cV,24),(bW,cW,26)])=u0 at hV hX⊢
 generalize [y,(⟨Pm,Fm,mws,ma,mc⟩:Vc),⟨Pm,Fm,mws,ma,mc⟩,⟨Pm,Fm,mws,ma,mc⟩]=l at hV hl4
 generalize [xw,x1,x2,xw]=xl at hX hx4
 clear hb hL1 hL2 hns hB0 hm htr hso hy
 repeat (first|refine st ?_|refine qb fun bx=>?_)
 refine A1o (α:=Nat) (fun i=>⟨[],[(12,.int .i64 i),(11,.slice (some ⟨bW,0,none⟩) 4 4),(10,.slice (some ⟨bV,0,none⟩) 4 4)],[]⟩) (fun i w=>VcAt w (some ⟨bV,0,none⟩) l∧WdsAt w (some ⟨bW,0,none⟩) xl∧i≤4) (fun i=>4-i) 0 ⟨Z,rg,cntL⟩ (Le.refl _) ⟨hV,hX,Nat.zero_le _⟩ ?_
 clear hV hX
 rintro i u ⟨hV,hX,hi⟩
 repeat (first|refine st ?_|refine qb fun bx=>?_)
 refine A0t Z (fun h=>?_) (fun h=>?_)
 ·have hil4:i<4:=by have:=of_decide_eq_true h;omega
  have hil:i<l.length:=oM
  have hix:i<xl.length:=oM
  clear h
  obtain⟨_,_,q,cc,e,f,hbb,hv,hc1⟩:=hV.get hil
  cases hbb
  obtain⟨_,_,qx,cx,ex,fx,hbx,hvx,hcx⟩:=hX.get hix
  cases hbx
  have hcx1:=hcx i hix
  obtain⟨hw,hw20⟩:=hV.wd _ (List.getElem_mem hil)
  generalize l[i]=z at hc1 hw hw20
  generalize xl[i]=x at hcx1
  clear hcx
  obtain⟨P,F,ws,wa,wc⟩:=z
  dsimp only at hw hw20
  replace hc1:0+i*3+3≤cc.size∧cc.extract (0+i*3) (0+i*3+3)=List.toArray [.int .i64 P,.int .i64 F,.slice wa ws.length wc]:=hc1
  repeat (first|refine st ?_|refine qb fun bx=>?_)
  refine A2t tab i Z Z Z Z Z Z Z hil4 ?_
  refine A2p tab Z Z Z hv (A2d tab Z Z Z hc1) ?_
  refine Q_op fun ho=>A0i [] _ ho bod24 Z Z Z Z Z A1n (ownVouch_x (P:=P) (F:=F) (hw.le (A0b _ _)) oM) (fun x β' hR=>?_)
  clear ho
  obtain⟨aY,cY,rfl,hSY⟩:=hR
  have hcY:=own_capR hSY
  refine A0w (β1:=β') cntA (fun hb=>?_)
  have hwY:WdsAt (u.union (A0e β')) aY ws:=A2m hb hSY
  have hle0:=A0b u (A0e β')
  generalize u.union (A0e β')=u1 at hwY hle0⊢
  replace hV:=hV.le hle0
  replace hX:=hX.le hle0
  replace hw:=hw.le hle0
  replace hv:=hle0 _ _ hv
  replace hvx:=hle0 _ _ hvx
  clear hb hSY hle0
  have kS:=fun {w:View} (h:Le u1 w)=>sameV_x (v:=w) (mn:=⟨true,true⟩) (P:=P) (F:=F) (c:=cY) (d:=wc) (hwY.le h) (hw.le h) oM
  have kA1:∀{w:View},Le u1 w→CallsB prog ⟨true,true⟩ 71 #[boV P F aY ws.length cY,wdV x] (RetB fun r β'=>∃t,r = .tuple #[t,.int .i64 (B4z P F ws x)]∧ReadV w β' t (adO P F ws x).1 (adO P F ws x).2.1 (adO P F ws x).2.2) [] w:=fun {w} h=>(Add_x (v:=w) (wc:=cY) (P:=P) (F:=F) (x:=x) (hwY.le h) oM hcY).mono fun e β hR=>add_one hR
  have kA2:∀{w:View},Le u1 w→CallsB prog ⟨true,true⟩ 72 #[boV P F wa ws.length wc,wdV x] (RetB fun r β'=>∃t,r = .tuple #[t,.int .i64 (B4z P F ws x)]∧ReadV w β' t (adO P F ws x).1 (adO P F ws x).2.1 (adO P F ws x).2.2) [] w:=fun {w} h=>(Add_r (v:=w) (mn:=⟨true,true⟩) (wc:=wc) (P:=P) (F:=F) (x:=x) (hw.le h) oM).mono fun e β hR=>add_one hR
  have hal:=adO_len (P:=P) (F:=F) (ws:=ws) (x:=x) hw20
  generalize B4z P F ws x=E at kA1 kA2
  generalize adO P F ws x=o at kA1 kA2 hal
  obtain⟨P',F',wo⟩:=o
  dsimp only at kA1 kA2 hal
  clear hw hwY
  repeat (first|refine st ?_|refine qb fun bx=>?_)
  obtain⟨b13,rfl⟩:∃b:Nat,b=bx:=⟨bx,rfl⟩
  refine C_mid (fun σ z=>u1=z∧∃b14 aA cA βA,WdsAt (u1.union (A0e βA)) aA wo∧σ=⟨[],[(15,.int .i64 E),(14,.pointer (some ⟨b14,0,none⟩)),(13,.pointer (some ⟨b13,0,none⟩)),(12,.int .i64 i),(11,.slice (some ⟨bW,0,none⟩) 4 4),(10,.slice (some ⟨bV,0,none⟩) 4 4)],(b14,#[.int .i64 P',.int .i64 F',.slice aA wo.length cA],24)::(βA++[(b13,#[.int .i64 P,.int .i64 F,.slice aY ws.length cY],24)])⟩) ?_ ?_
  rotate_left
  ·refine A2u [5,9,10] [0,1,2,3,4,5,9,6,7,8,10,11] A1w Z kR ?_
   repeat (first|refine st ?_|refine qb fun bx=>?_)
   refine A0v tab i Z Z Z kR Z Z Z Z Z hil4 ?_
   refine A8d tab Z Z Z kR Z hvx (A2d tab Z Z Z hcx1) ?_
   repeat (first|refine st ?_|refine qb fun bx=>?_)
   refine S_two 9 kR (A0i [] _ Z bod71 Z Z Z Z Z A1n (B5a (kA1 (Le.refl _)) (A0b _ _)) (fun x β' hR=>⟨Le.refl _,?_,?_⟩)) (A_alloc tab Z Z Z Z (fun b14=>⟨Le.refl _,kp,?_⟩))
   ·exact kp
   ·obtain⟨t,rfl,aA,cA,rfl,-,hwo⟩:=hR
    refine XS_re (todo:=[6,7,8,9,10,11]) ?_ Z
    repeat (first|refine st ?_|refine qb fun bx=>?_)
    refine S_do kR (A_alloc tab Z Z Z Z (fun b14=>⟨Le.refl _,kp,?_⟩))
    repeat (first|refine st ?_|refine qb fun bx=>?_)
    exact A0c ⟨_,_,⟨Z,b14,aA,cA,β',hwo,Z⟩,⟨Z,rg,cntL⟩,Le.refl _⟩
   ·refine S_do kR (A0i [] _ Z bod71 Z Z Z Z Z A1n (B5a (kA1 (Le.refl _)) (A0b _ _)) (fun x β' hR=>⟨Le.refl _,?_,?_⟩))
    ·exact kp
    obtain⟨t,rfl,aA,cA,rfl,-,hwo⟩:=hR
    repeat (first|refine st ?_|refine qb fun bx=>?_)
    exact A0c ⟨_,_,⟨Z,b14,aA,cA,β',hwo,Z⟩,⟨Z,rg,show Subm ((b14,#[Value.int .i64 P',.int .i64 F',.slice aA wo.length cA],24)::(β'++[(b13,#[Value.int .i64 P,.int .i64 F,.slice aY ws.length cY],24)])) (β'++((b14,#[Value.int .i64 P',.int .i64 F',.slice aA wo.length cA],24)::[(b13,#[Value.int .i64 P,.int .i64 F,.slice aY ws.length cY],24)]))from cntL⟩,Le.refl _⟩
  rintro σ z ⟨rfl,b14,aA,cA,βA,hwA,rfl⟩
  refine XC_retire (β1:=βA) (β2:=[(b14,#[.int .i64 P',.int .i64 F',.slice aA wo.length cA],24),(b13,#[.int .i64 P,.int .i64 F,.slice aY ws.length cY],24)]) cntA (fun hb=>?_)
  have hle:=A0b u1 (A0e βA)
  generalize u1.union (A0e βA)=u2 at hwA hle⊢
  replace hV:=hV.le hle
  replace hX:=hX.le hle
  replace hv:=hle _ _ hv
  replace hvx:=hle _ _ hvx
  clear hb
  repeat (first|refine st ?_|refine qb fun bx=>?_)
  refine C_mid (fun σ z=>u2=z∧∃b16 aB cB βB,WdsAt (u2.union (A0e βB)) aB wo∧σ=⟨[],[(17,.int .i64 E),(16,.pointer (some ⟨b16,0,none⟩)),(15,.int .i64 E),(14,.pointer (some ⟨b14,0,none⟩)),(13,.pointer (some ⟨b13,0,none⟩)),(12,.int .i64 i),(11,.slice (some ⟨bW,0,none⟩) 4 4),(10,.slice (some ⟨bV,0,none⟩) 4 4)],(b16,#[.int .i64 P',.int .i64 F',.slice aB wo.length cB],24)::(βB++[(b14,#[.int .i64 P',.int .i64 F',.slice aA wo.length cA],24),(b13,#[.int .i64 P,.int .i64 F,.slice aY ws.length cY],24)])⟩) ?_ ?_
  rotate_left
  ·refine A2u [8,12,13] [0,1,2,3,4,5,6,7,8,12,9,10,11,13,14] A1w Z kR ?_
   repeat (first|refine st ?_|refine qb fun bx=>?_)
   refine A0v tab i Z Z Z kR Z Z Z Z Z hil4 ?_
   refine A8d tab Z Z Z kR Z hv (A2d tab Z Z Z hc1) ?_
   repeat (first|refine st ?_|refine qb fun bx=>?_)
   refine A0v tab i Z Z Z kR Z Z Z Z Z hil4 ?_
   refine A8d tab Z Z Z kR Z hvx (A2d tab Z Z Z hcx1) ?_
   repeat (first|refine st ?_|refine qb fun bx=>?_)
   refine S_two 12 kR (A0i [] _ Z bod72 Z Z Z Z Z A1n (B5a (kA2 hle) (A0b _ _)) (fun x β' hR=>⟨Le.refl _,?_,?_⟩)) (A_alloc tab Z Z Z Z (fun b16=>⟨Le.refl _,kp,?_⟩))
   ·exact kp
   ·obtain⟨t,rfl,aB,cB,rfl,-,hwo⟩:=hR
    refine XS_re (todo:=[9,10,11,12,13,14]) ?_ Z
    repeat (first|refine st ?_|refine qb fun bx=>?_)
    refine S_do kR (A_alloc tab Z Z Z Z (fun b16=>⟨Le.refl _,kp,?_⟩))
    repeat (first|refine st ?_|refine qb fun bx=>?_)
    exact A0c ⟨_,_,⟨Z,b16,aB,cB,β',hwo,Z⟩,⟨Z,rg,cntL⟩,Le.refl _⟩
   ·refine S_do kR (A0i [] _ Z bod72 Z Z Z Z Z A1n (B5a (kA2 hle) (A0b _ _)) (fun x β' hR=>⟨Le.refl _,?_,?_⟩))
    ·exact kp
    obtain⟨t,rfl,aB,cB,rfl,-,hwo⟩:=hR
    repeat (first|refine st ?_|refine qb fun bx=>?_)
    exact A0c ⟨_,_,⟨Z,b16,aB,cB,β',hwo,Z⟩,⟨Z,rg,show Subm ((b16,#[Value.int .i64 P',.int .i64 F',.slice aB wo.length cB],24)::(β'++[(b14,#[Value.int .i64 P',.int .i64 F',.slice aA wo.length cA],24),(b13,#[Value.int .i64 P,.int .i64 F,.slice aY ws.length cY],24)])) (β'++((b16,#[Value.int .i64 P',.int .i64 F',.slice aB wo.length cB],24)::[(b14,#[Value.int .i64 P',.int .i64 F',.slice aA wo.length cA],24),(b13,#[Value.int .i64 P,.int .i64 F,.slice aY ws.length cY],24)]))from cntL⟩,Le.refl _⟩
  rintro σ z ⟨rfl,b16,aB,cB,βB,hwB,rfl⟩
  refine XC_retire (β1:=βB) (β2:=[(b16,#[.int .i64 P',.int .i64 F',.slice aB wo.length cB],24),(b14,#[.int .i64 P',.int .i64 F',.slice aA wo.length cA],24),(b13,#[.int .i64 P,.int .i64 F,.slice aY ws.length cY],24)]) cntA (fun hb=>?_)
  have hle2:=A0b u2 (A0e βB)
  generalize u2.union (A0e βB)=u3 at hwB hle2⊢
  replace hV:=hV.le hle2
  replace hX:=hX.le hle2
  replace hv:=hle2 _ _ hv
  replace hwA:=hwA.le hle2
  replace hle:=hle.trans hle2
  clear hb hvx hle2
  have kB:=sameV_x (mn:=⟨true,true⟩) (P:=P') (F:=F') (c:=cA) (d:=cB) hwA hwB oM
  repeat (first|refine st ?_|refine qb fun bx=>?_)
  refine lexL A1w Z kR ?_
  repeat (first|refine st ?_|refine qb fun bx=>?_)
  rw [neI E]
  repeat (first|refine st ?_|refine qb fun bx=>?_)
  refine A3r bod32 Z Z Z Z Z kB ?_
  repeat (first|refine st ?_|refine qb fun bx=>?_)
  refine A2i tab i Z Z Z Z Z Z Z hil4 ?_
  refine A9d tab Z Z Z hv (A2d tab Z Z Z hc1) ?_
  refine A3r bod32 Z Z Z Z Z (kS hle) ?_
  repeat (first|refine st ?_|refine qb fun bx=>?_)
  exact A0c ⟨i+1,u3,oM,⟨Z,rg,cntL⟩,Le.refl _,hV,hX,hil4⟩
 ·clear h
  repeat (first|refine st ?_|refine qb fun bx=>?_)
  refine Q_op fun ho=>A0s ho bod21 Z Z Z Z Z A9k ?_
  clear ho
  repeat (first|refine st ?_|refine qb fun bx=>?_)
  exact⟨Z,Z,Z⟩
end
end Go.Proofs.YtiolobmgibdfmaaGreat
end
section
namespace Go.Proofs.YtiolobmgibdfmaaGreat
open Go Go.ChangeShapes
theorem A1c{a b:Bool}(ha:a=true)(hb:b=true):(a&&b)=true:=by rw [ha,hb];rfl
theorem j18_0:(Rows.vouchAddsRow.wf (OpenSpec.ofChange Rows.vouchAddsSpec))=true:=by kernel_rfl
theorem j18_1:(laidOutB Tryz.prog)=true:=by kernel_rfl
theorem j18_2:(mapsRowed Tryz.prog)=true:=by kernel_rfl
theorem j18_3:(Tryz.f18.params.all (Tryz.prog.readableRec ·))=true:=by kernel_rfl
theorem j18_4:(namedTie Tryz.prog Rows.vouchAddsRow.named Rows.vouchAddsSpec.vars)=true:=by kernel_rfl
theorem j18_5:((Rows.vouchAddsRow.stops == []))=true:=by kernel_rfl
theorem j18_6:((Tryz.prog.stops == []))=true:=by kernel_rfl
theorem j18_7:((Rows.vouchAddsRow.knobs == []))=true:=by kernel_rfl
theorem j18_8:((Tryz.prog.stopKnobs == []))=true:=by kernel_rfl
theorem j18_9:((Rows.vouchAddsRow.inPlace==Tryz.prog.inPlace 18))=true:=by kernel_rfl
theorem j18_10:((Rows.vouchAddsRow.unfollowed==Tryz.prog.unfollowed 18))=true:=by kernel_rfl
theorem j18_11:((Rows.vouchAddsRow.recurses==Tryz.prog.recurses 18))=true:=by kernel_rfl
theorem j18_12:((Rows.vouchAddsRow.named==Tryz.prog.varsNamed 18))=true:=by kernel_rfl
theorem j18_13:((Rows.vouchAddsRow.maps==(Tryz.f18.params.toList++Rows.vouchAddsSpec.plain.varTypes Tryz.prog).any (Tryz.prog.mapsRec ·)))=true:=by kernel_rfl
theorem j18_14:((Rows.vouchAddsRow.ifaces==(Tryz.f18.params.toList++Rows.vouchAddsSpec.plain.varTypes Tryz.prog).any (Tryz.prog.ifacesRec ·)))=true:=by kernel_rfl
theorem j18_15:((Rows.vouchAddsRow.mapsOut==Tryz.prog.mapsAmong Tryz.f18.resultTypes.toList))=true:=by kernel_rfl
theorem j18_16:((Rows.vouchAddsRow.loops==(Tryz.f18.params.toList++Rows.vouchAddsSpec.plain.varTypes Tryz.prog).any (Tryz.prog.loopsFrom ·)))=true:=by kernel_rfl
theorem j18_17:((Rows.vouchAddsRow.wideKeys==(Tryz.f18.params.toList++Rows.vouchAddsSpec.plain.varTypes Tryz.prog++Tryz.f18.resultTypes.toList).any (Tryz.prog.wideKeysFrom ·)))=true:=by kernel_rfl
theorem j18_18:(Rows.vouchAddsSpec.vars.all (Tryz.prog.varReadable ·))=true:=by kernel_rfl
theorem j18_19:(Tryz.f18.resultTypes.all (fun t=>Tryz.prog.readableRec t&&decide (t<Tryz.prog.types.size)))=true:=by kernel_rfl
theorem j18_20:((Rows.vouchAddsRow.ifacesOut==Tryz.f18.resultTypes.toList.any (Tryz.prog.ifacesRec ·)))=true:=by kernel_rfl
theorem j18_21:((Rows.vouchAddsRow.loopsOut==Tryz.f18.resultTypes.toList.any (Tryz.prog.loopsFrom ·)))=true:=by kernel_rfl
theorem j18_22:((Rows.vouchAddsRow.plainKeys==Tryz.prog.plainKeys))=true:=by kernel_rfl
theorem j18_23:(Rows.vouchAddsRow.shortTexts.isNone)=true:=by kernel_rfl
theorem j18_24:(Tryz.prog.stopsHeard)=true:=by kernel_rfl
theorem j18_25:(Tryz.prog.mayEnter)=true:=by kernel_rfl
theorem j18_26:((Rows.vouchAddsRow.lifted==Tryz.prog.liftsFinal))=true:=by kernel_rfl
theorem j18_27:((Tryz.prog.make==some Rows.vouchAddsRow.make))=true:=by kernel_rfl
theorem j18_28:((Rows.vouchAddsRow.kinds==(if Rows.vouchAddsRow.domain.isEmpty then []else Tryz.f18.params.toList.map fun t=>match Tryz.prog.underlying t with|some (.int k)=>some k|_=>none)))=true:=by kernel_rfl
theorem j18_29:((Rows.vouchAddsRow.pinned==Rows.vouchAddsRow.pinnedBy))=true:=by kernel_rfl
theorem j18_30:((Rows.vouchAddsRow.veiled==(Tryz.f18.params.toList++Rows.vouchAddsSpec.plain.varTypes Tryz.prog++Tryz.f18.resultTypes.toList).any (Tryz.prog.veiledRec ·)))=true:=by kernel_rfl
theorem j18_31:(Rows.vouchAddsRow.veiledFits Tryz.prog Tryz.f18.params.toList (Tryz.f18.params.toList++Rows.vouchAddsSpec.plain.varTypes Tryz.prog++Tryz.f18.resultTypes.toList))=true:=by kernel_rfl
set_option maxRecDepth 100000 in
theorem j18:joinedFacts Tryz.prog 18 Tryz.f18 Rows.vouchAddsSpec Rows.vouchAddsRow=true:=A1c (A1c (A1c (A1c (A1c (A1c (A1c (A1c (A1c (A1c (A1c (A1c (A1c (A1c (A1c (A1c (A1c (A1c (A1c (A1c (A1c (A1c (A1c (A1c (A1c (A1c (A1c (A1c (A1c (A1c (A1c (j18_0) j18_1) j18_2) j18_3) j18_4) j18_5) j18_6) j18_7) j18_8) j18_9) j18_10) j18_11) j18_12) j18_13) j18_14) j18_15) j18_16) j18_17) j18_18) j18_19) j18_20) j18_21) j18_22) j18_23) j18_24) j18_25) j18_26) j18_27) j18_28) j18_29) j18_30) j18_31
end Go.Proofs.YtiolobmgibdfmaaGreat
end
section
namespace Go.Proofs.YtiolobmgibdfmaaGreat
open Go Go.Pal Go.Conc Go.ConcM Go.RowKit Go.ChangeShapes Go.WideShapes Go.ChangeAt
open View
theorem B0f:ownKnob Tryz.prog.godebug=none:=by kernel_rfl
set_option maxRecDepth 100000 in
set_option maxHeartbeats 4000000 in
theorem adds_lifted(os:Os)(started:os.Started)(H:Type)(enc:TypeId×Value→H)(F:Stop.Interp) :
  ReturnsInLeavingWide Rows.vouchAddsRow.assume Tryz.checked os 18 .any (Rows.vouchAddsSpec.pre6 enc Tryz.prog Tryz.f18 Rows.vouchAddsRow.domain false) ((OpenSpec.ofChange Rows.vouchAddsSpec).postWith enc Tryz.prog Tryz.f18 F (outsideKept [.timePasses]) false true false):=by
 refine returnsInLeavingWide_of_change_time (C:=Tryz.checked) B0f started Tryz.func18
  (ChangeSpec.witness6c (enc:=enc) (C:=Tryz.checked) ⟨#[],#[.agg #[.int .i64 0,.int .i64 0,.slice none 0 0],.agg #[.int .i64 0,.int .i64 0,.int .i64 0,.int .i64 0],.slice none 0 0],[]⟩ 8 kR kR kR kR) ?_
 intro W base args ds gs before hval0 hW _ _ hass
 have hval:∀(j:Nat) t v,Tryz.f18.params[j]?=some t→args[j]?=some v→Value.okWide Tryz.prog W .any base t v:=hval0
 have hW':=hW
 obtain⟨p,q,hA0,hV,rfl,_,_⟩:=hW
 have hA:DataW.TrodAll enc Tryz.prog W 0 (fun _=>true) true Tryz.f18.params.toList args.toList ds p:=hA0
 rw [Tryz.params18]at hA hval
 obtain⟨v0,v1,v2,d0,d1,d2,p0,p1,p2,rfl,rfl,rfl,h0,h1,h2⟩:=trodAll_three hA
 obtain⟨rfl,rfl⟩:=trodVars_none hV
 clear hA0 hval0
 simp only [List.append_nil,List.append_assoc]at hW'
 have hlt:∀x∈p0++(p1++(p2)),x.block<W.heap.size:=fun x hx=>by simpa using hW'.lt x hx
 obtain⟨P,F,a,ws,cap,u0,rfl,-,hu0,hws,hst0⟩:=openV (hval 0 24 v0 rfl rfl) h0 (fun x hx=>hlt x (by simp only [List.mem_append];simp [hx]))
 obtain⟨xw,rfl,hst1⟩:=openX (hval 1 26 v1 rfl rfl) h1 (fun x hx=>hlt x (by simp only [List.mem_append];simp [hx]))
 obtain⟨a0,cap0,ns,u2,rfl,hu2,hns,hst2⟩:=openL (hval 2 27 v2 rfl rfl) h2 (fun x hx=>hlt x (by simp only [List.mem_append];simp [hx]))
 obtain⟨hO0,la0,lb0⟩:=hu0.both hu2
 have hcalm:Calm W.tape:=hass.2.1 Z
 obtain⟨M,last,o,w',t',r1,r2,r3,v',e,hp,g1,g2,g3,g4⟩:=law_run (P:=Tryz.prog) (W:=W) (v:=(u0.union u2)) (args:=[boV P F a ws.length cap,wdV xw,.slice a0 ns.length cap0]) Tryz.func18 rfl kR hO0.ag hO0.ro hcalm (adds_run (y:=⟨P,F,ws,a,cap⟩) (hws.le (la0)) (RowAt.le hns (lb0)))
 refine⟨M,last,o,w',t',r1,r2,r3,v',e,⟨?_,hp.2.2⟩,g1,g2,g3,g4⟩
 obtain⟨rfl,hbel,hos⟩:=hp
 exact⟨_,_,_,[],p0++(p1++(p2)),[],hW',trodAll_mk1 (shut_bool Tryz.underlying4 true),trodAll_mk3 (hst0 _ hbel) (hst1 _ hbel) (hst2 _ hbel),Z,hbel.frame _,fun h=>by cases h⟩
theorem adds_said:Rows.VouchAddsSaid:=
 OpenClaim.holds_of_wide_leaving_time 18 Tryz.f18 rfl rfl rfl rfl rfl rfl rfl ⟨rfl,rfl,rfl,rfl,rfl⟩ rfl rfl rfl rfl rfl kR Tryz.func18 j18
  (of_decide_eq_true kR) (by unfold Func.isWrapper;first|(rw [if_pos (by decide +kernel)];kernel_rfl)|(rw [if_neg (by decide +kernel)];exact⟨Z,Z⟩))
  (fun os started H enc _ F=>adds_lifted os started H enc F)
end Go.Proofs.YtiolobmgibdfmaaGreat
end
#print axioms Go.Proofs.YtiolobmgibdfmaaGreat.adds_said
