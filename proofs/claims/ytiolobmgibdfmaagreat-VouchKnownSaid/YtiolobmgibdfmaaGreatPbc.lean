/- Part 29 of the way to: 'palfreylaw06.VouchKnown' returns true whatever the start and whatever its goroutines do, as its row says it. No condition. -/
import Derived.Conc.HoldsTime
import Derived.Test.YtiolobmgibdfmaaGreatPah
import Derived.Test.YtiolobmgibdfmaaGreatPax
import Derived.Test.YtiolobmgibdfmaaGreatPba
import Derived.Test.YtiolobmgibdfmaaGreatPbb
set_option linter.unusedVariables false
set_option linter.unusedSimpArgs false
section
namespace Go.Pal
open Go Go.Conc View
section
variable{P:Program}{mn:Who}(T:Tab P){rd:Option Nat}{n:Nat}{Q:Exit→St→View→Prop}{ds:List Deferred}{ρ:Regs}{β:A0l}{v:View}{K:St→View→Prop}
  {ops:Array Oper}{i:Nat}{d:Nat}{ty:TypeId}{pos:String}{af:Array Edge}{gu:Option (Nat×Bool)}
theorem A_appendB{t t' e e':TypeId}{k by_ m len cap cap2:Nat}{y y2:Operand}{z:Value}{a a2:Option Addr}{cs xs:List Value}(ho:ops[i]?=some ⟨some d,.call {callee:=.builtin .append,args:=#[y,y2],argTypes:=#[t,t'] },ty,pos,af,gu⟩)(hw:A0v ops gu ρ=some true)(hn:Nat.blt d n=true)
    (hy:ρ.val y=some (.slice a len cap))(hy2:ρ.val y2=some (.slice a2 m cap2))
    (ht:T.und t=some (.slice e))(ht':T.und t'=some (.slice e'))(hs:T.siz e=some k)(hby:T.byt e=some by_)(hz:T.zer e=some z)(hzs:z.cells.size=k)
    (hr1:Bok β v→RowAt (v.union (A0c β)) a cs)(hl1:cs.length=len*k)(hr2:Bok β v→RowAt (v.union (A0c β)) a2 xs)(hxl:xs.length=m*k)(hc:cap<len+m)
    (hb:(2*(len+m)+768)*by_≤2^48)(hp:0<by_)
    (h:∀b c cap',OwnS e k [(b,c,e)] (some ⟨b,0,none⟩) (len+m) cap' (cs++xs)→K ⟨ds,(d,.slice (some ⟨b,0,none⟩) (len+m) cap')::ρ,(b,c,e)::β⟩ v):XOp P mn rd n ops i Q K ⟨ds,ρ,β⟩ v:=by
  refine A2l ho (A0n hw) (.inr rfl) hn fun ev hev hbk=>?_
  simp only [execOp,resolve,show(#[y,y2]:Array Operand).map ev=#[ev y,ev y2]from by simp,hev _ _ hy,hev _ _ hy2,A0d,A0k,invoke,builtin]
  refine A7g T ht ht' hs hby hz hzs (hr1 hbk) hl1 (hr2 hbk) hxl hc hb hp fun r cap' c hr hc1 hc2 hc3=>?_
  obtain⟨h5,h6⟩:=A8n (c:=c) (t:=e) hbk hr
  exact⟨(r,c,e)::β,v,⟨h5,h6⟩,h r c cap' (.box (by rw [List.length_append,hl1,hxl,Nat.add_mul]) hc1 hc2 hc3)⟩
end
end Go.Pal
end
section
namespace Go.Proofs.YtiolobmgibdfmaaGreat
open Go Go.Pal Go.Pal.Vo Go.Conc View
open Go.Proofs.Tryz
set_option maxHeartbeats 4000000
section
variable{v:View}{wa:Option Addr}{wc:Nat}
def ReadV(v:View)(β:A0l)(r:Value)(P F:Int)(ws:List Wd):Prop:=∃a cap,r=boV P F a ws.length cap∧ws.length≤cap∧WdsAt (v.union (A0c β)) a ws
theorem ReadV.zero{β:A0l}:ReadV v β (.agg #[.int .i64 0,.int .i64 0,.slice none 0 0]) 0 0 []:=⟨none,0,rfl,Nat.le_refl _,.inl rfl⟩
def B1k(P F:Nat)(ws:List Wd)(x:Wd):Int:=if(A0i P F ws).isEmpty || !(A0i P F (ws++[x])).isEmpty then 0 else 9
def errAd(P F:Int)(ws:List Wd)(x:Wd):Int:=if A1s P F ws=0 then(if ws.length<8 then(if A2t P.toNat F.toNat x=0 then B1k P.toNat F.toNat ws x else A2t P.toNat F.toNat x)else 6)else A1s P F ws
def AddR(v:View)(β:A0l)(r:Value)(P F:Int)(ws:List Wd)(x:Wd):Prop:=∃t,r = .tuple #[t,.int .i64 (errAd P F ws x)]∧((errAd P F ws x=0∧ReadV v β t P F (ws++[x]))∨(errAd P F ws x≠0∧ReadV v β t 0 0 []))
theorem Add_x{P F:Int}{ws:List Wd}{x:Wd}(hws:WdsAt v wa ws)(hwl:ws.length<2^30)(hwc:ws.length≤wc) :
    CallsB prog ⟨true,true⟩ 71 #[boV P F wa ws.length wc,wdV x] (RetB fun r β'=>AddR v β' r P F ws x) [] v:=by
  refine A2k tab A3l func71 rfl nB (args:=[_,_]) ?_
  unfold AddR
  repeat (first|refine st ?_|refine qb fun bx=>?_)
  refine Q_op fun ho=>A4u rfl ho rfl rfl ?_
  clear ho
  repeat (first|refine st ?_|refine qb fun bx=>?_)
  refine Q_op fun ho=>A4e ho B1o rfl rfl rfl rfl (A5h (hws.le (A0a _ _)) hwl) (fun h=>?_) (fun h=>?_)
  · rw [show errAd P F ws x=A1s P F ws from if_neg h]
    refine pn ?_
    exact A1n tab rfl ib dM sb (xs:=[_,_]) (by exact .cell rfl ib rfl (.cell rfl ib rfl .nil)) (β':=[]) (Back.here fun p=>Nat.zero_le _) ⟨_,rfl,.inr ⟨h,ReadV.zero⟩⟩
  clear ho
  rw [show errAd P F ws x=if ws.length<8 then(if A2t P.toNat F.toNat x=0 then B1k P.toNat F.toNat ws x else A2t P.toNat F.toNat x)else 6 from if_pos h]
  obtain⟨P,F,rfl,rfl,hv⟩:=A3w h
  simp only [Int.toNat_natCast]
  have hP4:=hv.p4
  have hF3:=hv.f3
  clear h
  repeat (first|refine st ?_|refine qb fun bx=>?_)
  refine Q_op fun ho=>A2q ho rfl rfl rfl rfl (fun h=>?_) (fun h=>?_)
  · have h:¬ws.length<8:=by have h:=of_decide_eq_false h;omega
    rw [if_neg h]
    refine pn ?_
    exact A1n tab rfl ib dM sb (xs:=[_,_]) (by exact .cell rfl ib rfl (.cell rfl ib rfl .nil)) (β':=[]) (Back.here fun p=>Nat.zero_le _) ⟨_,rfl,.inr ⟨by decide,ReadV.zero⟩⟩
  clear ho
  have hl8:ws.length<8:=by have h:=of_decide_eq_true h;omega
  rw [if_pos hl8]
  clear h
  repeat (first|refine st ?_|refine qb fun bx=>?_)
  refine Q_op fun ho=>A4e ho bod104 rfl rfl rfl rfl (A7l oM oM) (fun h=>?_) (fun h=>?_)
  · rw [if_neg h]
    refine pn ?_
    exact A1n tab rfl ib dM sb (xs:=[_,_]) (by exact .cell rfl ib rfl (.cell rfl ib rfl .nil)) (β':=[]) (Back.here fun p=>Nat.zero_le _) ⟨_,rfl,.inr ⟨h,ReadV.zero⟩⟩
  clear ho
  rw [if_pos h]
  have hv2:VOk P F (ws++[x]):=⟨hv.p1,hv.p4,hv.f3,by rw [List.length_append];exact hl8,fun y hy=>by
    rcases List.mem_append.1 hy with hy|hy
    · exact hv.all y hy
    · rw [List.mem_singleton.1 hy];exact h⟩
  clear h
  repeat (first|refine st ?_|refine qb fun bx=>?_)
  refine A2p [6,7,9] [0,1,2,3,5,4,6,7,8,9] A1w rfl kR ?_
  repeat (first|refine st ?_|refine qb fun bx=>?_)
  refine S_slice_hm tab (h':=ws.length) (m:=ws.length) rfl rfl rfl kR rfl rfl rfl rfl rfl oM (Nat.le_refl _) ?_
  have ea:(if ws.length=0 then wa else Option.map (fun(x:Addr)=>x.add (0*4)) wa)=wa:=by
    split
    · rfl
    · cases wa with
      | none=>rfl
      | some a0=>
        have h0:0<ws.length:=oM
        obtain⟨b,off,q,c,e,f,ha,_⟩:=hws.get h0
        injection ha with ha
        subst ha
        rw [Option.map_some,A4y];simp
  rw [ea]
  refine S_do kR (A3i tab rfl rfl rfl rfl rfl rfl rfl rfl rfl rfl (fun b5 c5 hL=>⟨Le.refl _,kp,?_⟩))
  refine S_do kR (A_appendB tab (len:=ws.length) (m:=1) (cs:=(ws.map wdC).flatten) (xs:=wdC x) rfl rfl rfl rfl rfl rfl rfl rfl rfl rfl rfl
    (fun hb=>RowAt.le hws (A0a _ _)) (A3q ws) (fun hb=>RowAt.own hb cntL hL) rfl oM (by show(2*(ws.length+1)+768)*32≤2^48;omega) oM (fun b7 c7 cap7 hS=>⟨Le.refl _,kp,?_⟩))
  repeat (refine ss ?_)
  refine S_do kR (A8r tab rfl rfl rfl rfl rfl rfl rfl ib (by exact rfl) sb ⟨Le.refl _,kp,?_⟩)
  repeat (refine ss ?_)
  refine A5t ?_
  refine XC_retire (β1:=[(b7,c7,26)]) (β2:=_) (fun _=>rfl) (fun hb7=>?_)
  have hws2:WdsAt (v.union (A0c [(b7,c7,26)])) (some ⟨b7,0,none⟩) (ws++[x]):=by
    unfold WdsAt
    rw [List.map_append,List.flatten_append]
    exact A0y hb7 hS
  obtain⟨_,_,_,_,hcap7,_⟩:=A1f hS oM
  have hlx:(ws++[x]).length=ws.length+1:=by rw [List.length_append];rfl
  repeat (first|refine st ?_|refine qb fun bx=>?_)
  refine Q_op fun ho=>A0h [] _ ho bod80 rfl rfl rfl rfl rfl A0t (A9l hv.p4 hv.f3 ((hws.le (A0a _ _)).le (A0a _ _)) hv.fit hwl) (fun x β' hR=>?_)
  clear ho
  obtain⟨a1,cap1,rfl,hS1⟩:=hR
  clear hS1
  repeat (first|refine st ?_|refine qb fun bx=>?_)
  by_cases h0:A0i P F ws=[]
  · rw [show((((A0i P F ws).length:Nat):Int)==0)=true from by simp [h0]]
    have hE:B1k P F ws x=0:=by unfold B1k;rw [h0];rfl
    rw [hE]
    repeat (first|refine st ?_|refine qb fun bx=>?_)
    refine Q_op fun ho=>A2q ho rfl rfl rfl rfl (fun h=>by cases h) (fun _=>?_)
    clear ho
    repeat (first|refine st ?_|refine qb fun bx=>?_)
    refine A4a tab rfl (β':=[]++[(b7,c7,26)]) (xs:=[_,_]) (by exact .cell rfl ib rfl (.cell rfl ib rfl .nil)) (Back.retired hb7 (Back.here fun p=>Nat.zero_le _)) ⟨_,rfl,.inl ⟨rfl,some ⟨b7,0,none⟩,cap7,?_,by rw [hlx];exact hcap7,hws2⟩⟩
    rw [hlx];rfl
  · rw [show((((A0i P F ws).length:Nat):Int)==0)=false from by simp;exact h0]
    repeat (first|refine st ?_|refine qb fun bx=>?_)
    refine Q_op fun ho=>A0h [] _ ho bod80 rfl rfl rfl rfl rfl A0t (by rw [←hlx];exact A9l hv2.p4 hv2.f3 (hws2.le (A0a _ _)) hv2.fit (by rw [hlx];omega)) (fun x β' hR=>?_)
    clear ho
    obtain⟨a2,cap2,rfl,hS2⟩:=hR
    clear hS2
    repeat (first|refine st ?_|refine qb fun bx=>?_)
    refine Q_op fun ho=>A2q ho rfl rfl rfl rfl (fun h=>?_) (fun h=>?_)
    · have h2:A0i P F (ws++[x])=[]:=List.length_eq_zero_iff.1 (by have h:=of_decide_eq_false h;omega)
      have hE:B1k P F ws x=9:=by unfold B1k;rw [h2];simp [h0]
      rw [hE]
      refine pn ?_
      exact A1n tab rfl ib dM sb (xs:=[_,_]) (by exact .cell rfl ib rfl (.cell rfl ib rfl .nil)) (β':=[]) (Back.forget hb7 (Back.here fun p=>Nat.zero_le _)) ⟨_,rfl,.inr ⟨by decide,ReadV.zero⟩⟩
    clear ho
    have h2:A0i P F (ws++[x])≠[]:=fun e=>by have h:=of_decide_eq_true h;rw [e]at h;simp at h
    have hE:B1k P F ws x=0:=by
      unfold B1k
      rw [if_pos (by simp [h2])]
    rw [hE]
    clear h
    repeat (first|refine st ?_|refine qb fun bx=>?_)
    refine A4a tab rfl (β':=[]++[(b7,c7,26)]) (xs:=[_,_]) (by exact .cell rfl ib rfl (.cell rfl ib rfl .nil)) (Back.retired hb7 (Back.here fun p=>Nat.zero_le _)) ⟨_,rfl,.inl ⟨rfl,some ⟨b7,0,none⟩,cap7,?_,by rw [hlx];exact hcap7,hws2⟩⟩
    rw [hlx];rfl
end
end Go.Proofs.YtiolobmgibdfmaaGreat
end
section
namespace Go.Proofs.YtiolobmgibdfmaaGreat
open Go Go.Pal Go.Pal.Vo Go.Conc View
open Go.Proofs.Tryz
set_option maxHeartbeats 4000000
set_option maxRecDepth 20000
section
variable{mn:Who}{v:View}
theorem word_eq{x:Wd}{K:Bool→View→Prop}{E:Value→View→Prop}(h:K true v):SemX prog (Op.equal 26 (wdV x) (wdV x)) K E v:=by
  have hs:prog.stoodInHeld 26=false:=by kernel_rfl
  rw [show wdV x = .agg #[.int .i64 x.who,.int .i64 x.kind,.int .i64 x.a,.int .i64 x.b]from rfl]
  show SemX prog (Op.equalIn (9998+1+1) 26 _ _) K E v
  unfold Op.equalIn
  rw [A0d,A1l tab (t:=26) rfl]
  simp only [A0d,A2e,hs,Bool.false_eq_true,if_false,List.forIn_toArray,List.forIn_cons,List.forIn_nil]
  have ht:∀y:Int,(y==y)=true:=fun y=>by simp
  rw [if_pos dM]
  simp only [A0d]
  refine A4f (x:=.int .i64 x.who) rfl ?_
  refine A4f (x:=.int .i64 x.who) rfl ?_
  refine i64_eq ?_
  rw [ht]
  simp only [Bool.not_true,Bool.false_eq_true,if_false,A0k,A0d]
  rw [if_pos dM]
  simp only [A0d]
  refine A4f (x:=.int .i64 x.kind) rfl ?_
  refine A4f (x:=.int .i64 x.kind) rfl ?_
  refine i64_eq ?_
  rw [ht]
  simp only [Bool.not_true,Bool.false_eq_true,if_false,A0k,A0d]
  rw [if_pos dM]
  simp only [A0d]
  refine A4f (x:=.int .i64 x.a) rfl ?_
  refine A4f (x:=.int .i64 x.a) rfl ?_
  refine i64_eq ?_
  rw [ht]
  simp only [Bool.not_true,Bool.false_eq_true,if_false,A0k,A0d]
  rw [if_pos dM]
  simp only [A0d]
  refine A4f (x:=.int .i64 x.b) rfl ?_
  refine A4f (x:=.int .i64 x.b) rfl ?_
  refine i64_eq ?_
  rw [ht]
  exact h
end
section
variable{mn:Who}{rd:Option Nat}{n:Nat}{Q:Exit→St→View→Prop}{ds:List Deferred}{ρ:Regs}{β:A0l}{v:View}{K:St→View→Prop}
  {ops:Array Oper}{i:Nat}{l:List Oper}{d:Nat}{ty:TypeId}{pos:String}{af:Array Edge}{gu:Option (Nat×Bool)}
theorem A_neqR{y z:Operand}{t2:TypeId}{a b c e:Int}(ho:ops[i]?=some ⟨some d,.binOp .neq 42 y z t2,ty,pos,af,gu⟩)(hw:A0v ops gu ρ=some true)(hn:Nat.blt d n=true)(hy:ρ.val y=some (A3x a b))(hz:ρ.val z=some (A3x c e))
    (h:K ⟨ds,(d,.bool (!decide (a=c∧b=e)))::ρ,β⟩ v):XOp prog mn rd n ops i Q K ⟨ds,ρ,β⟩ v:=by
  refine A2l ho (A0n hw) (.inr rfl) hn fun ev hev hbk=>?_
  have hg:prog.eqGuardType prog.depth 42=false:=by kernel_rfl
  simp only [execOp,A0d,hev _ _ hy,hev _ _ hz,eqGuard,binOp,A2e,hg]
  simp only [Bool.not_true,Bool.false_eq_true,if_false,A0d]
  rw [A2e,A2e,hg]
  simp only [Bool.not_true,Bool.not_false,Bool.false_eq_true,if_false,if_true,A0k,A0d]
  refine range_eq ?_
  exact⟨β,v,⟨hbk,Le.refl _⟩,h⟩
theorem L_neqW{y z:Operand}{t2:TypeId}{x x':Wd}(hw:A0v ops gu ρ=some true)(hn:Nat.blt d n=true)(hy:ρ.val y=some (wdV x))(hz:ρ.val z=some (wdV x'))(hx:x=x')
    (h:XL prog mn n ops Q l ⟨ds,(d,.bool false)::ρ,β⟩ v):XL prog mn n ops Q (⟨some d,.binOp .neq 26 y z t2,ty,pos,af,gu⟩::l) ⟨ds,ρ,β⟩ v:=by
  subst hx
  replace hy:ρ.val y=some (.agg #[.int .i64 x.who,.int .i64 x.kind,.int .i64 x.a,.int .i64 x.b]):=hy
  replace hz:ρ.val z=some (.agg #[.int .i64 x.who,.int .i64 x.kind,.int .i64 x.a,.int .i64 x.b]):=hz
  refine A7m (o:=⟨some d,.binOp .neq 26 y z t2,ty,pos,af,gu⟩) (x:=.bool false) (A0n hw) hn (fun ev hev hbk w hle=>?_) h
  have hg:prog.eqGuardType prog.depth 26=false:=by kernel_rfl
  simp only [execOp,A0d,hev _ _ hy,hev _ _ hz,eqGuard,binOp,A2e,hg]
  simp only [Bool.not_true,Bool.false_eq_true,if_false,A0d]
  rw [A2e,A2e,hg]
  simp only [Bool.not_true,Bool.not_false,Bool.false_eq_true,if_false,if_true,A0k,A0d]
  refine word_eq (x:=x) ?_
  exact⟨Le.refl _,rfl⟩
end
section
variable{mn:Who}{v:View}
theorem sameV_x{P F:Int}{a b:Option Addr}{c d:Nat}{ws:List Wd}(ha:WdsAt v a ws)(hb:WdsAt v b ws)(hwl:ws.length<2^30):Ret1 prog mn 32 [boV P F a ws.length c,boV P F b ws.length d] (.bool true) v:=by
  refine A0g tab func32 rfl nB (args:=[_,_]) ?_
  repeat (first|refine st ?_|refine qb fun bx=>?_)
  rename_i bx3
  have e0:∀y:Int,(y != y)=false:=fun y=>by simp
  repeat (first|refine st ?_|refine qb fun bx=>?_)
  refine B3u rfl rfl (fun h=>?_) (fun h=>?_)
  · rw [e0]at h;cases h
  repeat (first|refine st ?_|refine qb fun bx=>?_)
  refine B3u rfl rfl (fun h=>?_) (fun h=>?_)
  · rw [e0]at h;cases h
  repeat (first|refine st ?_|refine qb fun bx=>?_)
  refine A0x rfl (fun h=>?_) (fun h=>?_)
  · rw [e0]at h;cases h
  repeat (first|refine st ?_|refine qb fun bx=>?_)
  refine A1u (α:=Nat) (fun i=>⟨[],[(5,.int .i64 i),(2,.pointer (some ⟨bx3,0,none⟩)),(3,.pointer (some ⟨bx,0,none⟩))],[(bx3,(boV P F a ws.length c).cells,24),(bx,(boV P F b ws.length d).cells,24)]⟩)
    (fun i u=>u=v∧i≤ws.length) (fun i=>ws.length-i) 0 ⟨rfl,rg,cntL⟩ (Le.refl _) ⟨rfl,Nat.zero_le _⟩ ?_
  rintro i u ⟨rfl,hi⟩
  repeat (first|refine st ?_|refine qb fun bx=>?_)
  refine A0x rfl (fun h=>?_) (fun h=>?_)
  · replace h:=fa h
    have hlt:i<ws.length:=oM
    obtain⟨b1,o1,p1,k1,e1,f1,rfl,hv1,hc1⟩:=ha.get hlt
    obtain⟨b2,o2,p2,k2,e2,f2,rfl,hv2,hc2⟩:=hb.get hlt
    repeat (first|refine st ?_|refine qb fun bx=>?_)
    refine A2f tab i rfl rfl rfl rfl rfl rfl rfl hlt ?_
    refine A8z tab rfl rfl rfl hv1 (A1z tab rfl rfl rfl (hc1 i hlt)) ?_
    repeat (first|refine st ?_|refine qb fun bx=>?_)
    refine A2f tab i rfl rfl rfl rfl rfl rfl rfl hlt ?_
    refine A8z tab rfl rfl rfl hv2 (A1z tab rfl rfl rfl (hc2 i hlt)) ?_
    repeat (first|refine st ?_|refine qb fun bx=>?_)
    refine L_neqW (x:=ws[i]) (x':=ws[i]) rfl rfl rfl rfl rfl ?_
    repeat (first|refine st ?_|refine qb fun bx=>?_)
    refine A0e ⟨i+1,_,(by have:=hlt;omega),⟨rfl,rg,cntL⟩,Le.refl _,rfl,hlt⟩
  · repeat (first|refine st ?_|refine qb fun bx=>?_)
    refine A0m tab [] (by exact .tmp rfl .nil) (Back.here cntL) ?_
    exact⟨rfl,rfl⟩
end
section
variable{P:Program}{mn:Who}{v:View}
theorem CallsB.kept{k:FuncId}{args:Array Value}{R:Value→A0l→Prop}{β:A0l}(h:Bok β v→CallsB P mn k args (RetB R) [] (v.union (A0c β))):CallsB P mn k args (RetB fun r β'=>∃β3,R r β3∧β'=β3++β) β v:=fun hb=>by
  have h1:=h hb ⟨List.nodup_nil,fun _=>.inr rfl⟩
  rw [A2b]at h1
  refine h1.mono fun e w ⟨β',hR,hb',hl⟩=>⟨w,Le.refl _,β'++β,?_,bok_append.2 ⟨hb,hb'⟩,?_⟩
  · cases e with
    | ret x=>exact⟨β',hR,rfl⟩
    | pan ch=>exact hR.elim
  · rw [A1b (bok_append.2 ⟨hb,hb'⟩)];exact hl
end
def wordsW:List Wd:=[⟨3,0,0,0⟩,⟨0,7,0,0⟩,⟨0,0,1,0⟩,⟨0,5,1,0⟩,⟨0,6,4,0⟩]
def duesL:List Int:=[3,8,3,5,1]
theorem dues_at:∀i:Fin 5,A1s 3 1 (mareW++[wordsW[i.val]'i.isLt])=duesL[i.val]'i.isLt∧A2t 3 1 (wordsW[i.val]'i.isLt)=duesL[i.val]'i.isLt:=by decide +kernel
theorem dues_known{i:Nat}(h:i<wordsW.length)(h':i<duesL.length):A1s 3 1 (mareW++[wordsW[i]])=duesL[i]∧A2t 3 1 wordsW[i]=duesL[i]:=dues_at ⟨i,h⟩
theorem RetB.imp1{P:Program}{mn:Who}{v:View}{k:FuncId}{args:List Value}{x y:Value}(h:CallsB P mn k args.toArray (RetB fun r β'=>r=x∧β'=[]) [] v)(e:x=y):Ret1 P mn k args y v:=by subst e;exact h
section
variable{v:View}{wa:Option Addr}{wc:Nat}
theorem check_0(h:WdsAt v wa mareW):Ret1 prog ⟨true,true⟩ 67 [boV 3 1 wa mareW.length wc] (.int .i64 0) v:=RetB.imp1 (Check_x h dM) kR
theorem check_5(h:WdsAt v wa mareW):Ret1 prog ⟨true,true⟩ 67 [boV 5 1 wa mareW.length wc] (.int .i64 1) v:=RetB.imp1 (Check_x h dM) kR
theorem check_4(h:WdsAt v wa mareW):Ret1 prog ⟨true,true⟩ 67 [boV 3 4 wa mareW.length wc] (.int .i64 1) v:=RetB.imp1 (Check_x h dM) kR
theorem check_i{i:Nat}(hi:i<wordsW.length)(hi':i<duesL.length)(h:WdsAt v wa (mareW++[wordsW[i]])):Ret1 prog ⟨true,true⟩ 67 [boV 3 1 wa (mareW++[wordsW[i]]).length wc] (.int .i64 duesL[i]) v:=
  RetB.imp1 (Check_x h (by simp [mareW])) (by rw [(dues_known hi hi').1])
theorem cword_i{i:Nat}(hi:i<wordsW.length)(hi':i<duesL.length)(h:WdsAt v wa mareW):Ret1 prog ⟨true,true⟩ 69 [boV 3 1 wa mareW.length wc,wdV wordsW[i]] (.int .i64 duesL[i]) v:=
  RetB.imp1 (CheckWord_x h dM) (by rw [if_pos (by decide +kernel),show(3:Int).toNat=3 from rfl,show(1:Int).toNat=1 from rfl,(dues_known hi hi').2])
theorem count_o(h:WdsAt v wa moreW):Ret1 prog ⟨true,true⟩ 25 [boV 3 1 wa moreW.length wc] (.tuple #[.int .i64 2,.int .i64 0]) v:=
  RetB.imp1 (Count_x h dM) kR
theorem count_i(h:WdsAt v wa itselfW):Ret1 prog ⟨true,true⟩ 25 [boV 1 0 wa itselfW.length wc] (.tuple #[.int .i64 0,.int .i64 0]) v:=
  RetB.imp1 (Count_x h dM) kR
theorem count_e(h:WdsAt v wa eachW):Ret1 prog ⟨true,true⟩ 25 [boV 2 0 wa eachW.length wc] (.tuple #[.int .i64 2,.int .i64 0]) v:=
  RetB.imp1 (Count_x h dM) kR
theorem liars_a(h:WdsAt v wa mareW):Ret1 prog ⟨true,true⟩ 29 [boV 3 1 wa mareW.length wc] (.tuple #[A3x 2 2,.int .i64 0]) v:=
  RetB.imp1 (Liars_x h dM) kR
theorem person_a(h:WdsAt v wa mareW):Ret1 prog ⟨true,true⟩ 41 [boV 3 1 wa mareW.length wc,.int .i64 2,.bool false] (.tuple #[.int .i64 2,.int .i64 0]) v:=
  RetB.imp1 (B2b (x:=2) (best:=false) h dM) kR
theorem person_b(h:WdsAt v wa mareW):Ret1 prog ⟨true,true⟩ 41 [boV 3 1 wa mareW.length wc,.int .i64 0,.bool false] (.tuple #[.int .i64 3,.int .i64 0]) v:=
  RetB.imp1 (B2b (x:=0) (best:=false) h dM) kR
theorem person_c(h:WdsAt v wa eachW):Ret1 prog ⟨true,true⟩ 41 [boV 2 0 wa eachW.length wc,.int .i64 0,.bool false] (.tuple #[.int .i64 3,.int .i64 0]) v:=
  RetB.imp1 (B2b (x:=0) (best:=false) h dM) kR
theorem fact_a(h:WdsAt v wa mareW):Ret1 prog ⟨true,true⟩ 52 [boV 3 1 wa mareW.length wc,.int .i64 0,.bool false] (.tuple #[.int .i64 3,.int .i64 0]) v:=
  RetB.imp1 (Fact_x (x:=0) (best:=false) h dM) kR
theorem fact_b(h:WdsAt v wa moreW):Ret1 prog ⟨true,true⟩ 52 [boV 3 1 wa moreW.length wc,.int .i64 0,.bool true] (.tuple #[.int .i64 3,.int .i64 0]) v:=
  RetB.imp1 (Fact_x (x:=0) (best:=true) h dM) kR
theorem fact_c(h:WdsAt v wa mareW):Ret1 prog ⟨true,true⟩ 52 [boV 3 1 wa mareW.length wc,.int .i64 1,.bool false] (.tuple #[.int .i64 0,.int .i64 3]) v:=
  RetB.imp1 (Fact_x (x:=1) (best:=false) h dM) kR
theorem follows_a(h:WdsAt v wa mareW):Ret1 prog ⟨true,true⟩ 42 [boV 3 1 wa mareW.length wc,wdV ⟨1,5,0,1⟩] (.tuple #[.int .i64 2,.int .i64 0]) v:=
  RetB.imp1 (B3w (x:=⟨1,5,0,1⟩) h dM) kR
theorem follows_b(h:WdsAt v wa moreW):Ret1 prog ⟨true,true⟩ 42 [boV 3 1 wa moreW.length wc,wdV ⟨2,3,1,0⟩] (.tuple #[.int .i64 3,.int .i64 0]) v:=
  RetB.imp1 (B3w (x:=⟨2,3,1,0⟩) h dM) kR
theorem ask_a(h:WdsAt v wa mareW):Ret1 prog ⟨true,true⟩ 36 [boV 3 1 wa mareW.length wc] (.tuple #[.int .i64 0,.int .i64 1,.int .i64 0]) v:=
  RetB.imp1 (Ask_x h dM) kR
theorem fewest_a(h:WdsAt v wa mareW):CallsB prog ⟨true,true⟩ 27 #[boV 3 1 wa mareW.length wc] (RetB fun r β'=>∃a1 c1 a2 c2 β1 β2,r = .tuple #[wldV a1 1 c1 a2 1 c2,.int .i64 0]∧OwnS 3 1 β1 a1 1 c1 ([1].map natV)∧OwnS 3 1 β2 a2 1 c2 ([0].map natV)∧β'=β1++β2) [] v:=
  (B2d h dM).mono (RetB.imp fun r β ⟨t,hr,hT⟩=>by
    rw [show(wlsE 3 1 mareW).headD (0,0)=(2,1)from by decide +kernel]at hT
    rw [show errS 3 1 mareW=0 from by decide +kernel]at hr
    obtain⟨β1,β2,x1,x2,rfl,⟨a1,c1,rfl,h1⟩,⟨a2,c2,rfl,h2⟩,rfl⟩:=hT
    rw [show lst ((2,1):Wl).1=[1]from by decide]at h1 hr
    rw [show lst ((2,1):Wl).2=[0]from by decide]at h2 hr
    exact⟨a1,c1,a2,c2,β1,β2,hr,h1,h2,rfl⟩)
theorem fewest_e(h:WdsAt v wa eachW):CallsB prog ⟨true,true⟩ 27 #[boV 2 0 wa eachW.length wc] (RetB fun r β'=>∃a1 c1 a2 c2 β1 β2,r = .tuple #[wldV a1 2 c1 a2 0 c2,.int .i64 0]∧OwnS 3 1 β1 a1 2 c1 ([0,1].map natV)∧OwnS 3 1 β2 a2 0 c2 ([].map natV)∧β'=β1++β2) [] v:=
  (B2d h dM).mono (RetB.imp fun r β ⟨t,hr,hT⟩=>by
    rw [show(wlsE 2 0 eachW).headD (0,0)=(3,0)from by decide +kernel]at hT
    rw [show errS 2 0 eachW=0 from by decide +kernel]at hr
    obtain⟨β1,β2,x1,x2,rfl,⟨a1,c1,rfl,h1⟩,⟨a2,c2,rfl,h2⟩,rfl⟩:=hT
    rw [show lst ((3,0):Wl).1=[0,1]from by decide]at h1 hr
    rw [show lst ((3,0):Wl).2=[]from by decide]at h2 hr
    exact⟨a1,c1,a2,c2,β1,β2,hr,h1,h2,rfl⟩)
theorem if_a(h:WdsAt v wa moreW):CallsB prog ⟨true,true⟩ 61 #[boV 3 1 wa moreW.length wc,.int .i64 2] (RetB fun r β'=>∃a1 c1 a2 c2 β1 β2,r = .tuple #[wldV a1 1 c1 a2 0 c2,.int .i64 0]∧OwnS 3 1 β1 a1 1 c1 ([2].map natV)∧OwnS 3 1 β2 a2 0 c2 ([].map natV)∧β'=β1++β2) [] v:=
  (If_x (x:=2) h dM).mono (RetB.imp fun r β ⟨t,hr,hT⟩=>by
    rw [show(ifO 3 1 moreW 2).getD (0,0)=(4,0)from by decide +kernel]at hT
    rw [show errI 3 1 moreW 2=0 from by decide +kernel]at hr
    obtain⟨β1,β2,x1,x2,rfl,⟨a1,c1,rfl,h1⟩,⟨a2,c2,rfl,h2⟩,rfl⟩:=hT
    rw [show lst ((4,0):Wl).1=[2]from by decide]at h1 hr
    rw [show lst ((4,0):Wl).2=[]from by decide]at h2 hr
    exact⟨a1,c1,a2,c2,β1,β2,hr,h1,h2,rfl⟩)
theorem if_b(h:WdsAt v wa moreW):CallsB prog ⟨true,true⟩ 61 #[boV 3 1 wa moreW.length wc,.int .i64 1] (RetB fun r β'=>∃a1 c1 a2 c2 β1 β2,r = .tuple #[wldV a1 1 c1 a2 1 c2,.int .i64 0]∧OwnS 3 1 β1 a1 1 c1 ([1].map natV)∧OwnS 3 1 β2 a2 1 c2 ([0].map natV)∧β'=β1++β2) [] v:=
  (If_x (x:=1) h dM).mono (RetB.imp fun r β ⟨t,hr,hT⟩=>by
    rw [show(ifO 3 1 moreW 1).getD (0,0)=(2,1)from by decide +kernel]at hT
    rw [show errI 3 1 moreW 1=0 from by decide +kernel]at hr
    obtain⟨β1,β2,x1,x2,rfl,⟨a1,c1,rfl,h1⟩,⟨a2,c2,rfl,h2⟩,rfl⟩:=hT
    rw [show lst ((2,1):Wl).1=[1]from by decide]at h1 hr
    rw [show lst ((2,1):Wl).2=[0]from by decide]at h2 hr
    exact⟨a1,c1,a2,c2,β1,β2,hr,h1,h2,rfl⟩)
theorem fewest_i(h:WdsAt v wa itselfW):CallsB prog ⟨true,true⟩ 27 #[boV 1 0 wa itselfW.length wc] (RetB fun r β'=>∃t,r = .tuple #[t,.int .i64 11]) [] v:=
  (B2d h dM).mono (RetB.imp fun r β ⟨t,hr,hT⟩=>⟨t,by rw [hr,show errS 1 0 itselfW=11 from by decide +kernel]⟩)
theorem if_c(h:WdsAt v wa mareW):CallsB prog ⟨true,true⟩ 61 #[boV 3 1 wa mareW.length wc,.int .i64 2] (RetB fun r β'=>∃t,r = .tuple #[t,.int .i64 11]) [] v:=
  (If_x (x:=2) h dM).mono (RetB.imp fun r β ⟨t,hr,hT⟩=>⟨t,by rw [hr,show errI 3 1 mareW 2=11 from by decide +kernel]⟩)
theorem wrong_a{a1 a2:Option Addr}{c1 c2:Nat}(h:WdsAt v wa mareW)(h1:RowAt v a1 ([(1:Int)].map (Value.int .i64)))(h2:RowAt v a2 ([(0:Int)].map (Value.int .i64))):CallsB prog ⟨true,true⟩ 56 #[boV 3 1 wa mareW.length wc,wldV a1 1 c1 a2 1 c2] (RetB fun r β'=>∃a c,r = .tuple #[.slice a 0 c,.int .i64 0]) [] v:=
  (Wrong_x (tr:=[1]) (so:=[0]) h dM h1 h2 dM dM).mono (RetB.imp fun r β ⟨t,hr,hT⟩=>by
    rw [show(if errWr 3 1 mareW [1] [0]=0 then wrongL (3:Int).toNat mareW [1] [0]else [])=[]from by decide +kernel]at hT
    rw [show errWr 3 1 mareW [1] [0]=0 from by decide +kernel]at hr
    obtain⟨a,c,rfl,hS⟩:=hT
    exact⟨a,c,hr⟩)
theorem wrong_b(h:WdsAt v wa mareW):CallsB prog ⟨true,true⟩ 56 #[boV 3 1 wa mareW.length wc,wldV none 0 0 none 0 0] (RetB fun r β'=>∃a c,r = .tuple #[.slice a 2 c,.int .i64 0]∧OwnS 3 1 β' a 2 c ([0,2].map natV)) [] v:=
  (Wrong_x (tr:=[]) (so:=[]) h dM (.inl rfl) (.inl rfl) dM dM).mono (RetB.imp fun r β ⟨t,hr,hT⟩=>by
    rw [show(if errWr 3 1 mareW [] []=0 then wrongL (3:Int).toNat mareW [] []else [])=[0,2]from by decide +kernel]at hT
    rw [show errWr 3 1 mareW [] []=0 from by decide +kernel]at hr
    obtain⟨a,c,rfl,hS⟩:=hT
    exact⟨a,c,hr,hS⟩)
theorem wrong_c{a1:Option Addr}{c1:Nat}(h:WdsAt v wa mareW)(h1:RowAt v a1 ([(2:Int),1].map (Value.int .i64))):CallsB prog ⟨true,true⟩ 56 #[boV 3 1 wa mareW.length wc,wldV a1 2 c1 none 0 0] (RetB fun r β'=>∃t,r = .tuple #[t,.int .i64 5]) [] v:=
  (Wrong_x (tr:=[2,1]) (so:=[]) h dM h1 (.inl rfl) dM dM).mono (RetB.imp fun r β ⟨t,hr,hT⟩=>⟨t,by
    rw [hr,show errWr 3 1 mareW [2,1] []=5 from by decide +kernel]⟩)
theorem silent_a(h:WdsAt v wa mareW)(hc:mareW.length≤wc):CallsB prog ⟨true,true⟩ 33 #[boV 3 1 wa mareW.length wc] (RetB fun r β'=>∃a c,r = .tuple #[.slice a 0 c,.int .i64 0]) [] v:=
  (Silent_x h dM hc).mono (RetB.imp fun r β ⟨t,hr,hT⟩=>by
    rw [show A1s 3 1 mareW=0 from by decide +kernel]at hr hT
    rw [if_pos rfl,show B0v (3:Int).toNat (1:Int).toNat mareW=[]from by decide +kernel]at hT
    obtain⟨a,c,rfl,hrow⟩:=hT
    exact⟨a,c,hr⟩)
theorem proof_a(h:WdsAt v wa mareW):CallsB prog ⟨true,true⟩ 38 #[boV 3 1 wa mareW.length wc,.int .i64 0] (RetB fun r β'=>∃a c,r = .tuple #[.slice a 1 c,.int .i64 0]∧RowAt (v.union (A0c β')) a ([0].map natV)) [] v:=
  (Proof_x (x:=0) h dM).mono (RetB.imp fun r β ⟨t,hr,hT⟩=>by
    rw [show errPr 3 1 mareW 0=0 from by decide +kernel]at hr
    rw [show proofA 3 1 mareW 0=[0]from by decide +kernel]at hT
    obtain⟨a,c,rfl,hrow⟩:=hT
    exact⟨a,c,hr,hrow⟩)
theorem add_a(h:WdsAt v wa mareW)(hc:mareW.length≤wc):CallsB prog ⟨true,true⟩ 71 #[boV 3 1 wa mareW.length wc,wdV ⟨0,0,0,0⟩] (RetB fun r β'=>∃a c,r = .tuple #[boV 3 1 a moreW.length c,.int .i64 0]∧WdsAt (v.union (A0c β')) a moreW) [] v:=
  (Add_x (x:=⟨0,0,0,0⟩) h dM hc).mono (RetB.imp fun r β hT=>by
    obtain⟨t,hr,hT⟩:=hT
    have e0:errAd 3 1 mareW ⟨0,0,0,0⟩=0:=by decide +kernel
    rw [e0]at hr hT
    rcases hT with ⟨_,a,c,rfl,_,hw⟩|⟨hn,_⟩
    · exact⟨a,c,hr,hw⟩
    · exact absurd rfl hn)
theorem add_b:CallsB prog ⟨true,true⟩ 71 #[boV 1 0 none 0 0,wdV ⟨0,2,0,0⟩] (RetB fun r β'=>∃t,r = .tuple #[t,.int .i64 9]) [] v:=
  (Add_x (ws:=[]) (x:=⟨0,2,0,0⟩) (.inl rfl) dM dM).mono (RetB.imp fun r β hT=>by
    obtain⟨t,hr,hT⟩:=hT
    exact⟨t,by rw [hr,show errAd 1 0 [] ⟨0,2,0,0⟩=9 from by decide +kernel]⟩)
end
end Go.Proofs.YtiolobmgibdfmaaGreat
end
section
namespace Go.Pal
open Go Go.Conc View
def AtTop(f:FuncId)(t:Nat):View→Goroutine→Prop:=fun _ g=>∃fr:Frame,g=G fr []∧fr.mode = .returning∧fr.defers=[]∧fr.kind = .normal∧fr.fn=f∧fr.tmps[t]?=some (.bool true)
def TopQ(t:Nat):Exit→St→View→Prop:=fun e σ _=>e = .ret∧σ.ds=[]∧σ.ρ.get t=some (.bool true)
section
variable{P:Program}{mn:Who}{v:View}
theorem top_run{f:FuncId}{fn:Func}{c:Code}{args:List Value}{t:Nat}(hf:P.funcs[f]?=some fn)(hb:fn.body=some c)(hn:args.length≤fn.ntmps)(h:XC P mn none fn.ntmps c (TopQ t) ⟨[],A2s 0 args,[]⟩ v) :
    Run P mn (AtTop f t) v (G (Frame.enter P f args.toArray .normal) []):=by
  let b:Frame:={fn:=f,tmps:=#[],todo:=[],defers:=[],mode:=.run,kind:=.normal }
  have henter:Frame.enter P f args.toArray .normal=b.on {tmps:=args.toArray++Array.replicate (fn.ntmps-args.toArray.size) undef,defers:=[] } [.code c]:=by
    simp [Frame.enter,Frame.on,hf,hb,b]
  rw [henter]
  have h1:=(h _ (B3g hn) (B3l v)) (AtTop f t) b [] [] (by simp [b]) rfl (fun e a' w hQ=>by
    obtain⟨⟨ds',ρ',β'⟩,u,⟨rfl,h1,h2⟩,hf',hb',hl⟩:=hQ
    intro todo
    refine Run.ctl rfl (g':=G {b.on a' (.code .ret::todo)with mode:=.returning } []) (fun w=>by simp [G,stepG,stepG.exec,Frame.on,b]) ?_
    exact .stop (Le.refl _) ⟨_,rfl,rfl,hf'.defers.trans h1,rfl,rfl,hf'.get _ _ h2⟩)
  rw [A2b]at h1
  exact h1
theorem law_run{f:FuncId}{fn:Func}{args:List Value}{t:Nat}{W:World}(hf:P.funcs[f]?=some fn)(hres:fn.results=#[.tmp t])(hinit:P.inits.idxOf? f=none)(hag:v.Agree W)(hro:∀b,¬v.Owns b)(hcalm:Calm W.tape)
    (h:Run P ⟨true,true⟩ (AtTop f t) v (G (Frame.enter P f args.toArray .normal) [])) :
    ∃ M last o w' t',runNT P (M+1) (solo (G (Frame.enter P f args.toArray .normal) []) W) #[]=(.ended o w',t')∧runN P M (solo (G (Frame.enter P f args.toArray .normal) []) W) = .next last∧
      step P last = .ended o w'∧Go.Conc.Good P (fun x W'=>x = .bool true∧Go.RowKit.Below W.heap.size W {W' with os:=W.os }∧Go.ConcM.OsLater W.os W'.os) last o w' t':=by
  rw [solo_eq_crowd]
  have hS:Past (ShunL (fun _=>False)) W.heap.size #[]:=by
    have h0:=past_nil.mono (Nat.zero_le W.heap.size)
    refine⟨h0.clean,fun i a ha hm=>?_,h0.over,h0.hears,h0.seen⟩
    simp [touchAt,Trace.act?]at ha
  obtain⟨N,gs',w',sl',t',q',S',v',g',h1,h2,h3,h4,h5⟩:=run_big rfl h #[G (Frame.enter P f args.toArray .normal) []] W none #[] (fun _=>0) (fun _=>False)
    ⟨rfl,leavers_one _ _,hS,hag,fun _ h=>h.elim,fun _ h=>h.elim,hcalm,fun op hop=>by simp at hop⟩
  obtain⟨fr,rfl,k1,k2,k3,k4,k5⟩:=h5
  have hB:Go.RowKit.Below W.heap.size W {w' with os:=W.os }:=⟨rfl,h3.tape,h3.output,h3.size,fun k hk=>h3.keep k hk (hro k)⟩
  obtain⟨M,last,o,w2,t2,e1,e2,e3,e4⟩:=beside_ends (P:=P) (Shun:=ShunL S') (B:=w'.heap.size) (D:=fun _ _ _=>False) (Post:=fun x W'=>x = .bool true∧Go.RowKit.Below W.heap.size W {W' with os:=W.os }∧Go.ConcM.OsLater W.os W'.os) (sl:=sl') (n:=0) (w:=w') (a:=G fr [])
    (fun _ _ _ h=>h.elim) h2.zero h2.leave h2.past (by
      intro w₁ hw
      obtain⟨d,rfl⟩:=hw
      refine⟨rfl,.bool true,#[],?_,by simp,rfl,⟨hB.os,hB.tape,hB.output,hB.size,hB.block⟩,h3.os⟩
      simp [G,stepG,k1,unwind,k2,k3,k4,hf,results,hres,k5,doReturn,hinit,GStep.after,seen_none,Sem.runT,Sem.bind])
  refine⟨N+M,last,o,w2,t2,?_,?_,e3,e4⟩
  · rw [Nat.add_assoc,runNT_add,h1];exact e1
  · rw [runN_add,←runNT_fst P _ _ #[],h1];exact e2
end
end Go.Pal
end
