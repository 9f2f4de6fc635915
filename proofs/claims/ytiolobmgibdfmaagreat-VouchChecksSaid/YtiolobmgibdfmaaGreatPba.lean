/- Part 27. -/
import Derived.Test.YtiolobmgibdfmaaGreatPaz
set_option linter.all false
section
namespace Go.Proofs.YtiolobmgibdfmaaGreat
open Go Go.Pal Go.Pal.Vo Go.Conc View
open Go.Proofs.Tryz
set_option maxHeartbeats 4000000
set_option maxRecDepth 20000
def mareW:List Wd:=[⟨0,2,1,0⟩,⟨1,0,0,0⟩,⟨2,5,0,1⟩]
def moreW:List Wd:=[⟨0,2,1,0⟩,⟨1,0,0,0⟩,⟨2,5,0,1⟩,⟨0,0,0,0⟩]
def itselfW:List Wd:=[⟨0,2,0,0⟩]
def eachW:List Wd:=[⟨0,3,1,0⟩,⟨1,3,0,0⟩]
section
variable{mn:Who}{v:View}
theorem mare_x:CallsB prog mn 73 #[] (RetB fun r β'=>OwnV β' r 3 1 mareW) [] v:=by
 refine A0f tab func73 Z nB (args:=[]) ?_
 repeat (first|refine st ?_|refine qb fun bx=>?_)
 refine Q_op fun ho=>A0s ho bod74 Z Z Z Z Z B1o ?_
 clear ho
 refine Q_op fun ho=>A0s ho bod74 Z Z Z Z Z B1o ?_
 clear ho
 refine Q_op fun ho=>A0s ho bod74 Z Z Z Z Z B1o ?_
 clear ho
 refine Q_op fun ho=>A3x tab ho Z Z Z Z Z Z Z Z Z (fun b c hS=>?_)
 clear ho
 repeat (first|refine st ?_|refine qb fun bx=>?_)
 refine A0l tab (xs:=[boV 3 1 (some ⟨b,0,none⟩) 3 3]) [(b,c,26)] (by exact .cell rfl ib rfl .nil) (Back.here cntL) ?_
 exact⟨_,_,Z,hS⟩
theorem itself_x:CallsB prog mn 76 #[] (RetB fun r β'=>OwnV β' r 1 0 itselfW) [] v:=by
 refine A0f tab func76 Z nB (args:=[]) ?_
 repeat (first|refine st ?_|refine qb fun bx=>?_)
 refine Q_op fun ho=>A0s ho bod74 Z Z Z Z Z B1o ?_
 clear ho
 refine Q_op fun ho=>A3x tab ho Z Z Z Z Z Z Z Z Z (fun b c hS=>?_)
 clear ho
 repeat (first|refine st ?_|refine qb fun bx=>?_)
 refine A0l tab (xs:=[boV 1 0 (some ⟨b,0,none⟩) 1 1]) [(b,c,26)] (by exact .cell rfl ib rfl .nil) (Back.here cntL) ?_
 exact⟨_,_,Z,hS⟩
theorem each_x:CallsB prog mn 77 #[] (RetB fun r β'=>OwnV β' r 2 0 eachW) [] v:=by
 refine A0f tab func77 Z nB (args:=[]) ?_
 repeat (first|refine st ?_|refine qb fun bx=>?_)
 refine Q_op fun ho=>A0s ho bod74 Z Z Z Z Z B1o ?_
 clear ho
 refine Q_op fun ho=>A0s ho bod74 Z Z Z Z Z B1o ?_
 clear ho
 refine Q_op fun ho=>A3x tab ho Z Z Z Z Z Z Z Z Z (fun b c hS=>?_)
 clear ho
 repeat (first|refine st ?_|refine qb fun bx=>?_)
 refine A0l tab (xs:=[boV 2 0 (some ⟨b,0,none⟩) 2 2]) [(b,c,26)] (by exact .cell rfl ib rfl .nil) (Back.here cntL) ?_
 exact⟨_,_,Z,hS⟩
theorem more_x:CallsB prog mn 75 #[] (RetB fun r β'=>OwnV β' r 3 1 moreW) [] v:=by
 refine A0f tab func75 Z nB (args:=[]) ?_
 repeat (first|refine st ?_|refine qb fun bx=>?_)
 refine Q_op fun ho=>A0i [] _ ho bod73 Z Z Z Z Z A1n (mare_x) (fun x β' hR=>?_)
 clear ho
 obtain⟨a,cap,rfl,hS⟩:=hR
 refine A0w (β1:=β') (β2:=_) (fun _=>rfl) (fun hb=>?_)
 have hws:WdsAt (v.union (A0e β')) a mareW:=A2m hb hS
 refine Q_op fun ho=>A0s ho bod74 Z Z Z Z Z B1o ?_
 clear ho
 rename A0j=>βm
 refine Q_op fun ho=>A0i [] _ ho bod64 Z Z Z Z Z A1n (with_x (x:=⟨0,0,0,0⟩) (hws.le (A0b _ _)) dM) (fun x β' hR=>?_)
 clear ho
 obtain⟨a',cap',rfl,hS'⟩:=hR
 repeat (first|refine st ?_|refine qb fun bx=>?_)
 refine A0l tab (xs:=[boV 3 1 a' 4 cap']) β' (by exact .cell rfl ib rfl .nil) (Back.forget hb (Back.here cntL)) ?_
 exact⟨_,_,Z,hS'⟩
abbrev A5u(a b:Int):Value:=.agg #[.int .i64 a,.int .i64 b]
theorem i64_eq{d:Nat}{x y:Int}{K:Bool→View→Prop}{E:Value→View→Prop}(h:K (x==y) v):SemX prog (Op.equalIn (d+1) 3 (.int .i64 x) (.int .i64 y)) K E v:=by
 unfold Op.equalIn
 rw [A0d,A1r tab (t:=3) rfl]
 simp only [if_true]
 exact h
theorem B2b{cs:Array Value}{off:Nat}{x:Value}{K:Value→View→Prop}{E:Value→View→Prop}(hx:cs[off]?=some x)(h:K x v):SemX prog (part 3 cs off) K E v:=by
 unfold part
 simp only [A0d]
 rw [B1y (tab.und_ok 3 _ Z)]
 simp only [aggOf,Bool.false_eq_true,if_false,hx]
 exact h
theorem range_eq{a b c d:Int}{K:Bool→View→Prop}{E:Value→View→Prop}(h:K (decide (a=c∧b=d)) v):SemX prog (Op.equal 42 (A5u a b) (A5u c d)) K E v:=by
 have hs:prog.stoodInHeld 42=false:=by kernel_rfl
 show SemX prog (Op.equalIn (9998+1+1) 42 _ _) K E v
 unfold Op.equalIn
 rw [A0d,A1r tab (t:=42) rfl]
 simp only [A0d,A3v,hs,Bool.false_eq_true,if_false,List.forIn_toArray,List.forIn_cons,List.forIn_nil]
 rw [if_pos dM]
 simp only [A0d]
 refine B2b (x:=.int .i64 a) Z ?_
 refine B2b (x:=.int .i64 c) Z ?_
 refine i64_eq ?_
 by_cases h1:a=c
 ·rw [show(a==c)=true from by simp [h1]]
  simp only [Bool.not_true,Bool.false_eq_true,if_false,A0m,A0d]
  rw [if_pos dM]
  simp only [A0d]
  refine B2b (x:=.int .i64 b) Z ?_
  refine B2b (x:=.int .i64 d) Z ?_
  refine i64_eq ?_
  by_cases h2:b=d
  ·rw [show(b==d)=true from by simp [h2]]
   rw [show decide (a=c∧b=d)=true from decide_eq_true ⟨h1,h2⟩]at h
   exact h
  ·rw [show(b==d)=false from by simp [h2]]
   rw [show decide (a=c∧b=d)=false from decide_eq_false fun e=>h2 e.2]at h
   exact h
 ·rw [show(a==c)=false from by simp [h1]]
  rw [show decide (a=c∧b=d)=false from decide_eq_false fun e=>h1 e.1]at h
  exact h
end
section
variable{mn:Who}{rd:Option Nat}{n:Nat}{Q:Exit→St→View→Prop}{ds:List Deferred}{ρ:Regs}{β:A0j}{v:View}{K:St→View→Prop}
 {ops:Array Oper}{i:Nat}{d:Nat}{ty:TypeId}{pos:String}{af:Array Edge}{gu:Option (Nat×Bool)}
theorem A_eqlR{y z:Operand}{t2:TypeId}{a b c e:Int}(ho:ops[i]?=some ⟨some d,.binOp .eql 42 y z t2,ty,pos,af,gu⟩)(hw:A0x ops gu ρ=some true)(hn:Nat.blt d n=true)(hy:ρ.val y=some (A5u a b))(hz:ρ.val z=some (A5u c e))
  (h:K ⟨ds,(d,.bool (decide (a=c∧b=e)))::ρ,β⟩ v):XOp prog mn rd n ops i Q K ⟨ds,ρ,β⟩ v:=by
 refine A2x ho (A0p hw) (.inr Z) hn fun ev hev hbk=>?_
 have hg:prog.eqGuardType prog.depth 42=false:=by kernel_rfl
 simp only [execOp,A0d,hev _ _ hy,hev _ _ hz,eqGuard,binOp,A3v,hg]
 simp only [Bool.not_true,Bool.false_eq_true,if_false,A0d]
 rw [A3v,A3v,hg]
 simp only [Bool.not_true,Bool.not_false,Bool.false_eq_true,if_false,if_true,A0m,A0d]
 refine range_eq ?_
 exact⟨β,v,⟨hbk,Le.refl _⟩,h⟩
end
theorem mare_known:A2h 3 1 mareW=0∧(A0g 3 1 mareW).length=2∧errF 3 1 mareW ⟨0,6,2,0⟩=0∧verd (A0g 3 1 mareW) (A4h 3 ⟨0,6,2,0⟩)=1∧errWr 3 1 mareW [0,1] [0]=0∧B4l 3 mareW [0,1] [0]=[0,2]:=by decide +kernel
theorem more_known:errS 3 1 moreW=0∧(wlsE 3 1 moreW).headD (0,0)=(4,0)∧errA 3 1 moreW=0∧(askS (A0g 3 1 moreW) 3).v=1∧(askS (A0g 3 1 moreW) 3).n=1∧B4r 3 1 moreW 0=0∧B4n 3 1 moreW 0=[1]:=by decide +kernel
theorem each_known:errS 2 0 eachW=0∧wlsE 2 0 eachW=[(3,0),(0,0)]∧errN 2 2 0 eachW 0=0∧verd (someL true (A0g 2 0 eachW)) (fun w=>bit w.1 0)=1:=by decide +kernel
theorem itself_known:A2h 1 0 itselfW=0∧B2w 1 0 itselfW=[0]:=by decide +kernel
section
variable{v:View}{wa:Option Addr}{wc:Nat}
def ReadV(v:View)(β:A0j)(r:Value)(P F:Int)(ws:List Wd):Prop:=∃a cap,r=boV P F a ws.length cap∧ws.length≤cap∧WdsAt (v.union (A0e β)) a ws
theorem ReadV.zero{β:A0j}:ReadV v β (.agg #[.int .i64 0,.int .i64 0,.slice none 0 0]) 0 0 []:=⟨none,0,Z,Nat.le_refl _,.inl Z⟩
end
structure Bg where
 b:Nat
 a:Option Addr
 cap:Nat
 ns:List Int
def Bg.On(g:Bg)(n:Nat)(β:A0j):Prop:=∃(t:Nat) (sx:Int),t≤n∧β=[(g.b,#[.slice g.a g.ns.length g.cap,.int .i64 t,.int .u64 sx],90)]
def Bg.ok(g:Bg)(v:View):Prop:=RowAt v g.a (g.ns.map (.int .i64))
def Bg.ptr(g:Bg):Value:=.pointer (some ⟨g.b,0,none⟩)
theorem Bg.ok.le{g:Bg}{u v:View}(h:g.ok u)(hl:u.Le v):g.ok v:=RowAt.le h hl
theorem Bg.On.le{g:Bg}{n m:Nat}{β:A0j}(h:g.On n β)(hl:n≤m):g.On m β:=by
 obtain⟨t,sx,ht,he⟩:=h
 exact⟨t,sx,Nat.le_trans ht hl,he⟩
theorem wrapu_nonneg(x:Int):0≤IntKind.u64.wrap x∧IntKind.u64.wrap x<2^64:=by
 simp only [IntKind.wrap,IntKind.signed,IntKind.bits]
 simp
 omega
theorem fdiv_range{x:Int}(h:0≤x∧x<2^64)(k:Nat):0≤x.fdiv (2 ^ k)∧x.fdiv (2 ^ k)<2^64:=by
 have hp:(0:Int)<2 ^ k:=Int.pow_pos dM
 rw [Int.fdiv_eq_ediv_of_nonneg _ (Int.le_of_lt hp)]
 refine⟨Int.ediv_nonneg h.1 (Int.le_of_lt hp),Int.lt_of_le_of_lt ?_ h.2⟩
 exact Int.ediv_le_self _ h.1
theorem wrapu{x:Int}(h0:0≤x)(h1:x<2^64):IntKind.u64.wrap x=x:=by
 simp only [IntKind.wrap,IntKind.signed,IntKind.bits]
 simp
 omega
theorem A0k{bin rest:A0j}:∀p,Pal.cnt p (bin++rest)=Pal.cnt p (bin++rest):=fun _=>rfl
theorem A0u{bin rest:A0j}:∀p,Pal.cnt p (List.append bin rest)=Pal.cnt p (bin++rest):=fun _=>rfl
theorem A1e{bin:A0j}:∀p,Pal.cnt p bin=Pal.cnt p (bin++[]):=fun p=>by rw [List.append_nil]
theorem A0y{x:Nat×Array Value×TypeId}{β bin rest:A0j}(h:∀p,Pal.cnt p β=Pal.cnt p (bin++rest)):∀p,Pal.cnt p (x::β)=Pal.cnt p (bin++x::rest):=fun p=>by
 have:=h p
 simp only [A2g,B2f]at this⊢
 omega
section
variable{P:Program}{mn:Who}{rd:Option Nat}{n:Nat}{ops:Array Oper}{i:Nat}{l:List Oper}{c:Code}{Q:Exit→St→View→Prop}{ds:List Deferred}{ρ:Regs}{β:A0j}{v:View}
theorem A2f{bin rest:A0j}(hp:∀p,Pal.cnt p β=Pal.cnt p (bin++rest))(h:XR P mn rd n ops i l Q ⟨ds,ρ,bin++rest⟩ v):XR P mn rd n ops i l Q ⟨ds,ρ,β⟩ v:=fun hd a hf hb=>by
 obtain⟨hb1,he⟩:=A8s (A4u hp) hb
 rw [←he]
 exact h hd a ⟨hf.size,hf.defers,hf.get⟩ hb1
theorem XC_front{bin rest:A0j}(hp:∀p,Pal.cnt p β=Pal.cnt p (bin++rest))(h:XC P mn rd n c Q ⟨ds,ρ,bin++rest⟩ v):XC P mn rd n c Q ⟨ds,ρ,β⟩ v:=fun a hf hb=>by
 obtain⟨hb1,he⟩:=A8s (A4u hp) hb
 rw [←he]
 exact h a ⟨hf.size,hf.defers,hf.get⟩ hb1
end
section
variable{mn:Who}{v:View}
theorem draw_x{g:Bg}{N:Nat}{β:A0j}(hr:g.ok v)(hB:g.On N β)(hN:N<2^62) :
  CallsB prog mn 108 #[g.ptr] (RetB fun r β'=>(∃x,r = .int .u64 x∧0≤x∧x<2^64)∧g.On (N+1) β') β v:=by
 obtain⟨b,a,cap,ns⟩:=g
 obtain⟨t,sx,ht,rfl⟩:=hB
 simp only [Bg.ok]at hr
 refine A0f tab func108 Z nB (args:=[_]) ?_
 repeat refine sr ?_
 refine A6f (fun σ u=>u=v∧∃x,σ=⟨[],[(3,.int .u64 x),(0,.pointer (some ⟨b,0,none⟩))],[(b,#[.slice a ns.length cap,.int .i64 (t+1:Nat),.int .u64 sx],90)]⟩) ?_ ?_
 ·rintro σ u ⟨rfl,x,rfl⟩
  repeat refine sr ?_
  refine A2u [13] [0,1,2,3,4,5,6,7,8,9,10,11,12,13] A1w Z kR ?_
  repeat refine sr ?_
  refine A0l tab _ (by exact .tmp rfl .nil) (Back.here fun p=>Nat.le_refl _) ?_
  refine⟨⟨_,Z,?_⟩,_,_,Nat.succ_le_succ ht,Z⟩
  exact fdiv_range (wrapu_nonneg _) 11
 ·repeat refine st ?_
  refine A0t Z (fun h=>?_) (fun h=>?_)
  ·have h':t<ns.length:=by have:=of_decide_eq_true h;simp only at this;omega
   obtain⟨bb,off,p,c,e,f,rfl,hv,hc⟩:=hr.ints h'
   repeat refine st ?_
   refine A2i tab t Z Z Z Z oM Z Z h' ?_
   refine A9d tab Z Z Z hv (A1b tab Z Z Z (by rw [Nat.mul_one];exact hc _ h')) ?_
   repeat refine st ?_
   exact A0c ⟨_,_,⟨Z,_,Z⟩,⟨Z,⟨Z,Z,trivial⟩,fun p=>Nat.le_refl _⟩,Le.refl _⟩
  ·repeat refine st ?_
   exact A0c ⟨_,_,⟨Z,_,Z⟩,⟨Z,⟨Z,Z,trivial⟩,fun p=>Nat.le_refl _⟩,Le.refl _⟩
theorem A4y{g:Bg}{N:Nat}{β:A0j}(hr:g.ok v)(hB:g.On N β)(hN:N<2^62)(n:Nat)(hn:n<2^62) :
  CallsB prog mn 43 #[g.ptr,.int .i64 n] (RetB fun r β'=>(∃x:Nat,r = .int .i64 x∧x≤n)∧g.On (N+1) β') β v:=by
 refine A0f tab func43 Z nB (args:=[_,_]) ?_
 repeat refine st ?_
 refine Q_op fun ho=>A0i β [] ho bod108 Z Z Z Z Z cntA (draw_x (hr.le (A0b _ _)) hB hN) (fun x β' hR=>?_)
 obtain⟨⟨x,rfl,hx0,hx1⟩,hB⟩:=hR
 repeat refine st ?_
 refine A0t Z (fun h=>?_) (fun h=>?_)
 ·repeat refine st ?_
  refine A0l tab β' (by exact .tmp rfl .nil) (Back.here cntL) ?_
  exact⟨⟨0,Z,Nat.zero_le _⟩,hB⟩
 ·repeat refine st ?_
  have h0:IntKind.u64.wrap (n:Int)=n:=wrapu oM oM
  have hnn:IntKind.u64.wrap (IntKind.u64.wrap (n:Int)+1)=n+1:=by rw [h0,wrapu oM oM]
  refine Q_bin tab (.int .u64 (x.tmod (n+1))) Z Z Z Z (by simp only [A6l,hnn,if_true];rw [if_neg oM]) ?_
  repeat refine st ?_
  refine A0l tab β' (by exact .tmp rfl .nil) (Back.here cntL) ?_
  have h1:=Int.tmod_lt_of_pos x (show(0:Int)<n+1 by omega)
  have h2:=Int.tmod_nonneg (n+1:Int) hx0
  refine⟨⟨(x.tmod (n+1)).toNat,?_,oM⟩,hB⟩
  show Value.int .i64 (IntKind.i64.wrap _)=_
  rw [A4k oM oM]
  congr 1
  omega
theorem among_n{g:Bg}{N:Nat}{β:A0j}(hr:g.ok v)(hB:g.On N β)(hN:N<2^62)(n m:Nat)(hnm:n≤m)(hn:m<2^62) :
  CallsB prog mn 44 #[g.ptr,.int .i64 n,.int .i64 m] (RetB fun r β'=>(∃x:Nat,r = .int .i64 x∧n≤x∧x≤m)∧g.On (N+1) β') β v:=by
 refine A0f tab func44 Z nB (args:=[_,_,_]) ?_
 repeat refine st ?_
 refine Q_op fun ho=>A0i β [] ho A8c Z Z Z Z Z cntA (by rw [show(m:Int)-n=((m-n:Nat):Int) by omega];exact A4y (hr.le (A0b _ _)) hB hN (m-n) oM) (fun x β' hR=>?_)
 obtain⟨⟨x,rfl,hx⟩,hB⟩:=hR
 repeat refine st ?_
 refine A0l tab β' (by exact .tmp rfl .nil) (Back.here cntL) ?_
 exact⟨⟨n+x,Z,oM,oM⟩,hB⟩
theorem B3b{g:Bg}{N:Nat}{β:A0j}(hr:g.ok v)(hB:g.On N β)(hN:N<2^62)(n:Nat)(hn:1≤n∧n<2^62) :
  CallsB prog mn 45 #[g.ptr,.int .i64 n] (RetB fun r β'=>(∃x:Bool,r = .bool x)∧g.On (N+1) β') β v:=by
 refine A0f tab func45 Z nB (args:=[_,_]) ?_
 repeat refine st ?_
 refine Q_op fun ho=>A0i β [] ho A8c Z Z Z Z Z cntA (by rw [show(n:Int)-1=((n-1:Nat):Int) by omega];exact A4y (hr.le (A0b _ _)) hB hN (n-1) oM) (fun x β' hR=>?_)
 obtain⟨⟨x,rfl,hx⟩,hB⟩:=hR
 repeat refine st ?_
 refine A0l tab β' (by exact .tmp rfl .nil) (Back.here cntL) ?_
 exact⟨⟨_,Z⟩,hB⟩
theorem pick_x{g:Bg}{N:Nat}{β:A0j}(hr:g.ok v)(hB:g.On N β)(hN:N<2^62){a:Option Addr}{cap:Nat}{xs:List Int}(hx:RowAt v a (xs.map (.int .i64)))(hxs:xs.length<2^62)(hne:xs≠[]) :
  CallsB prog mn 115 #[g.ptr,.slice a xs.length cap] (RetB fun r β'=>(∃x,x∈xs∧r = .int .i64 x)∧g.On (N+1) β') β v:=by
 refine A0f tab func115 Z nB (args:=[_,_]) ?_
 have hpos:0<xs.length:=List.length_pos_iff.2 hne
 obtain⟨bb,off,p,c,e,f,rfl,hv,hc⟩:=hx.ints hpos
 repeat refine st ?_
 refine Q_op fun ho=>A0i β [] ho A8c Z Z Z Z Z cntA (by rw [show(xs.length:Int)-1=((xs.length-1:Nat):Int) by omega];exact A4y (hr.le (A0b _ _)) hB hN (xs.length-1) oM) (fun x β' hR=>?_)
 obtain⟨⟨x,rfl,hx'⟩,hB⟩:=hR
 repeat refine st ?_
 have hlt:x<xs.length:=oM
 refine A2t tab x Z Z Z Z Z Z Z hlt ?_
 refine A2p tab Z Z Z hv (A1b tab Z Z Z (by rw [Nat.mul_one];exact hc _ hlt)) ?_
 repeat refine st ?_
 refine A0l tab β' (by exact .tmp rfl .nil) (Back.here cntL) ?_
 exact⟨⟨_,List.getElem_mem _,Z⟩,hB⟩
theorem newBag_x{a:Option Addr}{cap:Nat}{ns:List Int} :
  CallsB prog mn 23 #[.slice a ns.length cap] (RetB fun r β'=>∃b,r=(Bg.mk b a cap ns).ptr∧(Bg.mk b a cap ns).On 0 β') [] v:=by
 refine A0f tab func23 Z nB (args:=[_]) ?_
 repeat (first|refine st ?_|refine qb fun bx=>?_)
 refine A0l tab _ (by exact .tmp rfl .nil) (Back.here fun p=>Nat.le_refl _) ?_
 exact⟨_,Z,_,_,Nat.le_refl _,Z⟩
end
def KindOk(P F:Nat)(k:Int):Prop:=(k=2∨k=3∨k=6)∨(0<F∧(k=0∨k=1∨k=4))∨(1<P∧k=5)
section
variable{mn:Who}{v:View}
theorem A2o{P F:Nat}{w k x y:Int}(hw:0≤w∧w≤(P:Int)-1)
  (h:((k=0∨k=1)∧0≤x∧x≤(F:Int)-1∧y=0)∨((k=2∨k=3)∧0≤x∧x≤(P:Int)-1∧y=0)∨(k=4∧0≤x∧x≤(F:Int)-1∧0≤y∧y≤(F:Int)-1)∨
   (k=5∧0≤x∧x<y∧y≤(P:Int)-1)∨(k=6∧0≤x∧x≤(P:Int)∧y=0)):A2k P F ⟨w,k,x,y⟩=0:=by
 unfold A2k
 rw [if_neg (not_not_intro hw)]
 dsimp only
 rcases h with ⟨hk,h1,h2,rfl⟩|⟨hk,h1,h2,rfl⟩|⟨rfl,h1,h2,h3,h4⟩|⟨rfl,h1,h2,h3⟩|⟨rfl,h1,h2,rfl⟩
 ·rw [if_neg oM,if_pos oM,if_neg oM,if_pos rfl]
 ·rw [if_neg oM,if_neg oM,if_pos oM,if_neg oM,if_pos rfl]
 ·rw [if_neg oM,if_neg oM,if_neg oM,if_pos Z,if_neg oM]
 ·rw [if_neg oM,if_neg oM,if_neg oM,if_neg oM,if_pos Z,if_neg oM,if_pos h2]
 ·rw [if_neg oM,if_neg oM,if_neg oM,if_neg oM,if_neg oM,if_neg oM,if_pos rfl]
theorem wordOf_x{g:Bg}{N:Nat}{β:A0j}{P F n cap:Nat}{wa a1 a2:Option Addr}{c1 c2:Nat}{tr so:List Int}{to:Bool}(hr:g.ok v)(hB:g.On N β)(hN:N+10<2^62)(hP1:1≤P)(hP:P≤4)(hF:F≤3)
    (htr:RowAt v a1 (tr.map (.int .i64)))(hso:RowAt v a2 (so.map (.int .i64)))(hl1:tr.length≤P)(hl2:so.length<2^30) :
    CallsB prog mn 54 #[g.ptr,boV P F wa n cap,.agg #[.slice a1 tr.length c1,.slice a2 so.length c2],.bool to]
      (RetB fun r β'=>(∃x:Wd,r=wdV x∧A2k P F x=0)∧g.On (N+10) β') β v:=by
  refine A0f tab func54 Z nB (args:=[_,_,_,_]) ?_
  repeat (first|refine sr ?_|refine qb fun bx=>?_)
  rename_i b5 b6
  refine A2f (bin:=β) (by repeat (first|(with_reducible exact A0k)|(with_reducible exact A0u)|(with_reducible exact A1e)|(with_reducible apply A0y))) ?_
  refine Q_op fun ho=>A0i β _ ho A8c Z Z Z Z Z A0k (by rw [show(P:Int)-1=((P-1:Nat):Int) by omega];exact A4y (hr.le (A0b _ _)) hB oM (P-1) oM) (fun x β' hR=>?_)
  clear ho
  clear hB
  rename A0j=>β1
  obtain⟨⟨w,rfl,hw⟩,hB⟩:=hR
  repeat (first|refine sr ?_|refine qb fun bx=>?_)
  refine Q_op fun ho=>A3x tab ho Z Z Z Z Z Z Z Z Z (fun b c hL=>?_)
  clear ho
  refine A0w (β1:=[(b,c,3)]) (β2:=_) (fun _=>rfl) (fun hb=>?_)
  have hrow:RowAt (v.union (A0e [(b,c,3)])) (some ⟨b,0,none⟩) (([2,2,3,6]:List Int).map (.int .i64)):=A2m hb hL
  have hu:v.Le (v.union (A0e [(b,c,3)])):=A0b _ _
  generalize v.union (A0e [(b,c,3)])=u at hrow hu⊢
  clear hb hL
  repeat (first|refine sr ?_|refine qb fun bx=>?_)
  refine A2f (bin:=β1) (by repeat (first|(with_reducible exact A0k)|(with_reducible exact A0u)|(with_reducible exact A1e)|(with_reducible apply A0y))) ?_
  refine Q_op fun ho=>A0i β1 _ ho bod115 Z Z Z Z Z A0k (pick_x (xs:=[2,2,3,6]) ((hr.le hu).le (A0b _ _)) hB oM (RowAt.le hrow (A0b _ _)) dM dM) (fun x β' hR=>?_)
  clear ho
  clear hB hrow
  rename A0j=>β2
  obtain⟨⟨k,hk,rfl⟩,hB⟩:=hR
  repeat (first|refine sr ?_|refine qb fun bx=>?_)
  rename_i b8
  have hk:KindOk P F k:=.inl (by simp only [List.mem_cons,List.not_mem_nil,or_false]at hk;omega)
  refine A6f (fun σ u=>v.Le u∧∃(k:Int) (β3:A0j),KindOk P F k∧g.On (N+4) β3∧σ=⟨[],[(9,.pointer (some ⟨bx,0,none⟩)),(8,.pointer (some ⟨b8,0,none⟩)),(6,.pointer (some ⟨b6,0,none⟩)),(5,.pointer (some ⟨b5,0,none⟩)),(3,.bool to),(0,g.ptr)],(bx,#[.int .i64 w,.int .i64 k,.int .i64 0,.int .i64 0],26)::(b5,#[.int .i64 P,.int .i64 F,.slice wa n cap],24)::(b6,#[.slice a1 tr.length c1,.slice a2 so.length c2],38)::(b8,#[.int .i64 0,.int .i64 0,.int .i64 0,.int .i64 0],26)::β3⟩) ?_ ?_
  · rintro σ u ⟨hu,k,β3,hk,hB,rfl⟩
    have htr':=htr.le hu
    have hso':=hso.le hu
    rcases hk with (rfl|rfl|rfl)|⟨hF0,rfl|rfl|rfl⟩|⟨hP0,rfl⟩
    · repeat (first|refine st ?_|refine qb fun bx=>?_)
      refine A2f (bin:=β3) (by repeat (first|(with_reducible exact A0k)|(with_reducible exact A0u)|(with_reducible exact A1e)|(with_reducible apply A0y))) ?_
      refine Q_op fun ho=>A0i β3 _ ho A8c Z Z Z Z Z A0k (by rw [show(P:Int)-1=((P-1:Nat):Int) by omega];exact A4y ((hr.le hu).le (A0b _ _)) hB oM (P-1) oM) (fun x β' hR=>?_)
      clear ho
      clear hB
      rename A0j=>β4
      obtain⟨⟨x,rfl,hx⟩,hB⟩:=hR
      cases to
      · repeat (first|refine st ?_|refine qb fun bx=>?_)
        exact A0l tab (xs:=[_]) β4 (by exact .cell rfl ib rfl .nil) (Back.le hu cntL) ⟨⟨⟨w,2,x,0⟩,Z,A2o oM oM⟩,hB.le oM⟩
      · repeat (first|refine st ?_|refine qb fun bx=>?_)
        refine Q_op fun ho=>A0s ho bod99 Z Z Z Z Z (B2p htr' oM) ?_
        clear ho
        repeat (first|refine st ?_|refine qb fun bx=>?_)
        refine A0t Z (fun h=>?_) (fun h=>?_)
        · clear h
          repeat (first|refine st ?_|refine qb fun bx=>?_)
          exact A0l tab (xs:=[_]) β4 (by exact .cell rfl ib rfl .nil) (Back.le hu cntL) ⟨⟨⟨w,3,x,0⟩,Z,A2o oM oM⟩,hB.le oM⟩
        · clear h
          repeat (first|refine st ?_|refine qb fun bx=>?_)
          exact A0l tab (xs:=[_]) β4 (by exact .cell rfl ib rfl .nil) (Back.le hu cntL) ⟨⟨⟨w,2,x,0⟩,Z,A2o oM oM⟩,hB.le oM⟩
    · repeat (first|refine st ?_|refine qb fun bx=>?_)
      refine A2f (bin:=β3) (by repeat (first|(with_reducible exact A0k)|(with_reducible exact A0u)|(with_reducible exact A1e)|(with_reducible apply A0y))) ?_
      refine Q_op fun ho=>A0i β3 _ ho A8c Z Z Z Z Z A0k (by rw [show(P:Int)-1=((P-1:Nat):Int) by omega];exact A4y ((hr.le hu).le (A0b _ _)) hB oM (P-1) oM) (fun x β' hR=>?_)
      clear ho
      clear hB
      rename A0j=>β4
      obtain⟨⟨x,rfl,hx⟩,hB⟩:=hR
      cases to
      · repeat (first|refine st ?_|refine qb fun bx=>?_)
        exact A0l tab (xs:=[_]) β4 (by exact .cell rfl ib rfl .nil) (Back.le hu cntL) ⟨⟨⟨w,3,x,0⟩,Z,A2o oM oM⟩,hB.le oM⟩
      · repeat (first|refine st ?_|refine qb fun bx=>?_)
        refine Q_op fun ho=>A0s ho bod99 Z Z Z Z Z (B2p htr' oM) ?_
        clear ho
        repeat (first|refine st ?_|refine qb fun bx=>?_)
        refine A0t Z (fun h=>?_) (fun h=>?_)
        · clear h
          repeat (first|refine st ?_|refine qb fun bx=>?_)
          exact A0l tab (xs:=[_]) β4 (by exact .cell rfl ib rfl .nil) (Back.le hu cntL) ⟨⟨⟨w,3,x,0⟩,Z,A2o oM oM⟩,hB.le oM⟩
        · clear h
          repeat (first|refine st ?_|refine qb fun bx=>?_)
          exact A0l tab (xs:=[_]) β4 (by exact .cell rfl ib rfl .nil) (Back.le hu cntL) ⟨⟨⟨w,2,x,0⟩,Z,A2o oM oM⟩,hB.le oM⟩
    · repeat (first|refine st ?_|refine qb fun bx=>?_)
      refine A2f (bin:=β3) (by repeat (first|(with_reducible exact A0k)|(with_reducible exact A0u)|(with_reducible exact A1e)|(with_reducible apply A0y))) ?_
      refine Q_op fun ho=>A0i β3 _ ho A8c Z Z Z Z Z A0k (A4y ((hr.le hu).le (A0b _ _)) hB oM P oM) (fun x β' hR=>?_)
      clear ho
      clear hB
      rename A0j=>β4
      obtain⟨⟨x,rfl,hx⟩,hB⟩:=hR
      repeat (first|refine st ?_|refine qb fun bx=>?_)
      refine Q_op fun ho=>A3x tab ho Z Z Z Z Z Z Z Z Z (fun b c hL=>?_)
      clear ho
      refine A0w (β1:=[(b,c,3)]) (β2:=_) (fun _=>rfl) (fun hb=>?_)
      have hrow:=A2m (cs:=([0,1,2,(x:Int)]:List Int).map (.int .i64)) hb hL
      replace hu:=hu.trans (A0b u (A0e [(b,c,3)]))
      generalize u.union (A0e [(b,c,3)])=u at hrow hu⊢
      clear hb hL
      repeat (first|refine st ?_|refine qb fun bx=>?_)
      refine A2f (bin:=β4) (by repeat (first|(with_reducible exact A0k)|(with_reducible exact A0u)|(with_reducible exact A1e)|(with_reducible apply A0y))) ?_
      refine Q_op fun ho=>A0i β4 _ ho bod115 Z Z Z Z Z A0k (pick_x (xs:=[0,1,2,(x:Int)]) ((hr.le hu).le (A0b _ _)) hB oM (RowAt.le hrow (A0b _ _)) sM sM) (fun x β' hR=>?_)
      clear ho
      clear hB hrow
      rename A0j=>β5
      obtain⟨⟨z,hz,rfl⟩,hB⟩:=hR
      have hz:0≤z:=by simp only [List.mem_cons,List.not_mem_nil,or_false]at hz;omega
      have hm:0≤(if(P:Int)<z then(P:Int)else z)∧(if(P:Int)<z then(P:Int)else z)≤P:=by split<;>omega
      cases to
      · repeat (first|refine st ?_|refine qb fun bx=>?_)
        exact A0l tab (xs:=[_]) β5 (by exact .cell rfl ib rfl .nil) (Back.le hu cntL) ⟨⟨⟨w,6,if(P:Int)<z then(P:Int)else z,0⟩,Z,A2o oM (.inr (.inr (.inr (.inr ⟨Z,hm.1,hm.2,Z⟩))))⟩,hB.le oM⟩
      · repeat (first|refine st ?_|refine qb fun bx=>?_)
        refine A2f (bin:=β5) (by repeat (first|(with_reducible exact A0k)|(with_reducible exact A0u)|(with_reducible exact A1e)|(with_reducible apply A0y))) ?_
        refine Q_op fun ho=>A0i β5 _ ho A8c Z Z Z Z Z A0k (by rw [show(P:Int)-(tr.length:Nat)=((P-tr.length:Nat):Int) by omega];exact A4y ((hr.le hu).le (A0b _ _)) hB oM (P-tr.length) oM) (fun x β' hR=>?_)
        clear ho
        clear hB
        rename A0j=>β6
        obtain⟨⟨y,rfl,hy⟩,hB⟩:=hR
        repeat (first|refine st ?_|refine qb fun bx=>?_)
        exact A0l tab (xs:=[_]) β6 (by exact .cell rfl ib rfl .nil) (Back.le hu cntL) ⟨⟨⟨w,6,y,0⟩,Z,A2o oM oM⟩,hB.le oM⟩
    · repeat (first|refine st ?_|refine qb fun bx=>?_)
      refine A2f (bin:=β3) (by repeat (first|(with_reducible exact A0k)|(with_reducible exact A0u)|(with_reducible exact A1e)|(with_reducible apply A0y))) ?_
      refine Q_op fun ho=>A0i β3 _ ho A8c Z Z Z Z Z A0k (by rw [show(F:Int)-1=((F-1:Nat):Int) by omega];exact A4y ((hr.le hu).le (A0b _ _)) hB oM (F-1) oM) (fun x β' hR=>?_)
      clear ho
      clear hB
      rename A0j=>β4
      obtain⟨⟨x,rfl,hx⟩,hB⟩:=hR
      cases to
      · repeat (first|refine st ?_|refine qb fun bx=>?_)
        exact A0l tab (xs:=[_]) β4 (by exact .cell rfl ib rfl .nil) (Back.le hu cntL) ⟨⟨⟨w,0,x,0⟩,Z,A2o oM oM⟩,hB.le oM⟩
      · repeat (first|refine st ?_|refine qb fun bx=>?_)
        refine Q_op fun ho=>A0s ho bod99 Z Z Z Z Z (B2p hso' oM) ?_
        clear ho
        repeat (first|refine st ?_|refine qb fun bx=>?_)
        refine A0t Z (fun h=>?_) (fun h=>?_)
        · clear h
          repeat (first|refine st ?_|refine qb fun bx=>?_)
          exact A0l tab (xs:=[_]) β4 (by exact .cell rfl ib rfl .nil) (Back.le hu cntL) ⟨⟨⟨w,0,x,0⟩,Z,A2o oM oM⟩,hB.le oM⟩
        · clear h
          repeat (first|refine st ?_|refine qb fun bx=>?_)
          exact A0l tab (xs:=[_]) β4 (by exact .cell rfl ib rfl .nil) (Back.le hu cntL) ⟨⟨⟨w,1,x,0⟩,Z,A2o oM oM⟩,hB.le oM⟩
    · repeat (first|refine st ?_|refine qb fun bx=>?_)
      refine A2f (bin:=β3) (by repeat (first|(with_reducible exact A0k)|(with_reducible exact A0u)|(with_reducible exact A1e)|(with_reducible apply A0y))) ?_
      refine Q_op fun ho=>A0i β3 _ ho A8c Z Z Z Z Z A0k (by rw [show(F:Int)-1=((F-1:Nat):Int) by omega];exact A4y ((hr.le hu).le (A0b _ _)) hB oM (F-1) oM) (fun x β' hR=>?_)
      clear ho
      clear hB
      rename A0j=>β4
      obtain⟨⟨x,rfl,hx⟩,hB⟩:=hR
      cases to
      · repeat (first|refine st ?_|refine qb fun bx=>?_)
        exact A0l tab (xs:=[_]) β4 (by exact .cell rfl ib rfl .nil) (Back.le hu cntL) ⟨⟨⟨w,1,x,0⟩,Z,A2o oM oM⟩,hB.le oM⟩
      · repeat (first|refine st ?_|refine qb fun bx=>?_)
        refine Q_op fun ho=>A0s ho bod99 Z Z Z Z Z (B2p hso' oM) ?_
        clear ho
        repeat (first|refine st ?_|refine qb fun bx=>?_)
        refine A0t Z (fun h=>?_) (fun h=>?_)
        · clear h
          repeat (first|refine st ?_|refine qb fun bx=>?_)
          exact A0l tab (xs:=[_]) β4 (by exact .cell rfl ib rfl .nil) (Back.le hu cntL) ⟨⟨⟨w,0,x,0⟩,Z,A2o oM oM⟩,hB.le oM⟩
        · clear h
          repeat (first|refine st ?_|refine qb fun bx=>?_)
          exact A0l tab (xs:=[_]) β4 (by exact .cell rfl ib rfl .nil) (Back.le hu cntL) ⟨⟨⟨w,1,x,0⟩,Z,A2o oM oM⟩,hB.le oM⟩
    · repeat (first|refine st ?_|refine qb fun bx=>?_)
      refine XC_front (bin:=β3) (by repeat (first|(with_reducible exact A0k)|(with_reducible exact A0u)|(with_reducible exact A1e)|(with_reducible apply A0y))) ?_
      refine A2u [4,9,11,13] [0,1,2,3,5,6,7,8,4,10,9,11,12,13] A1w Z kR ?_
      repeat (first|refine st ?_|refine qb fun bx=>?_)
      refine S_do kR (A0i β3 _ Z A8c Z Z Z Z Z A0k (by rw [show(F:Int)-1=((F-1:Nat):Int) by omega];exact A4y ((hr.le hu).le (A0b _ _)) hB oM (F-1) oM) (fun x β' hR=>⟨Le.refl _,?_,?_⟩))
      · exact kp
      clear hB
      rename A0j=>β4
      obtain⟨⟨x,rfl,hx⟩,hB⟩:=hR
      repeat (first|refine st ?_|refine qb fun bx=>?_)
      refine S_do kR (A0i β4 _ Z A8c Z Z Z Z Z A0k (by rw [show(F:Int)-1=((F-1:Nat):Int) by omega];exact A4y ((hr.le hu).le (A0b _ _)) hB oM (F-1) oM) (fun x β' hR=>⟨Le.refl _,?_,?_⟩))
      · exact kp
      clear hB
      rename A0j=>β5
      obtain⟨⟨y,rfl,hy⟩,hB⟩:=hR
      repeat (first|refine st ?_|refine qb fun bx=>?_)
      exact A0l tab (xs:=[_]) β5 (by exact .cell rfl ib rfl .nil) (Back.le hu cntL) ⟨⟨⟨w,4,x,y⟩,Z,A2o oM oM⟩,hB.le oM⟩
    · repeat (first|refine st ?_|refine qb fun bx=>?_)
      refine A2f (bin:=β3) (by repeat (first|(with_reducible exact A0k)|(with_reducible exact A0u)|(with_reducible exact A1e)|(with_reducible apply A0y))) ?_
      refine Q_op fun ho=>A0i β3 _ ho A8c Z Z Z Z Z A0k (by rw [show(P:Int)-2=((P-2:Nat):Int) by omega];exact A4y ((hr.le hu).le (A0b _ _)) hB oM (P-2) oM) (fun x β' hR=>?_)
      clear ho
      clear hB
      rename A0j=>β4
      obtain⟨⟨x,rfl,hx⟩,hB⟩:=hR
      repeat (first|refine st ?_|refine qb fun bx=>?_)
      refine A2f (bin:=β4) (by repeat (first|(with_reducible exact A0k)|(with_reducible exact A0u)|(with_reducible exact A1e)|(with_reducible apply A0y))) ?_
      refine Q_op fun ho=>A0i β4 _ ho bod44 Z Z Z Z Z A0k (by rw [show(x:Int)+1=((x+1:Nat):Int) by omega,show(P:Int)-1=((P-1:Nat):Int) by omega];exact among_n ((hr.le hu).le (A0b _ _)) hB oM (x+1) (P-1) oM oM) (fun x β' hR=>?_)
      clear ho
      clear hB
      rename A0j=>β5
      obtain⟨⟨y,rfl,hy,hy'⟩,hB⟩:=hR
      repeat (first|refine st ?_|refine qb fun bx=>?_)
      exact A0l tab (xs:=[_]) β5 (by exact .cell rfl ib rfl .nil) (Back.le hu cntL) ⟨⟨⟨w,5,x,y⟩,Z,A2o oM oM⟩,hB.le oM⟩
  · repeat (first|refine st ?_|refine qb fun bx=>?_)
    refine A6d Z Z (fun h=>?_) (fun h=>?_)
    · have hF0:0<F:=by have:=of_decide_eq_true h;omega
      clear h
      repeat (first|refine st ?_|refine qb fun bx=>?_)
      refine A2f (bin:=β2) (by repeat (first|(with_reducible exact A0k)|(with_reducible exact A0u)|(with_reducible exact A1e)|(with_reducible apply A0y))) ?_
      refine Q_op fun ho=>A0i β2 _ ho bod45 Z Z Z Z Z A0k (B3b ((hr.le hu).le (A0b _ _)) hB oM 2 oM) (fun x β' hR=>?_)
      clear ho
      clear hB
      rename A0j=>β3
      obtain⟨⟨t,rfl⟩,hB⟩:=hR
      cases t
      · repeat (first|refine st ?_|refine qb fun bx=>?_)
        refine A6d Z Z (fun h=>?_) (fun h=>?_)
        · have hP0:1<P:=by have:=of_decide_eq_true h;omega
          clear h
          repeat (first|refine st ?_|refine qb fun bx=>?_)
          refine A2f (bin:=β3) (by repeat (first|(with_reducible exact A0k)|(with_reducible exact A0u)|(with_reducible exact A1e)|(with_reducible apply A0y))) ?_
          refine Q_op fun ho=>A0i β3 _ ho bod45 Z Z Z Z Z A0k (B3b ((hr.le hu).le (A0b _ _)) hB oM 4 oM) (fun x β' hR=>?_)
          clear ho
          clear hB
          rename A0j=>β4
          obtain⟨⟨t,rfl⟩,hB⟩:=hR
          cases t
          · repeat (first|refine st ?_|refine qb fun bx=>?_)
            exact A0c ⟨_,_,⟨hu,_,_,hk,hB.le oM,Z⟩,⟨Z,rg,show Subm ((bx,#[.int .i64 w,.int .i64 k,.int .i64 0,.int .i64 0],26)::(b5,#[.int .i64 P,.int .i64 F,.slice wa n cap],24)::(b6,#[.slice a1 tr.length c1,.slice a2 so.length c2],38)::(b8,#[.int .i64 0,.int .i64 0,.int .i64 0,.int .i64 0],26)::β4) (β4++[(bx,#[.int .i64 w,.int .i64 k,.int .i64 0,.int .i64 0],26),(b8,#[.int .i64 0,.int .i64 0,.int .i64 0,.int .i64 0],26),(b6,#[.slice a1 tr.length c1,.slice a2 so.length c2],38),(b5,#[.int .i64 P,.int .i64 F,.slice wa n cap],24)])from cntL⟩,Le.refl _⟩
          · repeat (first|refine st ?_|refine qb fun bx=>?_)
            exact A0c ⟨_,_,⟨hu,_,_,(.inr (.inr ⟨hP0,Z⟩)),hB.le oM,Z⟩,⟨Z,rg,show Subm ((bx,#[.int .i64 w,.int .i64 5,.int .i64 0,.int .i64 0],26)::(b5,#[.int .i64 P,.int .i64 F,.slice wa n cap],24)::(b6,#[.slice a1 tr.length c1,.slice a2 so.length c2],38)::(b8,#[.int .i64 0,.int .i64 0,.int .i64 0,.int .i64 0],26)::β4) (β4++[(bx,#[.int .i64 w,.int .i64 5,.int .i64 0,.int .i64 0],26),(b8,#[.int .i64 0,.int .i64 0,.int .i64 0,.int .i64 0],26),(b6,#[.slice a1 tr.length c1,.slice a2 so.length c2],38),(b5,#[.int .i64 P,.int .i64 F,.slice wa n cap],24)])from cntL⟩,Le.refl _⟩
        · clear h
          repeat (first|refine st ?_|refine qb fun bx=>?_)
          exact A0c ⟨_,_,⟨hu,_,_,hk,hB.le oM,Z⟩,⟨Z,rg,show Subm ((bx,#[.int .i64 w,.int .i64 k,.int .i64 0,.int .i64 0],26)::(b5,#[.int .i64 P,.int .i64 F,.slice wa n cap],24)::(b6,#[.slice a1 tr.length c1,.slice a2 so.length c2],38)::(b8,#[.int .i64 0,.int .i64 0,.int .i64 0,.int .i64 0],26)::β3) (β3++[(bx,#[.int .i64 w,.int .i64 k,.int .i64 0,.int .i64 0],26),(b8,#[.int .i64 0,.int .i64 0,.int .i64 0,.int .i64 0],26),(b6,#[.slice a1 tr.length c1,.slice a2 so.length c2],38),(b5,#[.int .i64 P,.int .i64 F,.slice wa n cap],24)])from cntL⟩,Le.refl _⟩
      · repeat (first|refine st ?_|refine qb fun bx=>?_)
        refine Q_op fun ho=>A3x tab ho Z Z Z Z Z Z Z Z Z (fun b c hL=>?_)
        clear ho
        refine A0w (β1:=[(b,c,3)]) (β2:=_) (fun _=>rfl) (fun hb=>?_)
        have hrow:=A2m (cs:=([0,0,1,4]:List Int).map (.int .i64)) hb hL
        replace hu:=hu.trans (A0b u (A0e [(b,c,3)]))
        generalize u.union (A0e [(b,c,3)])=u at hrow hu⊢
        clear hb hL
        repeat (first|refine st ?_|refine qb fun bx=>?_)
        refine A2f (bin:=β3) (by repeat (first|(with_reducible exact A0k)|(with_reducible exact A0u)|(with_reducible exact A1e)|(with_reducible apply A0y))) ?_
        refine Q_op fun ho=>A0i β3 _ ho bod115 Z Z Z Z Z A0k (pick_x (xs:=[0,0,1,4]) ((hr.le hu).le (A0b _ _)) hB oM (RowAt.le hrow (A0b _ _)) sM sM) (fun x β' hR=>?_)
        clear ho
        clear hB hrow
        rename A0j=>β4
        obtain⟨⟨k',hk',rfl⟩,hB⟩:=hR
        have hk':KindOk P F k':=.inr (.inl ⟨hF0,by simp only [List.mem_cons,List.not_mem_nil,or_false]at hk';omega⟩)
        repeat (first|refine st ?_|refine qb fun bx=>?_)
        exact A0c ⟨_,_,⟨hu,_,_,hk',hB.le oM,Z⟩,⟨Z,rg,show Subm ((bx,#[.int .i64 w,.int .i64 k',.int .i64 0,.int .i64 0],26)::(b5,#[.int .i64 P,.int .i64 F,.slice wa n cap],24)::(b6,#[.slice a1 tr.length c1,.slice a2 so.length c2],38)::(b8,#[.int .i64 0,.int .i64 0,.int .i64 0,.int .i64 0],26)::β4) (β4++[(bx,#[.int .i64 w,.int .i64 k',.int .i64 0,.int .i64 0],26),(b8,#[.int .i64 0,.int .i64 0,.int .i64 0,.int .i64 0],26),(b6,#[.slice a1 tr.length c1,.slice a2 so.length c2],38),(b5,#[.int .i64 P,.int .i64 F,.slice wa n cap],24)])from cntL⟩,Le.refl _⟩
    · clear h
      repeat (first|refine st ?_|refine qb fun bx=>?_)
      refine A6d Z Z (fun h=>?_) (fun h=>?_)
      · have hP0:1<P:=by have:=of_decide_eq_true h;omega
        clear h
        repeat (first|refine st ?_|refine qb fun bx=>?_)
        refine A2f (bin:=β2) (by repeat (first|(with_reducible exact A0k)|(with_reducible exact A0u)|(with_reducible exact A1e)|(with_reducible apply A0y))) ?_
        refine Q_op fun ho=>A0i β2 _ ho bod45 Z Z Z Z Z A0k (B3b ((hr.le hu).le (A0b _ _)) hB oM 4 oM) (fun x β' hR=>?_)
        clear ho
        clear hB
        rename A0j=>β3
        obtain⟨⟨t,rfl⟩,hB⟩:=hR
        cases t
        · repeat (first|refine st ?_|refine qb fun bx=>?_)
          exact A0c ⟨_,_,⟨hu,_,_,hk,hB.le oM,Z⟩,⟨Z,rg,show Subm ((bx,#[.int .i64 w,.int .i64 k,.int .i64 0,.int .i64 0],26)::(b5,#[.int .i64 P,.int .i64 F,.slice wa n cap],24)::(b6,#[.slice a1 tr.length c1,.slice a2 so.length c2],38)::(b8,#[.int .i64 0,.int .i64 0,.int .i64 0,.int .i64 0],26)::β3) (β3++[(bx,#[.int .i64 w,.int .i64 k,.int .i64 0,.int .i64 0],26),(b8,#[.int .i64 0,.int .i64 0,.int .i64 0,.int .i64 0],26),(b6,#[.slice a1 tr.length c1,.slice a2 so.length c2],38),(b5,#[.int .i64 P,.int .i64 F,.slice wa n cap],24)])from cntL⟩,Le.refl _⟩
        · repeat (first|refine st ?_|refine qb fun bx=>?_)
          exact A0c ⟨_,_,⟨hu,_,_,(.inr (.inr ⟨hP0,Z⟩)),hB.le oM,Z⟩,⟨Z,rg,show Subm ((bx,#[.int .i64 w,.int .i64 5,.int .i64 0,.int .i64 0],26)::(b5,#[.int .i64 P,.int .i64 F,.slice wa n cap],24)::(b6,#[.slice a1 tr.length c1,.slice a2 so.length c2],38)::(b8,#[.int .i64 0,.int .i64 0,.int .i64 0,.int .i64 0],26)::β3) (β3++[(bx,#[.int .i64 w,.int .i64 5,.int .i64 0,.int .i64 0],26),(b8,#[.int .i64 0,.int .i64 0,.int .i64 0,.int .i64 0],26),(b6,#[.slice a1 tr.length c1,.slice a2 so.length c2],38),(b5,#[.int .i64 P,.int .i64 F,.slice wa n cap],24)])from cntL⟩,Le.refl _⟩
      · clear h
        repeat (first|refine st ?_|refine qb fun bx=>?_)
        exact A0c ⟨_,_,⟨hu,_,_,hk,hB.le oM,Z⟩,⟨Z,rg,show Subm ((bx,#[.int .i64 w,.int .i64 k,.int .i64 0,.int .i64 0],26)::(b5,#[.int .i64 P,.int .i64 F,.slice wa n cap],24)::(b6,#[.slice a1 tr.length c1,.slice a2 so.length c2],38)::(b8,#[.int .i64 0,.int .i64 0,.int .i64 0,.int .i64 0],26)::β2) ((bx,#[.int .i64 w,.int .i64 k,.int .i64 0,.int .i64 0],26)::(β2++[(b8,#[.int .i64 0,.int .i64 0,.int .i64 0,.int .i64 0],26),(b6,#[.slice a1 tr.length c1,.slice a2 so.length c2],38),(b5,#[.int .i64 P,.int .i64 F,.slice wa n cap],24)]))from cntL⟩,Le.refl _⟩
end
end Go.Proofs.YtiolobmgibdfmaaGreat
end
