/- Part 20. -/
import Derived.Test.YtiolobmgibdfmaaGreatPas
set_option linter.all false
section
namespace Go.Proofs.YtiolobmgibdfmaaGreat
open Go Go.Pal Go.Pal.Vo Go.Conc View
open Go.Proofs.Tryz
set_option maxHeartbeats 4000000
set_option maxRecDepth 20000
section
variable{mn:Who}{v:View}
abbrev u8(g:Nat):Value:=.int .u8 g
theorem shr_val{g n:Nat}(hn:n<8):(g:Int).fdiv (2 ^ min (n:Int).toNat IntKind.u8.bits)=((g / 2 ^ n:Nat):Int):=by
 have h2:min (n:Int).toNat IntKind.u8.bits=n:=by simp [IntKind.bits];omega
 rw [h2,Int.fdiv_eq_ediv_of_nonneg _ (by exact Int.le_of_lt (Int.pow_pos dM))]
 exact_mod_cast Z
theorem has_bit:(List.range 256).all (fun g=>(IntKind.u8.wrap ((BitVec.ofInt IntKind.u8.bits (g:Int) &&& BitVec.ofInt IntKind.u8.bits 1).toNat:Int)==1)==(g % 2==1))=true:=by decide +kernel
theorem A9l{g n:Nat}(hg:g<256)(hn:n<8):Ret1 prog mn 91 [u8 g,.int .i64 n] (.bool (bit g n)) v:=by
 refine A0f tab func91 Z nB (args:=[_,_]) ?_
 repeat refine st ?_
 refine A0l tab _ (by exact .tmp rfl .nil) (Back.here fun p=>Nat.le_refl _) ?_
 refine⟨?_,Z⟩
 rw [shr_val hn]
 have h1:g / 2 ^ n<256:=Nat.lt_of_le_of_lt (Nat.div_le_self _ _) hg
 have h2:=List.all_eq_true.1 has_bit _ (List.mem_range.2 h1)
 simp only [beq_iff_eq]at h2
 show Value.bool _=_
 rw [Value.bool.injEq]
 exact h2
theorem A3k{n lo hi:Int}:Ret1 prog mn 144 [.int .i64 n,.int .i64 lo,.int .i64 hi] (.bool (decide (lo≤n∧n≤hi))) v:=by
 refine A0f tab func144 Z nB (args:=[_,_,_]) ?_
 repeat refine st ?_
 refine A6d Z Z (fun h=>?_) (fun h=>?_)
 ·repeat refine st ?_
  refine A0l tab _ (by exact .tmp rfl .nil) (Back.here fun p=>Nat.le_refl _) ?_
  refine⟨?_,Z⟩
  replace h:=fa h
  show Value.bool (decide _)=_
  congr 2
  exact propext ⟨fun h'=>⟨h,h'⟩,fun h'=>h'.2⟩
 ·repeat refine st ?_
  refine A0l tab _ (by exact .tmp rfl .nil) (Back.here fun p=>Nat.le_refl _) ?_
  refine⟨?_,Z⟩
  replace h:=fa h
  show Value.bool false=_
  rw [decide_eq_false]
  exact fun h'=>h h'.1
theorem B3d{b:Bool}{e:Int}:CallsB prog mn 92 #[.bool b,.int .i64 e] (fun r β'=>β'=[]∧r=if b then .ret (.tuple #[])else .pan [⟨.iface 141 (.int .i64 e),false,false⟩]) [] v:=by
 refine A0f tab func92 Z nB (args:=[_,_]) ?_
 cases b with
 | false=>
  repeat refine st ?_
  refine Q_op fun ho=>A_panic ho Z Z (pn ?_)
  exact A1k tab [] (Back.here cntL) ⟨Z,Z⟩
 | true=>
  repeat refine st ?_
  exact A1t tab [] .nil (Back.here cntL) ⟨Z,Z⟩
theorem cnt_tab:(List.range 256).all (fun g=>cnt g≤8)=true:=by decide +kernel
theorem cnt_le{g:Nat}(hg:g<256):cnt g≤8:=by simpa using List.all_eq_true.1 cnt_tab _ (List.mem_range.2 hg)
noncomputable def popS:ByteArray:=match f141.body with
 | some (.seq _ (.seq (.region _ ops _) _))=>match ops[1]? with
  | some o=>match o.op with
   | .index _ (.const (.string s)) _=>s
   | _=>.empty
  | _=>.empty
 | _=>.empty
theorem pop_tab:(List.range 256).all (fun g=>(popS[g]?).map (·.toNat)==some (cnt g))=true:=by decide +kernel
theorem ones_x{g:Nat}(hg:g<256):Ret1 prog mn 141 [u8 g] (.int .i64 (cnt g)) v:=by
 have hp:=List.all_eq_true.1 pop_tab _ (List.mem_range.2 hg)
 obtain⟨b,hb,hc⟩:=Option.map_eq_some_iff.1 (eq_of_beq hp)
 refine A0f tab func141 Z nB (args:=[_]) ?_
 repeat refine st ?_
 refine Q_op fun ho=>A_byte tab ho Z Z Z Z Z Z (s:=popS) hb ?_
 repeat refine st ?_
 refine A0l tab _ (by exact .tmp rfl .nil) (Back.here fun p=>Nat.le_refl _) ?_
 refine⟨?_,Z⟩
 show Value.int .i64 (IntKind.i64.wrap _)=_
 rw [hc,A4k oM (by have:=cnt_le hg;omega)]
theorem A7q{g:Nat}(hg:g<256):Ret1 prog mn 85 [u8 g] (.int .i64 (cnt g)) v:=by
 refine A0f tab func85 Z nB (args:=[_]) ?_
 repeat refine st ?_
 refine Q_op fun ho=>A0s ho bod141 Z Z Z Z Z (ones_x hg) ?_
 repeat refine st ?_
 refine A0l tab _ (by exact .tmp rfl .nil) (Back.here fun p=>Nat.le_refl _) ?_
 exact⟨Z,Z⟩
theorem kind0_x{a:Int}:Ret1 prog mn 226 [.agg #[.int .i64 a]] (.int .i64 0) v:=by
 refine A0f tab func226 Z nB (args:=[_]) ?_
 repeat (first|refine st ?_|refine qb fun bx=>?_)
 refine A0l tab [] (by exact .tmp rfl .nil) (Back.here cntL) ?_
 exact⟨Z,Z⟩
theorem kind1_x{a:Int}:Ret1 prog mn 227 [.agg #[.int .i64 a]] (.int .i64 1) v:=by
 refine A0f tab func227 Z nB (args:=[_]) ?_
 repeat (first|refine st ?_|refine qb fun bx=>?_)
 refine A0l tab [] (by exact .tmp rfl .nil) (Back.here cntL) ?_
 exact⟨Z,Z⟩
theorem kind2_x{a:Int}:Ret1 prog mn 228 [.agg #[.int .i64 a]] (.int .i64 2) v:=by
 refine A0f tab func228 Z nB (args:=[_]) ?_
 repeat (first|refine st ?_|refine qb fun bx=>?_)
 refine A0l tab [] (by exact .tmp rfl .nil) (Back.here cntL) ?_
 exact⟨Z,Z⟩
theorem kind3_x{a:Int}:Ret1 prog mn 229 [.agg #[.int .i64 a]] (.int .i64 3) v:=by
 refine A0f tab func229 Z nB (args:=[_]) ?_
 repeat (first|refine st ?_|refine qb fun bx=>?_)
 refine A0l tab [] (by exact .tmp rfl .nil) (Back.here cntL) ?_
 exact⟨Z,Z⟩
theorem kind4_x{a b:Int}:Ret1 prog mn 230 [.agg #[.int .i64 a,.int .i64 b]] (.int .i64 4) v:=by
 refine A0f tab func230 Z nB (args:=[_]) ?_
 repeat (first|refine st ?_|refine qb fun bx=>?_)
 refine A0l tab [] (by exact .tmp rfl .nil) (Back.here cntL) ?_
 exact⟨Z,Z⟩
theorem kind5_x{a b:Int}:Ret1 prog mn 231 [.agg #[.int .i64 a,.int .i64 b]] (.int .i64 5) v:=by
 refine A0f tab func231 Z nB (args:=[_]) ?_
 repeat (first|refine st ?_|refine qb fun bx=>?_)
 refine A0l tab [] (by exact .tmp rfl .nil) (Back.here cntL) ?_
 exact⟨Z,Z⟩
theorem kind6_x{a:Int}:Ret1 prog mn 232 [.agg #[.int .i64 a]] (.int .i64 6) v:=by
 refine A0f tab func232 Z nB (args:=[_]) ?_
 repeat (first|refine st ?_|refine qb fun bx=>?_)
 refine A0l tab [] (by exact .tmp rfl .nil) (Back.here cntL) ?_
 exact⟨Z,Z⟩
theorem B3x{k:Int}:Ret1 prog mn 146 [.int .i64 k] (.int .i64 (if k=4∨k=5 then 2 else 1)) v:=by
 refine A0f tab func146 Z nB (args:=[_]) ?_
 by_cases h4:k=4
 ·subst h4
  repeat refine st ?_
  refine A0l tab _ (by exact .tmp rfl .nil) (Back.here fun p=>Nat.le_refl _) ?_
  exact⟨Z,Z⟩
 ·repeat refine st ?_
  rw [show(k==4)=false from by simpa using h4]
  by_cases h5:k=5
  ·subst h5
   repeat refine st ?_
   refine A0l tab _ (by exact .tmp rfl .nil) (Back.here fun p=>Nat.le_refl _) ?_
   exact⟨Z,Z⟩
  ·repeat refine st ?_
   rw [show(k==5)=false from by simpa using h5]
   repeat refine st ?_
   refine A0l tab _ (by exact .tmp rfl .nil) (Back.here fun p=>Nat.le_refl _) ?_
   exact⟨by rw [if_neg (fun e=>e.elim h4 h5)];rfl,Z⟩
def B2x(x:Wd):Value:=
 if x.kind=0 then .iface 170 (.agg #[.int .i64 x.a])
 else if x.kind=1 then .iface 171 (.agg #[.int .i64 x.a])
 else if x.kind=2 then .iface 173 (.agg #[.int .i64 x.a])
 else if x.kind=3 then .iface 174 (.agg #[.int .i64 x.a])
 else if x.kind=4 then .iface 176 (.agg #[.int .i64 x.a,.int .i64 x.b])
 else if x.kind=5 then .iface 178 (.agg #[.int .i64 x.a,.int .i64 x.b])
 else if x.kind=6 then .iface 180 (.agg #[.int .i64 x.a])
 else .nilIface
def wdV(x:Wd):Value:=.agg #[.int .i64 x.who,.int .i64 x.kind,.int .i64 x.a,.int .i64 x.b]
def sayN(x:Wd):Nat→Value
 | 0=>.iface 170 (.agg #[.int .i64 x.a])
 | 1=>.iface 171 (.agg #[.int .i64 x.a])
 | 2=>.iface 173 (.agg #[.int .i64 x.a])
 | 3=>.iface 174 (.agg #[.int .i64 x.a])
 | 4=>.iface 176 (.agg #[.int .i64 x.a,.int .i64 x.b])
 | 5=>.iface 178 (.agg #[.int .i64 x.a,.int .i64 x.b])
 | _=>.iface 180 (.agg #[.int .i64 x.a])
theorem A7w{x:Wd}{k:Nat}(hk:k<7)(h:x.kind=k):B2x x=sayN x k:=by
 unfold B2x
 rcases (by omega:k=0∨k=1∨k=2∨k=3∨k=4∨k=5∨k=6)with rfl|rfl|rfl|rfl|rfl|rfl|rfl<;>simp [h,sayN]
theorem says_no{x:Wd}(h:∀k:Nat,k<7→x.kind≠k):B2x x = .nilIface:=by
 unfold B2x
 have h0:x.kind≠0:=h 0 dM
 have h1:x.kind≠1:=h 1 dM
 have h2:x.kind≠2:=h 2 dM
 have h3:x.kind≠3:=h 3 dM
 have h4:x.kind≠4:=h 4 dM
 have h5:x.kind≠5:=h 5 dM
 have h6:x.kind≠6:=h 6 dM
 rw [if_neg h0,if_neg h1,if_neg h2,if_neg h3,if_neg h4,if_neg h5,if_neg h6]
theorem B3e{x:Wd}:Ret1 prog mn 105 [wdV x] (B2x x) v:=by
 refine A0f tab func105 Z nB (args:=[_]) ?_
 repeat (first|refine st ?_|refine qb fun bx=>?_)
 refine Q_op fun ho=>A3x tab ho Z Z Z Z Z Z Z Z Z (fun b2 c2 hS=>?_)
 clear ho
 obtain⟨hc2s,hc2⟩:=lit_box hS
 repeat (first|refine st ?_|refine qb fun bx=>?_)
 refine A1o (α:=Nat) (fun i=>⟨[],[(39,.int .i64 i),(38,.int .i64 7),(37,.slice (some ⟨b2,0,none⟩) 7 7),(1,.pointer (some ⟨bx,0,none⟩))],[(b2,c2,124),(bx,(wdV x).cells,26)]⟩)
  (fun i u=>u=v∧i≤7∧∀k:Nat,k<i→x.kind≠k) (fun i=>7-i) 0 ⟨Z,rg,cntL⟩ (Le.refl _) ⟨Z,oM,oM⟩ ?_
 rintro i u ⟨rfl,hi,hno⟩
 rcases (by omega:i=0∨i=1∨i=2∨i=3∨i=4∨i=5∨i=6∨i=7)with rfl|rfl|rfl|rfl|rfl|rfl|rfl|rfl
 ·repeat (first|refine st ?_|refine qb fun bx=>?_)
  refine A2t tab 0 Z Z Z Z Z Z Z dM ?_
  refine A6v tab Z Z Z ib (A1b tab Z Z Z (hc2 0 _ Z)) ?_
  repeat (first|refine st ?_|refine qb fun bx=>?_)
  refine B0v A1w Z kR ?_
  repeat (first|refine st ?_|refine qb fun bx=>?_)
  refine B4d tab bod226 kR Z Z Z Z Z Z Z kind0_x ?_
  repeat (first|refine st ?_|refine qb fun bx=>?_)
  refine A0t Z (fun h=>?_) (fun h=>?_)
  ·repeat (first|refine st ?_|refine qb fun bx=>?_)
   refine A0l tab [] (by exact .tmp rfl .nil) (Back.here cntL) ?_
   replace h:=fa h
   exact⟨(A7w (k:=0) dM h.symm).symm,Z⟩
  ·repeat (first|refine st ?_|refine qb fun bx=>?_)
   replace h:=fa h
   refine A0c ⟨1,_,dM,⟨Z,rg,cntL⟩,Le.refl _,Z,oM,fun k hk=>?_⟩
   rcases (by omega:k<0∨k=0)with hk|rfl
   ·exact hno k hk
   ·exact fun e=>h e.symm
 ·repeat (first|refine st ?_|refine qb fun bx=>?_)
  refine A2t tab 1 Z Z Z Z Z Z Z dM ?_
  refine A6v tab Z Z Z ib (A1b tab Z Z Z (hc2 1 _ Z)) ?_
  repeat (first|refine st ?_|refine qb fun bx=>?_)
  refine B0v A1w Z kR ?_
  repeat (first|refine st ?_|refine qb fun bx=>?_)
  refine B4d tab bod227 kR Z Z Z Z Z Z Z kind1_x ?_
  repeat (first|refine st ?_|refine qb fun bx=>?_)
  refine A0t Z (fun h=>?_) (fun h=>?_)
  ·repeat (first|refine st ?_|refine qb fun bx=>?_)
   refine A0l tab [] (by exact .tmp rfl .nil) (Back.here cntL) ?_
   replace h:=fa h
   exact⟨(A7w (k:=1) dM h.symm).symm,Z⟩
  ·repeat (first|refine st ?_|refine qb fun bx=>?_)
   replace h:=fa h
   refine A0c ⟨2,_,dM,⟨Z,rg,cntL⟩,Le.refl _,Z,oM,fun k hk=>?_⟩
   rcases (by omega:k<1∨k=1)with hk|rfl
   ·exact hno k hk
   ·exact fun e=>h e.symm
 ·repeat (first|refine st ?_|refine qb fun bx=>?_)
  refine A2t tab 2 Z Z Z Z Z Z Z dM ?_
  refine A6v tab Z Z Z ib (A1b tab Z Z Z (hc2 2 _ Z)) ?_
  repeat (first|refine st ?_|refine qb fun bx=>?_)
  refine B0v A1w Z kR ?_
  repeat (first|refine st ?_|refine qb fun bx=>?_)
  refine B4d tab bod228 kR Z Z Z Z Z Z Z kind2_x ?_
  repeat (first|refine st ?_|refine qb fun bx=>?_)
  refine A0t Z (fun h=>?_) (fun h=>?_)
  ·repeat (first|refine st ?_|refine qb fun bx=>?_)
   refine A0l tab [] (by exact .tmp rfl .nil) (Back.here cntL) ?_
   replace h:=fa h
   exact⟨(A7w (k:=2) dM h.symm).symm,Z⟩
  ·repeat (first|refine st ?_|refine qb fun bx=>?_)
   replace h:=fa h
   refine A0c ⟨3,_,dM,⟨Z,rg,cntL⟩,Le.refl _,Z,oM,fun k hk=>?_⟩
   rcases (by omega:k<2∨k=2)with hk|rfl
   ·exact hno k hk
   ·exact fun e=>h e.symm
 ·repeat (first|refine st ?_|refine qb fun bx=>?_)
  refine A2t tab 3 Z Z Z Z Z Z Z dM ?_
  refine A6v tab Z Z Z ib (A1b tab Z Z Z (hc2 3 _ Z)) ?_
  repeat (first|refine st ?_|refine qb fun bx=>?_)
  refine B0v A1w Z kR ?_
  repeat (first|refine st ?_|refine qb fun bx=>?_)
  refine B4d tab bod229 kR Z Z Z Z Z Z Z kind3_x ?_
  repeat (first|refine st ?_|refine qb fun bx=>?_)
  refine A0t Z (fun h=>?_) (fun h=>?_)
  ·repeat (first|refine st ?_|refine qb fun bx=>?_)
   refine A0l tab [] (by exact .tmp rfl .nil) (Back.here cntL) ?_
   replace h:=fa h
   exact⟨(A7w (k:=3) dM h.symm).symm,Z⟩
  ·repeat (first|refine st ?_|refine qb fun bx=>?_)
   replace h:=fa h
   refine A0c ⟨4,_,dM,⟨Z,rg,cntL⟩,Le.refl _,Z,oM,fun k hk=>?_⟩
   rcases (by omega:k<3∨k=3)with hk|rfl
   ·exact hno k hk
   ·exact fun e=>h e.symm
 ·repeat (first|refine st ?_|refine qb fun bx=>?_)
  refine A2t tab 4 Z Z Z Z Z Z Z dM ?_
  refine A6v tab Z Z Z ib (A1b tab Z Z Z (hc2 4 _ Z)) ?_
  repeat (first|refine st ?_|refine qb fun bx=>?_)
  refine B0v A1w Z kR ?_
  repeat (first|refine st ?_|refine qb fun bx=>?_)
  refine B4d tab bod230 kR Z Z Z Z Z Z Z kind4_x ?_
  repeat (first|refine st ?_|refine qb fun bx=>?_)
  refine A0t Z (fun h=>?_) (fun h=>?_)
  ·repeat (first|refine st ?_|refine qb fun bx=>?_)
   refine A0l tab [] (by exact .tmp rfl .nil) (Back.here cntL) ?_
   replace h:=fa h
   exact⟨(A7w (k:=4) dM h.symm).symm,Z⟩
  ·repeat (first|refine st ?_|refine qb fun bx=>?_)
   replace h:=fa h
   refine A0c ⟨5,_,dM,⟨Z,rg,cntL⟩,Le.refl _,Z,oM,fun k hk=>?_⟩
   rcases (by omega:k<4∨k=4)with hk|rfl
   ·exact hno k hk
   ·exact fun e=>h e.symm
 ·repeat (first|refine st ?_|refine qb fun bx=>?_)
  refine A2t tab 5 Z Z Z Z Z Z Z dM ?_
  refine A6v tab Z Z Z ib (A1b tab Z Z Z (hc2 5 _ Z)) ?_
  repeat (first|refine st ?_|refine qb fun bx=>?_)
  refine B0v A1w Z kR ?_
  repeat (first|refine st ?_|refine qb fun bx=>?_)
  refine B4d tab bod231 kR Z Z Z Z Z Z Z kind5_x ?_
  repeat (first|refine st ?_|refine qb fun bx=>?_)
  refine A0t Z (fun h=>?_) (fun h=>?_)
  ·repeat (first|refine st ?_|refine qb fun bx=>?_)
   refine A0l tab [] (by exact .tmp rfl .nil) (Back.here cntL) ?_
   replace h:=fa h
   exact⟨(A7w (k:=5) dM h.symm).symm,Z⟩
  ·repeat (first|refine st ?_|refine qb fun bx=>?_)
   replace h:=fa h
   refine A0c ⟨6,_,dM,⟨Z,rg,cntL⟩,Le.refl _,Z,oM,fun k hk=>?_⟩
   rcases (by omega:k<5∨k=5)with hk|rfl
   ·exact hno k hk
   ·exact fun e=>h e.symm
 ·repeat (first|refine st ?_|refine qb fun bx=>?_)
  refine A2t tab 6 Z Z Z Z Z Z Z dM ?_
  refine A6v tab Z Z Z ib (A1b tab Z Z Z (hc2 6 _ Z)) ?_
  repeat (first|refine st ?_|refine qb fun bx=>?_)
  refine B0v A1w Z kR ?_
  repeat (first|refine st ?_|refine qb fun bx=>?_)
  refine B4d tab bod232 kR Z Z Z Z Z Z Z kind6_x ?_
  repeat (first|refine st ?_|refine qb fun bx=>?_)
  refine A0t Z (fun h=>?_) (fun h=>?_)
  ·repeat (first|refine st ?_|refine qb fun bx=>?_)
   refine A0l tab [] (by exact .tmp rfl .nil) (Back.here cntL) ?_
   replace h:=fa h
   exact⟨(A7w (k:=6) dM h.symm).symm,Z⟩
  ·repeat (first|refine st ?_|refine qb fun bx=>?_)
   replace h:=fa h
   refine A0c ⟨7,_,dM,⟨Z,rg,cntL⟩,Le.refl _,Z,oM,fun k hk=>?_⟩
   rcases (by omega:k<6∨k=6)with hk|rfl
   ·exact hno k hk
   ·exact fun e=>h e.symm
 ·repeat (first|refine st ?_|refine qb fun bx=>?_)
  refine A0l tab [] (by exact .tmp rfl .nil) (Back.here cntL) ?_
  exact⟨(says_no fun k hk=>hno k hk).symm,Z⟩
end
section
variable{mn:Who}{v:View}
abbrev boV(P F:Int)(a:Option Addr)(n cap:Nat):Value:=.agg #[.int .i64 P,.int .i64 F,.slice a n cap]
abbrev wlV(w:Wl):Value:=.agg #[u8 w.1,u8 w.2]
structure Fit(x:Wd):Prop where
 a:0≤x.a∧x.a<8
 b:0≤x.b∧x.b<8
 k:0≤x.kind∧x.kind≤6
 who:0≤x.who∧x.who<8
theorem lexL{P:Program}{rd:Option Nat}{n:Nat}{Q:Exit→St→View→Prop}{ds:List Deferred}{ρ:Regs}{β:A0j}{id:Nat}{ops:Array Oper}{l:List Oper}(hm:P.follows .mixedOrders=true)(hl:ops.toList=l)(hB:(Region.lexB .any ops&&ops.all (fun o=>!A3g o.op))=true)(h:XL P mn n ops Q l ⟨ds,ρ,β⟩ v):XC P mn rd n (.region id ops true) Q ⟨ds,ρ,β⟩ v:=B0v hm hl hB h
theorem holds_x{P:Nat}{F:Int}{a:Option Addr}{n cap:Nat}{x:Wd}{w:Wl}(hP:P<256)(hx:Fit x)(h1:w.1<256)(h2:w.2<256):Ret1 prog mn 107 [boV P F a n cap,B2x x,wlV w] (.bool (A4h P x w)) v:=by
 obtain⟨t,s⟩:=w
 simp only at h1 h2
 obtain⟨who,kind,xa,xb⟩:=x
 obtain⟨na,rfl⟩:=Int.eq_ofNat_of_zero_le hx.a.1
 obtain⟨nb,rfl⟩:=Int.eq_ofNat_of_zero_le hx.b.1
 have ha:na<8:=by have:=hx.a.2;simp only at this;omega
 have hb:nb<8:=by have:=hx.b.2;simp only at this;omega
 have hk:=hx.k
 simp only at hk
 have hct:=cnt_le h1
 rcases (by omega:kind=0∨kind=1∨kind=2∨kind=3∨kind=4∨kind=5∨kind=6)with rfl|rfl|rfl|rfl|rfl|rfl|rfl
 ·refine A0f tab func107 Z nB (args:=[_,sayN _ 0,_]) ?_
  repeat (first|refine st ?_|refine qb fun bx=>?_)
  refine Q_op fun ho=>A0s ho A9n Z Z Z Z Z (A9l h2 ha) ?_
  clear ho
  repeat (first|refine st ?_|refine qb fun bx=>?_)
  refine A0l tab [] (by exact .tmp rfl .nil) (Back.here cntL) ?_
  exact⟨Z,Z⟩
 ·refine A0f tab func107 Z nB (args:=[_,sayN _ 1,_]) ?_
  repeat (first|refine st ?_|refine qb fun bx=>?_)
  refine Q_op fun ho=>A0s ho A9n Z Z Z Z Z (A9l h2 ha) ?_
  clear ho
  repeat (first|refine st ?_|refine qb fun bx=>?_)
  refine A0l tab [] (by exact .tmp rfl .nil) (Back.here cntL) ?_
  exact⟨Z,Z⟩
 ·refine A0f tab func107 Z nB (args:=[_,sayN _ 2,_]) ?_
  repeat (first|refine st ?_|refine qb fun bx=>?_)
  refine Q_op fun ho=>A0s ho A9n Z Z Z Z Z (A9l h1 ha) ?_
  clear ho
  repeat (first|refine st ?_|refine qb fun bx=>?_)
  refine A0l tab [] (by exact .tmp rfl .nil) (Back.here cntL) ?_
  exact⟨Z,Z⟩
 ·refine A0f tab func107 Z nB (args:=[_,sayN _ 3,_]) ?_
  repeat (first|refine st ?_|refine qb fun bx=>?_)
  refine Q_op fun ho=>A0s ho A9n Z Z Z Z Z (A9l h1 ha) ?_
  clear ho
  repeat (first|refine st ?_|refine qb fun bx=>?_)
  refine A0l tab [] (by exact .tmp rfl .nil) (Back.here cntL) ?_
  exact⟨Z,Z⟩
 ·refine A0f tab func107 Z nB (args:=[_,sayN _ 4,_]) ?_
  repeat (first|refine st ?_|refine qb fun bx=>?_)
  refine Q_op fun ho=>A0s ho A9n Z Z Z Z Z (A9l h2 ha) ?_
  clear ho
  cases hbit:bit s na with
  | true=>
   repeat (first|refine st ?_|refine qb fun bx=>?_)
   refine Q_op fun ho=>A0s ho A9n Z Z Z Z Z (A9l h2 hb) ?_
   clear ho
   repeat (first|refine st ?_|refine qb fun bx=>?_)
   refine A0l tab [] (by exact .tmp rfl .nil) (Back.here cntL) ?_
   refine⟨?_,Z⟩
   show Value.bool _=Value.bool (!bit s na||bit s nb)
   rw [hbit];rfl
  | false=>
   repeat (first|refine st ?_|refine qb fun bx=>?_)
   refine A0l tab [] (by exact .tmp rfl .nil) (Back.here cntL) ?_
   refine⟨?_,Z⟩
   show Value.bool _=Value.bool (!bit s na||bit s nb)
   rw [hbit];rfl
 ·refine A0f tab func107 Z nB (args:=[_,sayN _ 5,_]) ?_
  repeat (first|refine st ?_|refine qb fun bx=>?_)
  refine lexL A1w Z kR ?_
  repeat (first|refine st ?_|refine qb fun bx=>?_)
  refine A3r A9n Z Z Z Z Z (A9l h1 ha) ?_
  repeat (first|refine st ?_|refine qb fun bx=>?_)
  refine A3r A9n Z Z Z Z Z (A9l h1 hb) ?_
  repeat (first|refine st ?_|refine qb fun bx=>?_)
  refine A0l tab [] (by exact .tmp rfl .nil) (Back.here cntL) ?_
  exact⟨Z,Z⟩
 ·refine A0f tab func107 Z nB (args:=[_,sayN _ 6,_]) ?_
  repeat (first|refine st ?_|refine qb fun bx=>?_)
  refine lexL A1w Z kR ?_
  repeat (first|refine st ?_|refine qb fun bx=>?_)
  refine A3r bod85 Z Z Z Z Z (A7q h1) ?_
  repeat (first|refine st ?_|refine qb fun bx=>?_)
  refine A0l tab [] (by exact .tmp rfl .nil) (Back.here cntL) ?_
  refine⟨?_,Z⟩
  show Value.bool (decide (IntKind.i64.wrap ((P:Int)-cnt t)≥na))=Value.bool (decide ((P:Int)-cnt t≥na))
  rw [A4k oM oM]
end
section
variable{mn:Who}{v:View}
def orG(l:List Nat):Nat:=l.foldl (fun g n=>g ||| 2 ^ n) 0
theorem or_tab:(List.range 256).all (fun g=>(List.range 8).all fun n=>(IntKind.u8.wrap ((BitVec.ofInt IntKind.u8.bits (g:Int) ||| BitVec.ofInt IntKind.u8.bits (IntKind.u8.wrap (1*2 ^ min ((n:Nat):Int).toNat IntKind.u8.bits))).toNat:Int)==((g ||| 2 ^ n:Nat):Int))&&decide (g ||| 2 ^ n<256))=true:=by decide +kernel
theorem or_val{g n:Nat}(hg:g<256)(hn:n<8):IntKind.u8.wrap ((BitVec.ofInt IntKind.u8.bits (g:Int) ||| BitVec.ofInt IntKind.u8.bits (IntKind.u8.wrap (1*2 ^ min ((n:Nat):Int).toNat IntKind.u8.bits))).toNat:Int)=((g ||| 2 ^ n:Nat):Int)∧g ||| 2 ^ n<256:=by
 have:=List.all_eq_true.1 (List.all_eq_true.1 or_tab _ (List.mem_range.2 hg)) _ (List.mem_range.2 hn)
 simpa using this
theorem clr_tab:(List.range 256).all (fun g=>(List.range 8).all fun n=>(IntKind.u8.wrap ((BitVec.ofInt IntKind.u8.bits (g:Int) &&& ~~~ BitVec.ofInt IntKind.u8.bits ((2 ^ n:Nat):Int)).toNat:Int)==((clr g n:Nat):Int))&&decide (clr g n<256))=true:=by decide +kernel
theorem clr_val{g n:Nat}(hg:g<256)(hn:n<8):IntKind.u8.wrap ((BitVec.ofInt IntKind.u8.bits (g:Int) &&& ~~~ BitVec.ofInt IntKind.u8.bits ((2 ^ n:Nat):Int)).toNat:Int)=((clr g n:Nat):Int)∧clr g n<256:=by
 have:=List.all_eq_true.1 (List.all_eq_true.1 clr_tab _ (List.mem_range.2 hg)) _ (List.mem_range.2 hn)
 simpa using this
theorem all_tab:(List.range 8).all (fun P=>IntKind.u8.wrap (IntKind.u8.wrap (1*2 ^ min ((P:Nat):Int).toNat IntKind.u8.bits)-1)==((2 ^ P-1:Nat):Int))=true:=by decide +kernel
theorem all_val{P:Nat}(hP:P<8):IntKind.u8.wrap (IntKind.u8.wrap (1*2 ^ min ((P:Nat):Int).toNat IntKind.u8.bits)-1)=((2 ^ P-1:Nat):Int):=by
 have:=List.all_eq_true.1 all_tab _ (List.mem_range.2 hP)
 simpa using this
theorem orG_snoc(l:List Nat)(n:Nat):orG (l++[n])=orG l ||| 2 ^ n:=by simp [orG]
theorem B3m{a:Option Addr}{cap:Nat}{l:List Nat}(hl:RowAt v a (l.map fun(n:Nat)=>Value.int .i64 n))(h8:∀n∈l,n<8)(hlen:l.length<2^62):Ret1 prog mn 96 [.slice a l.length cap] (u8 (orG l)) v:=by
 refine A0f tab func96 Z nB (args:=[_]) ?_
 repeat refine st ?_
 refine A1o (α:=Nat×Nat) (fun z=>⟨[],[(8,.int .i64 z.1),(7,.int .i64 l.length),(6,.slice a l.length cap),(3,u8 z.2)],[]⟩)
  (fun z u=>u=v∧z.1≤l.length∧z.2<256∧z.2=orG (l.take z.1)) (fun z=>l.length-z.1) (0,0) ⟨Z,rg,cntL⟩ (Le.refl _) ⟨Z,Nat.zero_le _,by decide,Z⟩ ?_
 rintro⟨i,g⟩ u ⟨rfl,hi,hg,hgo⟩
 simp only at hi hg hgo
 dsimp only
 repeat refine st ?_
 refine A0t Z (fun h=>?_) (fun h=>?_)
 ·replace h:=fa h
  have hlt:i<l.length:=oM
  obtain⟨bb,off,p,c,e,f,rfl,hv,hc⟩:=hl.get hlt
  have hn:=h8 _ (List.getElem_mem hlt)
  repeat refine st ?_
  refine A2t tab i Z Z Z Z Z Z Z hlt ?_
  refine A2p tab Z Z Z hv (A1b tab Z Z Z (by rw [Nat.mul_one];exact hc _ hlt)) ?_
  repeat refine st ?_
  have ho:=or_val hg hn
  rw [ho.1]
  refine A0c ⟨(i+1,g ||| 2 ^ l[i]),u,by simp only;omega,⟨Z,rg,cntL⟩,Le.refl _,Z,hlt,ho.2,?_⟩
  rw [hgo,List.take_succ_eq_append_getElem hlt,orG_snoc]
 ·replace h:=fa h
  have hin:i=l.length:=oM
  subst hin
  rw [List.take_length]at hgo
  subst hgo
  repeat refine st ?_
  refine A0l tab [] (by exact .tmp rfl .nil) (Back.here cntL) ?_
  exact⟨Z,Z⟩
abbrev wdC(x:Wd):List Value:=[.int .i64 x.who,.int .i64 x.kind,.int .i64 x.a,.int .i64 x.b]
def WdsAt(v:View)(a:Option Addr)(ws:List Wd):Prop:=RowAt v a (ws.map wdC).flatten
theorem WdsAt.le{u v:View}{a:Option Addr}{ws:List Wd}(h:WdsAt u a ws)(hl:u.Le v):WdsAt v a ws:=RowAt.le h hl
theorem WdsAt.get{a:Option Addr}{ws:List Wd}(h:WdsAt v a ws){i:Nat}(hi:i<ws.length):∃b off p c e f,a=some ⟨b,off,none⟩∧v b=some (p,.cells c e f)∧∀j (hj:j<ws.length),off+j*4+4≤c.size∧c.extract (off+j*4) (off+j*4+4)=(wdC ws[j]).toArray:=by
 obtain⟨b,off,p,c,e,f,h1,h2,h3⟩:=RowAt.recs (k:=4) h sM dM (by simpa using hi)
 refine⟨b,off,p,c,e,f,h1,h2,fun j hj=>?_⟩
 have:=h3 j (by simpa using hj)
 simpa using this
def A5e(P:Nat)(w:Wl)(g:Nat)(x:Wd):Nat:=if A4h P x w then g else clr g x.who.toNat
theorem honest_x{P:Nat}{F:Int}{a:Option Addr}{cap:Nat}{ws:List Wd}{w:Wl}(hP:P<8)(hw:WdsAt v a ws)(hx:∀x∈ws,Fit x)(hlen:ws.length<2^30)(h1:w.1<256)(h2:w.2<256) :
  Ret1 prog mn 118 [boV P F a ws.length cap,wlV w] (u8 (B1s P ws w)) v∧B1s P ws w<256:=by
 have hlt256:∀i,((ws.take i).foldl (A5e P w) (2 ^ P-1))<256:=by
  intro i
  have h0:2 ^ P-1<256:=by have:2 ^ P≤2^7:=Nat.pow_le_pow_right dM oM;omega
  have:∀(l:List Wd) (g:Nat),(∀x∈l,Fit x)→g<256→l.foldl (A5e P w) g<256:=by
   intro l
   induction l with
   | nil=>intro g _ hg;exact hg
   | cons x l ih=>
    intro g hf hg
    refine ih _ (fun y hy=>hf y (List.mem_cons_of_mem _ hy)) ?_
    unfold A5e
    split
    ·exact hg
    ·have:=(hf x (List.mem_cons_self ..)).who
     exact(clr_val hg oM).2
  exact this _ _ (fun x hx'=>hx x (List.mem_of_mem_take hx')) h0
 refine⟨?_,by have:=hlt256 ws.length;rw [List.take_length]at this;exact this⟩
 refine A0f tab func118 Z nB (args:=[_,_]) ?_
 repeat (first|refine st ?_|refine qb fun bx=>?_)
 rename_i bxb
 rename Nat=>bxw
 rw [all_val hP]
 refine A1o (α:=Nat×Nat) (fun z=>⟨[],[(17,.int .i64 z.1),(16,.int .i64 ws.length),(15,.slice a ws.length cap),(5,u8 z.2),(2,.pointer (some ⟨bxb,0,none⟩)),(3,.pointer (some ⟨bxw,0,none⟩))],[(bxw,(wlV w).cells,102),(bxb,(boV P F a ws.length cap).cells,95)]⟩)
  (fun z u=>u=v∧z.1≤ws.length∧z.2<256∧z.2=(ws.take z.1).foldl (A5e P w) (2 ^ P-1)) (fun z=>ws.length-z.1) (0,2 ^ P-1) ⟨Z,rg,cntL⟩ (Le.refl _) ⟨Z,Nat.zero_le _,hlt256 0,Z⟩ ?_
 rintro⟨i,g⟩ u ⟨rfl,hi,hg,hgo⟩
 simp only at hi hg hgo
 dsimp only
 repeat (first|refine st ?_|refine qb fun bx=>?_)
 refine A0t Z (fun h=>?_) (fun h=>?_)
 ·replace h:=fa h
  have hlt:i<ws.length:=oM
  obtain⟨bb,off,p,c,e,f,rfl,hv,hc⟩:=hw.get hlt
  have hfit:=hx _ (List.getElem_mem hlt)
  repeat (first|refine st ?_|refine qb fun bx=>?_)
  refine A2t tab i Z Z Z Z Z Z Z hlt ?_
  refine A2p tab Z Z Z hv (A2d tab Z Z Z (hc i hlt)) ?_
  repeat (first|refine st ?_|refine qb fun bx=>?_)
  refine lexL A1w Z kR ?_
  repeat (first|refine st ?_|refine qb fun bx=>?_)
  refine A3r bod105 Z Z Z Z Z (B3e (x:=ws[i])) ?_
  repeat (first|refine st ?_|refine qb fun bx=>?_)
  refine A3r bod107 Z Z Z Z Z (holds_x (x:=ws[i]) (w:=w) oM hfit h1 h2) ?_
  have hstep1:(ws.take (i+1)).foldl (A5e P w) (2 ^ P-1)=A5e P w g ws[i]:=by
   rw [List.take_succ_eq_append_getElem hlt,List.foldl_append,hgo];rfl
  cases hh:A4h P ws[i] w with
  | true=>
   repeat (first|refine st ?_|refine qb fun bx=>?_)
   refine A0c ⟨(i+1,g),u,by simp only;omega,⟨Z,rg,cntL⟩,Le.refl _,Z,hlt,hg,?_⟩
   rw [hstep1];unfold A5e;rw [if_pos hh]
  | false=>
   repeat (first|refine st ?_|refine qb fun bx=>?_)
   refine Q_op fun ho=>A3x tab ho Z Z Z Z Z Z Z Z Z (fun b2 c2 hS=>?_)
   clear ho
   refine A0w (β1:=[(b2,c2,3)]) (fun _=>rfl) fun hb2=>?_
   obtain⟨nw,hnw⟩:=Int.eq_ofNat_of_zero_le hfit.who.1
   have hw8:nw<8:=by have:=hfit.who.2;omega
   have hrow:=RowAt.own (v:=u) hb2 (fun _=>Nat.le_refl _) hS
   refine Q_op fun ho=>A0s ho bod96 Z Z Z Z Z (B3m (l:=[nw]) (cap:=1) (by rw [List.map_singleton,←hnw];exact hrow) (by simpa using hw8) sM) ?_
   clear ho
   repeat (first|refine st ?_|refine qb fun bx=>?_)
   rw [show orG [nw]=2 ^ nw from by simp [orG],(clr_val hg hw8).1]
   refine A0c ⟨(i+1,clr g nw),u,by simp only;omega,⟨Z,rg,cntL⟩,A0b _ _,Z,hlt,(clr_val hg hw8).2,?_⟩
   rw [hstep1];unfold A5e;rw [if_neg (by simp [hh]),hnw];rfl
 ·replace h:=fa h
  have hin:i=ws.length:=oM
  subst hin
  rw [List.take_length]at hgo
  subst hgo
  repeat (first|refine st ?_|refine qb fun bx=>?_)
  refine A0l tab [] (by exact .tmp rfl .nil) (Back.here cntL) ?_
  exact⟨Z,Z⟩
end
section
variable{mn:Who}{v:View}
theorem pow_tab:(List.range 8).all (fun P=>IntKind.u8.wrap (1*2 ^ min ((P:Nat):Int).toNat IntKind.u8.bits)==((2 ^ P:Nat):Int))=true:=by decide +kernel
theorem pow_val{P:Nat}(hP:P<8):IntKind.u8.wrap (1*2 ^ min ((P:Nat):Int).toNat IntKind.u8.bits)=((2 ^ P:Nat):Int):=by
 have:=List.all_eq_true.1 pow_tab _ (List.mem_range.2 hP)
 simpa using this
theorem w8{x:Nat}(h:x<256):IntKind.u8.wrap (x:Int)=x:=by
 simp only [IntKind.wrap,IntKind.signed,IntKind.bits]
 simp
 omega
theorem pow_le8'{P:Nat}(hP:P<8):2 ^ P≤128:=by have:2 ^ P≤2^7:=Nat.pow_le_pow_right dM oM;omega
theorem every_x{P F:Int}{a:Option Addr}{n cap:Nat}:CallsB prog mn 129 #[boV P F a n cap] (RetB fun r β'=>∃b,r = .func (.func 149) #[] #[.pointer (some ⟨b,0,none⟩)]∧β'=[(b,(boV P F a n cap).cells,95)]) [] v:=by
 refine A0f tab func129 Z nB (args:=[_]) ?_
 repeat (first|refine st ?_|refine qb fun bx=>?_)
 refine A0l tab [_] (by exact .tmp rfl .nil) (Back.here fun _=>Nat.le_refl _) ?_
 exact⟨_,Z,Z⟩
theorem every1_x{P F:Nat}{a:Option Addr}{n cap l bb:Nat}(hP:P<8)(hF:F<8){I:Nat→View→Prop}
  (hb:∀k u,I k u→∃p e f,u bb=some (p,.cells (boV P F a n cap).cells e f))
  (hy:∀t s u,t<2 ^ P→s<2 ^ F→I (t*2 ^ F+s) u→YieldX prog mn l [wlV (t,s)] (I (t*2 ^ F+s+1)) u)(h0:I 0 v) :
  CallsX prog mn 149 #[.func (.yield l) #[] #[],.pointer (some ⟨bb,0,none⟩)] (fun e u=>e = .ret (.tuple #[])∧I (2 ^ P*2 ^ F) u) v:=by
 refine callsX_fn tab func149 Z nB (args:=[_,_]) ?_
 have hp:=pow_le8' hP
 have hf:=pow_le8' hF
 repeat refine st ?_
 obtain⟨p,e,f,hv⟩:=hb 0 v h0
 refine A2p tab Z Z Z hv (x:=.int .i64 P) Z ?_
 repeat refine st ?_
 rw [pow_val hP]
 refine A1o (α:=Nat) (fun t=>⟨[],[(9,u8 t),(8,u8 (2 ^ P)),(0,.func (.yield l) #[] #[]),(1,.pointer (some ⟨bb,0,none⟩))],[]⟩)
  (fun t u=>t≤2 ^ P∧I (t*2 ^ F) u) (fun t=>2 ^ P-t) 0 ⟨Z,rg,cntL⟩ (Le.refl _) ⟨Nat.zero_le _,by rw [Nat.zero_mul];exact h0⟩ ?_
 rintro t u ⟨ht,hI⟩
 repeat refine st ?_
 by_cases htt:t<2 ^ P
 ·rw [show decide ((t:Int)<((2 ^ P:Nat):Int))=true from decide_eq_true oM]
  repeat refine st ?_
  obtain⟨p,e,f,hv⟩:=hb _ u hI
  refine A2p tab Z Z Z hv (x:=.int .i64 F) Z ?_
  repeat refine st ?_
  rw [pow_val hF]
  refine A1o (α:=Nat) (fun s=>⟨[],[(16,u8 s),(15,u8 (2 ^ F)),(3,u8 t),(9,u8 t),(8,u8 (2 ^ P)),(0,.func (.yield l) #[] #[]),(1,.pointer (some ⟨bb,0,none⟩))],[]⟩)
   (fun s u=>s≤2 ^ F∧I (t*2 ^ F+s) u) (fun s=>2 ^ F-s) 0 ⟨Z,rg,cntL⟩ (Le.refl _) ⟨Nat.zero_le _,hI⟩ ?_
  rintro s u ⟨hs,hI⟩
  repeat refine st ?_
  by_cases hss:s<2 ^ F
  ·rw [show decide ((s:Int)<((2 ^ F:Nat):Int))=true from decide_eq_true oM]
   repeat refine st ?_
   refine Q_op fun ho=>A_yield sM ho Z Z Z Z (xs:=[wlV (t,s)]) (hy t s u htt hss hI) fun u hJ=>?_
   clear ho
   repeat refine st ?_
   rw [show((s:Int)+1)=((s+1:Nat):Int)from Z,w8 oM]
   exact A0c ⟨s+1,u,oM,⟨Z,rg,cntL⟩,Le.refl _,oM,hJ⟩
  ·rw [show decide ((s:Int)<((2 ^ F:Nat):Int))=false from decide_eq_false oM]
   repeat refine st ?_
   rw [show((t:Int)+1)=((t+1:Nat):Int)from Z,w8 oM]
   refine A0c ⟨t+1,u,oM,⟨Z,rg,cntL⟩,Le.refl _,oM,?_⟩
   have e:s=2 ^ F:=oM
   rw [Nat.succ_mul,←e]
   rw [←e]at hI
   exact hI
 ·rw [show decide ((t:Int)<((2 ^ P:Nat):Int))=false from decide_eq_false oM]
  repeat refine st ?_
  have e:t=2 ^ P:=oM
  subst e
  exact⟨Z,[],Z,Z,hI⟩
end
end Go.Proofs.YtiolobmgibdfmaaGreat
end
section
namespace Go.Pal
open Go Go.Conc View
section
variable{P:Program}{mn:Who}{u v:View}
theorem YieldX.le{l:Nat}{xs:List Value}{J:View→Prop}(hJ:∀u w,J u→u.Le w→J w)(h:YieldX P mn l xs J u)(hl:u.Le v):YieldX P mn l xs J v:=by
 obtain⟨F,rfl,hd⟩:=B0j hl
 unfold YieldX at h⊢
 refine A2c _ (fun nx w hK=>?_) (fun x w hE=>?_) (A8j (F:=F) _ h hd)
 ·obtain⟨u1,rfl,hd1,hK⟩:=hK
  cases nx with
  | round l f tmps assign body=>
   refine RoundX.mono (RoundX.frame hK hd1) fun e w' hR=>?_
   obtain⟨u2,rfl,hd2,rfl,hJ2⟩:=hR
   exact⟨_,Le.refl _,Z,hJ _ _ hJ2 (A0b _ _)⟩
  | _=>exact hK.elim
 ·obtain⟨u1,_,_,hE⟩:=hE
  exact hE.elim
theorem yield_XC{l n:Nat}{xs:List Value}{J:View→Prop}{lp:Loop}{ρ:Regs}{β:A0j}(hl:v l=some (true,.loop lp))(hs:lp.state = .ready)(hn:xs.length=lp.params.size)
  (hfit:Fits n ⟨[],ρ,β⟩ ⟨(lp.params.zip xs.toArray).foldl (fun tmps (t,a)=>tmps.setIfInBounds t a) lp.tmps,[]⟩)(hb:Bok β v)
  (h:XC P mn (some l) n lp.assign (fun e σ u=>e = .normal∧u=v∧XC P mn (some l) n lp.body (fun e σ u=>e = .normal∧u l=some (true,.loop {lp with state:=.busy })∧(Bok σ.β u→∀w,((u.set l true (.loop {lp with state:=.ready,pending:=none })).union (A0e σ.β)).Le w→J w)) σ (v.set l true (.loop {lp with state:=.busy }))) ⟨[],ρ,β⟩ v) :
  YieldX P mn l xs J (v.union (A0e β)):=by
 refine yieldX_of (A1p hl) hs hn (A3u (h _ hfit hb) ?_)
 rintro e a w ⟨σ,u,⟨rfl,rfl,hbody⟩,hf,hbk,hle⟩
 refine⟨w,Le.refl _,Z,hle _ _ (A1p hl),?_⟩
 obtain⟨hb2,hv2⟩:=A4r (p:=true) (o:=.loop {lp with state:=.busy }) hbk (A4e hbk hl)
 have hset:∀{x y:View} {o:Obj},x.Le y→(x.set l true o).Le (y.set l true o):=fun {x y o} hxy b z hz=>by
  unfold View.set at hz⊢
  split
  ·rename_i e;rw [if_pos e]at hz;exact hz
  ·rename_i e;rw [if_neg e]at hz;exact hxy _ _ hz
 refine A6y (u:=(u.set l true (.loop {lp with state:=.busy })).union (A0e σ.β)) ?_ (hv2 ▸ hset hle)
 refine A3u (hbody a hf hb2) ?_
 rintro e a' w' ⟨σ',u',⟨rfl,hl',hJ⟩,hf',hbk',hle'⟩
 refine⟨w',Le.refl _,Z,hle' _ _ (A1p hl'),hJ hbk' _ ?_⟩
 obtain⟨_,hv3⟩:=A4r (p:=true) (o:=.loop {lp with state:=.ready,pending:=none }) hbk' (A4e hbk' hl')
 rw [←hv3]
 exact hset hle'
theorem XC_rangeFunc{n:Nat}{Q:Exit→St→View→Prop}{ds:List Deferred}{ρ:Regs}{β:A0j}{fop:Operand}{params:Array Tmp}{assign body:Code}{kf:FuncId}{first captured:Array Value}
  (hf:ρ.val fop=some (.func (.func kf) first captured))(hk:A0n P kf)
  (h:∀(a:Act) r l fnId,Fits n ⟨ds,ρ,β⟩ a→Bok β v→v r=none→v l=none→r≠l→A0e β r=none→A0e β l=none→
   CallsX P mn kf (first++#[.func (.yield l) #[] #[]]++captured) (fun e u=>∃x lp,e = .ret x∧u l=some (true,.loop lp)∧lp.state≠.busy∧lp.pending=none∧
     ∃σ' u',Q .normal σ' u'∧σ'.ds={target:=.collected r,args:=#[] }::ds∧SubR σ'.ρ ρ∧Bok σ'.β u'∧(u'.union (A0e σ'.β)).Le (u.set l true (.loop {lp with state:=.exhausted })))
    (((v.set r true (.deferred (some []))).set l true (.loop {state:=.ready,pending:=none,fn:=fnId,tmps:=a.tmps,params:=params,assign:=assign,body:=body,defers:=r })).union (A0e β))) :
  XC P mn none n (.rangeFunc fop params assign body) Q ⟨ds,ρ,β⟩ v:=fun a hfit hb=>by
 refine x_rangeFunc (A0o hfit _ _ hf) hk fun r l fnId h1 h2 h3=>?_
 have hsp:∀{b:Nat},(v.union (A0e β)) b=none→v b=none∧A0e β b=none:=fun {b} hb'=>by
  unfold View.union at hb'
  cases e:v b with
  | none=>rw [e]at hb';exact⟨rfl,hb'⟩
  | some x=>rw [e]at hb';cases hb'
 obtain⟨r1,r2⟩:=hsp h1
 obtain⟨l1,l2⟩:=hsp h2
 rw [A7a,A7a]
 refine(h a r l fnId hfit hb r1 l1 h3 r2 l2).mono fun e u hR=>⟨u,Le.refl _,?_⟩
 obtain⟨x,lp,rfl,q1,q2,q3,σ',u',q4,q5,q6,q7,q8⟩:=hR
 refine⟨x,lp,Z,q1,q2,q3,σ',u',q4,⟨hfit.size,?_,fun t y hy=>hfit.get t y (q6.get t y hy)⟩,q7,q8⟩
 rw [q5,hfit.defers]
end
end Go.Pal
end
section
namespace Go.Proofs.YtiolobmgibdfmaaGreat
open Go Go.Pal Go.Pal.Vo Go.Conc View
open Go.Proofs.Tryz
set_option maxHeartbeats 4000000
set_option maxRecDepth 20000
theorem u8_eq{d:Nat}{x y:Nat}{K:Bool→View→Prop}{E:Value→View→Prop}{v:View}(h:K (((x:Nat):Int)==((y:Nat):Int)) v):SemX prog (Op.equalIn (d+1) 100 (u8 x) (u8 y)) K E v:=by
 unfold Op.equalIn
 rw [A0d,A1r tab (t:=100) rfl]
 simp only [if_true]
 exact h
theorem B1h{cs:Array Value}{off:Nat}{x:Value}{K:Value→View→Prop}{E:Value→View→Prop}{v:View}(hx:cs[off]?=some x)(h:K x v):SemX prog (part 100 cs off) K E v:=by
 unfold part
 simp only [A0d]
 rw [B1y (tab.und_ok 100 _ Z)]
 simp only [aggOf,Bool.false_eq_true,if_false,hx]
 exact h
theorem wl_eqD(d:Nat)(a b:Wl){K:Bool→View→Prop}{E:Value→View→Prop}{v:View}(h:K (decide (a=b)) v):SemX prog (Op.equalIn (d+1+1) 102 (wlV a) (wlV b)) K E v:=by
 have hs:prog.stoodInHeld 102=false:=by kernel_rfl
 unfold Op.equalIn
 rw [A0d,A1r tab (t:=102) rfl]
 simp only [A0d,A3v,hs,Bool.false_eq_true,if_false,List.forIn_toArray,List.forIn_cons,List.forIn_nil]
 rw [if_pos dM]
 simp only [A0d]
 refine B1h (x:=u8 a.1) Z ?_
 refine B1h (x:=u8 b.1) Z ?_
 refine u8_eq ?_
 by_cases h1:a.1=b.1
 ·rw [show(((a.1:Nat):Int)==((b.1:Nat):Int))=true from by simp [h1]]
  simp only [Bool.not_true,Bool.false_eq_true,if_false,A0m,A0d]
  rw [if_pos dM]
  simp only [A0d]
  refine B1h (x:=u8 a.2) Z ?_
  refine B1h (x:=u8 b.2) Z ?_
  refine u8_eq ?_
  by_cases h2:a.2=b.2
  ·rw [show(((a.2:Nat):Int)==((b.2:Nat):Int))=true from by simp [h2]]
   rw [show decide (a=b)=true from decide_eq_true (Prod.ext h1 h2)]at h
   exact h
  ·rw [show(((a.2:Nat):Int)==((b.2:Nat):Int))=false from by simp;omega]
   rw [show decide (a=b)=false from decide_eq_false fun e=>h2 (by rw [e])]at h
   exact h
 ·rw [show(((a.1:Nat):Int)==((b.1:Nat):Int))=false from by simp;omega]
  rw [show decide (a=b)=false from decide_eq_false fun e=>h1 (by rw [e])]at h
  exact h
theorem wl_eq(a b:Wl){K:Bool→View→Prop}{E:Value→View→Prop}{v:View}(h:K (decide (a=b)) v):SemX prog (Op.equal 102 (wlV a) (wlV b)) K E v:=wl_eqD 9998 a b h
theorem wl_chkD(d:Nat)(e:Bool)(a:Wl){K:Unit→View→Prop}{E:Value→View→Prop}{v:View}(h:K () v):SemX prog (Instr.checkKey e (d+1+1) 102 (wlV a)) K E v:=by
 unfold Instr.checkKey
 rw [A0d,A1r tab (t:=102) rfl]
 simp only [A0d,List.forIn_toArray,List.forIn_cons,List.forIn_nil]
 rw [if_pos dM]
 simp only [A0d]
 refine B1h (x:=u8 a.1) Z ?_
 unfold Instr.checkKey
 simp only [A0d]
 rw [A1r tab (t:=100) rfl]
 simp only [A0m,A0d]
 rw [if_pos dM]
 simp only [A0d]
 refine B1h (x:=u8 a.2) Z ?_
 rw [A1r tab (t:=100) rfl]
 exact h
theorem wl_key:KeyT prog 102 wlV where
 eq:=fun a b=>wl_eq a b
 chk:=fun e a=>wl_chkD 9998 e a
 now:=⟨_,tab.und_ok 102 _ rfl,.inl fun a b=>rfl⟩
 bits:=fun a=>by simp [Instr.sameBits]
section
variable{mn:Who}{v:View}
abbrev natV(n:Nat):Value:=.int .i64 n
def OwnL(β:A0j)(r:Value)(l:List Nat):Prop:=∃a cap,r = .slice a l.length cap∧OwnS 3 1 β a l.length cap (l.map natV)
structure ListS where
 i:Nat
 seg:A0j
 a:Option Addr
 cap:Nat
def A6q(g i:Nat):List Nat:=(List.range i).filter (bit g)
theorem lstTo_le(g i:Nat):(A6q g i).length≤i:=by
 have:=List.length_filter_le (bit g) (List.range i)
 rwa [List.length_range]at this
theorem lstTo_succ(g i:Nat):A6q g (i+1)=if bit g i then A6q g i++[i]else A6q g i:=by
 unfold A6q
 rw [List.range_succ,List.filter_append]
 cases h:bit g i<;>simp [h]
theorem B3i{g:Nat}(hg:g<256):CallsB prog mn 117 #[u8 g] (RetB fun r β'=>OwnL β' r (lst g)) [] v:=by
 refine A0f tab func117 Z nB (args:=[_]) ?_
 repeat refine st ?_
 refine A1o (α:=ListS) (fun z=>⟨[],[(5,.int .i64 z.i),(0,u8 g),(3,.slice z.a (A6q g z.i).length z.cap)],z.seg⟩)
  (fun z u=>u=v∧z.i≤8∧OwnS 3 1 z.seg z.a (A6q g z.i).length z.cap ((A6q g z.i).map natV)) (fun z=>8-z.i) ⟨0,[],none,0⟩ ⟨Z,rg,cntL⟩ (Le.refl _) ⟨Z,Nat.zero_le _,.nil⟩ ?_
 rintro⟨i,seg,a,cap⟩ u ⟨rfl,hi,hseg⟩
 simp only at hi hseg
 dsimp only
 have hle:=lstTo_le g i
 repeat refine st ?_
 refine A0t Z (fun h=>?_) (fun h=>?_)
 ·replace h:=fa h
  repeat refine st ?_
  refine Q_op fun ho=>A0s ho A9n Z Z Z Z Z (A9l (n:=i) hg oM) ?_
  clear ho
  cases hb:bit g i with
  | true=>
   repeat refine st ?_
   refine Q_op fun ho=>A3x tab ho Z Z Z Z Z Z Z Z Z (fun b3 c3 hL=>?_)
   refine Q_op fun ho=>A2w tab (xs:=[natV i]) seg [(b3,c3,3)] [] ho Z Z Z Z Z Z Z Z Z Z cntA hseg
    (fun hb=>RowAt.own hb cntL hL) Z Z (by show(2*((A6q g i).length+1)+768)*8≤2^48;omega) oM (fun seg' a' cap' hS'=>?_)
   repeat refine st ?_
   have e:A6q g (i+1)=A6q g i++[i]:=by rw [lstTo_succ,if_pos hb]
   have el:(A6q g (i+1)).length=(A6q g i).length+1:=by rw [e,List.length_append];rfl
   refine A0c ⟨⟨i+1,seg',a',cap'⟩,u,by simp only;omega,⟨Z,?_,cntL⟩,Le.refl _,Z,by simp only;omega,?_⟩
   ·show SubR [_,_,(3,.slice a' (A6q g (i+1)).length cap')] _
    rw [el]
    exact rg
   ·show OwnS 3 1 seg' a' (A6q g (i+1)).length cap' ((A6q g (i+1)).map natV)
    rw [el,e,List.map_append]
    exact hS'
  | false=>
   repeat refine st ?_
   have e:A6q g (i+1)=A6q g i:=by rw [lstTo_succ,if_neg (by simp [hb])]
   refine A0c ⟨⟨i+1,seg,a,cap⟩,u,by simp only;omega,⟨Z,?_,cntL⟩,Le.refl _,Z,by simp only;omega,?_⟩
   ·show SubR [_,_,(3,.slice a (A6q g (i+1)).length cap)] _
    rw [e]
    exact rg
   ·show OwnS 3 1 seg a (A6q g (i+1)).length cap ((A6q g (i+1)).map natV)
    rw [e]
    exact hseg
 ·replace h:=fa h
  have hi8:i=8:=oM
  subst hi8
  repeat refine st ?_
  refine A0l tab seg (by exact .tmp rfl .nil) (Back.here cntL) ?_
  exact⟨a,cap,Z,hseg⟩
theorem nan_x{x:Int}:Ret1 prog mn 208 [.int .i64 x] (.bool false) v:=by
 refine A0f tab func208 Z nB (args:=[_]) ?_
 repeat refine st ?_
 refine A0l tab [] (by exact .tmp rfl .nil) (Back.here cntL) ?_
 exact⟨by show Value.bool (x != x)=_;simp,Z⟩
def cmpI(x y:Int):Int:=if x<y then -1 else if y<x then 1 else 0
theorem cmp_x{x y:Int}:Ret1 prog mn 195 [.int .i64 x,.int .i64 y] (.int .i64 (cmpI x y)) v:=by
 refine A0f tab func195 Z nB (args:=[_,_]) ?_
 repeat refine st ?_
 refine Q_op fun ho=>A0s ho bod208 Z Z Z Z Z nan_x ?_
 clear ho
 repeat refine st ?_
 refine Q_op fun ho=>A0s ho bod208 Z Z Z Z Z nan_x ?_
 clear ho
 repeat refine st ?_
 refine A0t Z (fun h=>?_) (fun h=>?_)
 ·replace h:=fa h
  repeat refine st ?_
  refine A0l tab [] (by exact .tmp rfl .nil) (Back.here cntL) ?_
  exact⟨by unfold cmpI;rw [if_pos h];rfl,Z⟩
 ·replace h:=fa h
  have h1:=h
  clear h
  repeat refine st ?_
  refine A0t Z (fun h=>?_) (fun h=>?_)
  ·replace h:=fa h
   repeat refine st ?_
   refine A0l tab [] (by exact .tmp rfl .nil) (Back.here cntL) ?_
   exact⟨by unfold cmpI;rw [if_neg h1,if_pos h];rfl,Z⟩
  ·replace h:=fa h
   repeat refine st ?_
   refine A0l tab [] (by exact .tmp rfl .nil) (Back.here cntL) ?_
   exact⟨by unfold cmpI;rw [if_neg h1,if_neg h];rfl,Z⟩
theorem B0i:∀(i:Nat) (l m:List Nat),l.take i=m.take i→i≤l.length→i≤m.length→lexI l m=lexI (l.drop i) (m.drop i)
 | 0,l,m,_,_,_=>rfl
 | i+1,[],m,_,h,_=>by simp at h
 | i+1,_::_,[],_,_,h=>by simp at h
 | i+1,x::l,y::m,h,h1,h2=>by
  simp only [List.take_succ_cons,List.cons.injEq]at h
  obtain⟨rfl,h⟩:=h
  simp only [lexI,Nat.lt_irrefl,if_false,List.drop_succ_cons]
  exact B0i i l m h (by simpa using h1) (by simpa using h2)
theorem compareL_x{a a':Option Addr}{cap cap':Nat}{l m:List Nat}(hl:RowAt v a (l.map natV))(hm:RowAt v a' (m.map natV))(h1:l.length<2^62)(h2:m.length<2^62) :
    Ret1 prog mn 173 [.slice a l.length cap,.slice a' m.length cap'] (.int .i64 (lexI l m)) v:=by
  refine A0f tab func173 Z nB (args:=[_,_]) ?_
  repeat refine st ?_
  refine A1o (α:=Nat) (fun i=>⟨[],[(11,.int .i64 i),(10,.int .i64 l.length),(9,.slice a l.length cap),(0,.slice a l.length cap),(1,.slice a' m.length cap')],[]⟩)
    (fun i u=>u=v∧i≤l.length∧i≤m.length∧l.take i=m.take i) (fun i=>l.length-i) 0 ⟨Z,rg,cntL⟩ (Le.refl _) ⟨Z,Nat.zero_le _,Nat.zero_le _,Z⟩ ?_
  rintro i u ⟨rfl,hi,hi',hp⟩
  repeat refine st ?_
  refine A0t Z (fun h=>?_) (fun h=>?_)
  · replace h:=fa h
    have hlt:i<l.length:=oM
    obtain⟨bb,off,p,c,e,f,rfl,hv,hc⟩:=hl.get hlt
    repeat refine st ?_
    refine A2t tab i Z Z Z Z Z Z Z hlt ?_
    refine A2p tab Z Z Z hv (A1b tab Z Z Z (by rw [Nat.mul_one];exact hc _ hlt)) ?_
    have h:=h
    clear h
    repeat refine st ?_
    refine A0t Z (fun h=>?_) (fun h=>?_)
    · replace h:=fa h
      have him:i=m.length:=oM
      repeat refine st ?_
      refine A0l tab [] (by exact .tmp rfl .nil) (Back.here cntL) ?_
      refine⟨?_,Z⟩
      rw [B0i i l m hp hi hi',him,List.drop_length,←him,List.drop_eq_getElem_cons hlt]
      rfl
    · replace h:=fa h
      have hlt':i<m.length:=oM
      obtain⟨bb',off',p',c',e',f',rfl,hv',hc'⟩:=hm.get hlt'
      repeat refine st ?_
      refine A2t tab i Z Z Z Z Z Z Z hlt' ?_
      refine A2p tab Z Z Z hv' (A1b tab Z Z Z (by rw [Nat.mul_one];exact hc' _ hlt')) ?_
      repeat refine st ?_
      refine Q_op fun ho=>A0s ho bod195 Z Z Z Z Z cmp_x ?_
      clear ho
      have hd:lexI l m=lexI (l[i]::l.drop (i+1)) (m[i]::m.drop (i+1)):=by
        rw [B0i i l m hp hi hi',List.drop_eq_getElem_cons hlt,List.drop_eq_getElem_cons hlt']
      by_cases hlt1:l[i]<m[i]
      · rw [show cmpI (l[i]:Int) (m[i]:Int) = -1 from by unfold cmpI;rw [if_pos oM]]
        repeat refine st ?_
        refine A0l tab [] (by exact .tmp rfl .nil) (Back.here cntL) ?_
        refine⟨?_,Z⟩
        rw [hd];unfold lexI;rw [if_pos hlt1];rfl
      · by_cases hlt2:m[i]<l[i]
        · rw [show cmpI (l[i]:Int) (m[i]:Int)=1 from by unfold cmpI;rw [if_neg oM,if_pos oM]]
          repeat refine st ?_
          refine A0l tab [] (by exact .tmp rfl .nil) (Back.here cntL) ?_
          refine⟨?_,Z⟩
          rw [hd];unfold lexI;rw [if_neg hlt1,if_pos hlt2];rfl
        · rw [show cmpI (l[i]:Int) (m[i]:Int)=0 from by unfold cmpI;rw [if_neg oM,if_neg oM]]
          repeat refine st ?_
          refine A0c ⟨i+1,u,oM,⟨Z,rg,cntL⟩,Le.refl _,Z,hlt,hlt',?_⟩
          rw [List.take_succ_eq_append_getElem hlt,List.take_succ_eq_append_getElem hlt',hp,show l[i]=m[i] by omega]
  · replace h:=fa h
    have hin:i=l.length:=oM
    have hd:lexI l m=lexI [] (m.drop i):=by
      rw [B0i i l m hp hi hi']
      rw [hin,List.drop_length]
    repeat refine st ?_
    refine A0t Z (fun h=>?_) (fun h=>?_)
    · replace h:=fa h
      repeat refine st ?_
      refine A0l tab [] (by exact .tmp rfl .nil) (Back.here cntL) ?_
      refine⟨?_,Z⟩
      rw [hd,List.drop_eq_getElem_cons (show i<m.length by omega)]
      rfl
    · replace h:=fa h
      repeat refine st ?_
      refine A0l tab [] (by exact .tmp rfl .nil) (Back.here cntL) ?_
      refine⟨?_,Z⟩
      rw [hd,List.drop_eq_nil_of_le (show m.length≤i by omega)]
      rfl
end
section
variable{mn:Who}{v:View}
abbrev wC(w:Wl):List Value:=[u8 w.1,u8 w.2]
def wsC(l:List Wl):List Value:=l.flatMap wC
def A4i(P F n:Nat):Ents Wl:=((A2a P F).take n).zipIdx.map fun p=>(p.1,Value.bool true,p.2)
theorem A8n(F:Nat):∀n,(((List.range n).flatMap fun t=>(List.range (2 ^ F)).map fun s=>(t,s)):List Wl).length=n*2 ^ F
 | 0=>by simp
 | n+1=>by rw [List.range_succ,List.flatMap_append,List.length_append,A8n F n,Nat.succ_mul];simp
theorem A3w(P F:Nat):(A2a P F).length=2 ^ P*2 ^ F:=A8n F _
theorem everyW_get{P F t s:Nat}(ht:t<2 ^ P)(hs:s<2 ^ F):(A2a P F)[t*2 ^ F+s]?=some (t,s):=by
  unfold A2a
  have key:∀(n t:Nat),t<n→(((List.range n).flatMap fun t=>(List.range (2 ^ F)).map fun s=>(t,s)):List Wl)[t*2 ^ F+s]?=some (t,s):=by
    intro n
    induction n with
    | zero=>intro t h;omega
    | succ n ih=>
      intro t h
      rw [List.range_succ,List.flatMap_append]
      have hl:(((List.range n).flatMap fun t=>(List.range (2 ^ F)).map fun s=>(t,s)):List Wl).length=n*2 ^ F:=A8n F n
      by_cases e:t<n
      · rw [List.getElem?_append_left (by rw [hl];calc t*2 ^ F+s<t*2 ^ F+2 ^ F:=oM
                                                  _=(t+1)*2 ^ F:=by rw [Nat.succ_mul]
                                                  _≤n*2 ^ F:=Nat.mul_le_mul_right _ e)]
        exact ih t e
      · have e':t=n:=oM
        subst e'
        rw [List.getElem?_append_right (by rw [hl];omega),hl,show t*2 ^ F+s-t*2 ^ F=s by omega]
        simp [hs]
  exact key _ t ht
theorem take_succ'{α:Type}{l:List α}{n:Nat}{x:α}(h:l[n]?=some x):l.take (n+1)=l.take n++[x]:=by
 obtain⟨hn,e⟩:=List.getElem?_eq_some_iff.1 h
 rw [List.take_succ_eq_append_getElem hn,e]
theorem entsW_succ{P F n:Nat}{w:Wl}(h:(A2a P F)[n]?=some w):A4i P F (n+1)=A4i P F n++[(w,Value.bool true,n)]:=by
 have hn:=(List.getElem?_eq_some_iff.1 h).1
 unfold A4i
 rw [take_succ' h,List.zipIdx_append,List.map_append]
 simp [Nat.min_eq_left (Nat.le_of_lt hn)]
theorem entsW_new{P F n:Nat}{w:Wl}(h:(A2a P F)[n]?=some w):A3l w (A4i P F n) 0=none:=by
 refine findE_none fun e he heq=>?_
 unfold A4i at he
 rw [List.mem_map]at he
 obtain⟨p,hp,rfl⟩:=he
 simp only at heq
 subst heq
 have h1:p.1∈(A2a P F).take n:=(List.mem_zipIdx' hp).2 ▸ List.getElem_mem _
 obtain⟨i,hi,hie⟩:=List.getElem_of_mem h1
 rw [List.getElem_take]at hie
 rw [List.length_take]at hi
 obtain⟨hn,hne⟩:=List.getElem?_eq_some_iff.1 h
 have:=List.pairwise_iff_getElem.1 (A4z P F) i n oM hn oM
 exact this (by rw [hie,hne])
theorem beqf{a b:Nat}(h:a≠b):Nat.beq a b=false:=by
 cases e:Nat.beq a b with
 | false=>rfl
 | true=>exact absurd (Nat.eq_of_beq_eq_true e) h
theorem A6p{x:View}{b:Nat}{p q:Bool}{o o':Obj}:(x.set b p o).set b q o'=x.set b q o':=by
 funext c;unfold View.set;split<;>rfl
theorem set_comm{x:View}{b c:Nat}{p q:Bool}{o o':Obj}(h:b≠c):(x.set b p o).set c q o'=(x.set c q o').set b p o:=by
 funext d;unfold View.set
 by_cases e:d=c
 ·subst e;rw [if_pos rfl,if_neg (fun e=>h e.symm),if_pos rfl]
 ·rw [if_neg e];by_cases e2:d=b
  ·rw [if_pos e2,if_pos e2]
  ·rw [if_neg e2,if_neg e2,if_neg e]
theorem A5g{x:View}{b:Nat}{p:Bool}{o:Obj}:(x.set b p o) b=some (p,o):=by unfold View.set;rw [if_pos rfl]
theorem A2v{x:View}{b c:Nat}{p:Bool}{o:Obj}(h:c≠b):(x.set b p o) c=x c:=by unfold View.set;rw [if_neg h]
def rfOf:Code→Option (Code×Code)
 | .rangeFunc _ _ a b=>some (a,b)
 | .seq a b=>match rfOf a with|some c=>some c|none=>rfOf b
 | .block _ c=>rfOf c
 | _=>none
noncomputable def rfA:Code:=match f80.body with
 | some c=>(match rfOf c with|some d=>d.1|none=>.skip)
 | none=>.skip
noncomputable def rfB:Code:=match f80.body with
 | some c=>(match rfOf c with|some d=>d.2|none=>.skip)
 | none=>.skip
structure WH where
 P:Nat
 F:Nat
 wa:Option Addr
 wn:Nat
 wc:Nat
 bal:Nat
 bca:Nat
 bb:Nat
 be:Nat
 m:Nat
 r:Nat
 l:Nat
def WH.box(H:WH)(a:Option Addr)(n cp:Nat):A0j:=[(H.bal,#[.slice a n cp],93),(H.bca,#[.map (some H.m)],143),(H.bb,(boV H.P H.F H.wa H.wn H.wc).cells,95),(H.be,(boV H.P H.F H.wa H.wn H.wc).cells,95)]
def WH.view(H:WH)(v:View)(lp:Loop)(n:Nat):View:=((v.set H.m true (mapO wlV (A4i H.P H.F n) n)).set H.r true (.deferred (some []))).set H.l true (.loop lp)
def WH.I(H:WH)(v:View)(lp:Loop)(n:Nat)(u:View):Prop:=∃seg a cp,Bok (H.box a n cp++seg) (H.view v lp n)∧OwnS 102 2 seg a n cp (wsC ((A2a H.P H.F).take n))∧((H.view v lp n).union (A0e (H.box a n cp++seg))).Le u
theorem round_x{H:WH}{lp:Loop}(hP:H.P≤4)(hF:H.F≤3)(hmr:H.m≠H.r)(hml:H.m≠H.l)(hrl:H.r≠H.l)(ha:lp.assign=rfA)(hb:lp.body=rfB)(hst:lp.state = .ready)(hpe:lp.pending=none)(hpa:lp.params=#[14])
    (hsz:lp.tmps.size=f80.ntmps)(h3:lp.tmps[3]?=some (.pointer (some ⟨H.bal,0,none⟩)))(h4:lp.tmps[4]?=some (.pointer (some ⟨H.bca,0,none⟩)))
    {t s:Nat}(ht:t<2 ^ H.P)(hs:s<2 ^ H.F){u:View}(hI:H.I v lp (t*2 ^ H.F+s) u):YieldX prog mn H.l [wlV (t,s)] (H.I v lp (t*2 ^ H.F+s+1)) u:=by
  have hget:=everyW_get ht hs
  have hnlt:=(List.getElem?_eq_some_iff.1 hget).1
  rw [A3w]at hnlt
  have hp1:2 ^ H.P≤2^4:=Nat.pow_le_pow_right dM hP
  have hp2:2 ^ H.F≤2^3:=Nat.pow_le_pow_right dM hF
  have hn128:2 ^ H.P*2 ^ H.F≤2^4*2^3:=Nat.mul_le_mul hp1 hp2
  generalize hn:t*2 ^ H.F+s=n at *
  obtain⟨seg,a,cp,hbk,hS,hle⟩:=hI
  refine YieldX.le (fun x w hx hw=>?_) ?_ hle
  · obtain⟨seg,a,cp,q1,q2,q3⟩:=hx
    exact⟨seg,a,cp,q1,q2,q3.trans hw⟩
  have hlv:(H.view v lp n) H.l=some (true,.loop lp):=A5g
  refine yield_XC (n:=f80.ntmps) (ρ:=[(14,wlV (t,s)),(3,.pointer (some ⟨H.bal,0,none⟩)),(4,.pointer (some ⟨H.bca,0,none⟩))]) hlv hst (by rw [hpa];rfl) ?_ hbk ?_
  · rw [hpa]
    have ez:(#[14].zip [wlV (t,s)].toArray).foldl (fun(tmps:Array Value) (p:Nat×Value)=>tmps.setIfInBounds p.1 p.2) lp.tmps=lp.tmps.setIfInBounds 14 (wlV (t,s)):=by simp
    refine Eq.mpr (congrArg (fun z=>Pal.Fits f80.ntmps _ ⟨z,[]⟩) ez) ?_
    have h14:14<lp.tmps.size:=by rw [hsz];decide
    refine⟨by simpa using hsz,Z,?_⟩
    intro k x hk
    rw [Array.getElem?_setIfInBounds]
    by_cases e14:k=14
    · subst e14
      rw [if_pos Z,if_pos h14]
      exact hk
    · rw [if_neg (fun e=>e14 e.symm)]
      by_cases e3:k=3
      · subst e3
        rw [h3];exact hk
      · by_cases e4:k=4
        · subst e4
          rw [h4];exact hk
        · exfalso
          have b1:Nat.beq 14 k=false:=beqf (fun e=>e14 e.symm)
          have b2:Nat.beq 3 k=false:=beqf (fun e=>e3 e.symm)
          have b3:Nat.beq 4 k=false:=beqf (fun e=>e4 e.symm)
          simp only [Regs.get,b1,b2,b3,cond_false]at hk
          cases hk
  · refine Eq.mpr (congrArg (fun z=>XC prog mn (some H.l) f80.ntmps z _ _ _) ha) ?_
    refine A8v ?_
    unfold WH.box
    repeat (first|refine st ?_|refine qb fun bx=>?_)
    refine⟨Z,Z,?_⟩
    refine Eq.mpr (congrArg (fun z=>XC prog mn (some H.l) f80.ntmps z _ _ _) hb) ?_
    refine XC_sub (τ:=⟨[],[(5,.pointer (some ⟨bx,0,none⟩)),(3,.pointer (some ⟨H.bal,0,none⟩)),(4,.pointer (some ⟨H.bca,0,none⟩))],(bx,#[u8 t,u8 s],102)::(H.box a n cp++seg)⟩) (u:=(H.view v lp n).set H.l true (.loop {lp with state:=.busy })) ?_ ⟨rfl,rg,fun _=>Nat.le_refl _⟩ (Le.refl _)
    unfold WH.box
    refine B4g ?_
    repeat (first|refine st ?_|refine qb fun bx=>?_)
    refine Q_op fun ho=>A3x tab ho Z Z Z Z Z Z Z Z Z (fun b3 c3 hL=>?_)
    clear ho
    refine Q_op fun ho=>A2w tab (xs:=wC (t,s)) seg [(b3,c3,102)] [(bx,#[u8 t,u8 s],102),(H.bal,#[.slice a n cp],93),(H.bca,#[.map (some H.m)],143),(H.bb,(boV H.P H.F H.wa H.wn H.wc).cells,95),(H.be,(boV H.P H.F H.wa H.wn H.wc).cells,95)] ho Z Z Z Z Z Z Z Z Z Z cntA hS
      (fun hb=>RowAt.own hb cntL hL) Z Z (by show(2*(n+1)+768)*2≤2^48;omega) oM (fun seg' a' cap' hS'=>?_)
    clear ho
    repeat (first|refine st ?_|refine qb fun bx=>?_)
    have hvm:((H.view v lp n).set H.l true (.loop {lp with state:=.busy })) H.m=some (true,mapO wlV (A4i H.P H.F n) n):=by
      unfold WH.view
      rw [A2v hml,A2v hml,A2v hmr,A5g]
    refine Q_op fun ho=>A_mapNew tab wl_key (k:=(t,s)) ho Z Z Z Z Z hvm (entsW_new hget) ?_
    clear ho
    repeat (first|refine st ?_|refine qb fun bx=>?_)
    have hlp:({lp with state:=.ready,pending:=none }:Loop)=lp:=by
      cases lp;simp only at hst hpe;subst hst hpe;rfl
    have hl':(((H.view v lp n).set H.l true (.loop {lp with state:=.busy })).set H.m true (mapO wlV (A4i H.P H.F n++[((t,s),Value.bool true,n)]) (n+1))) H.l=some (true,.loop {lp with state:=.busy }):=by
      rw [A2v (fun e=>hml e.symm),A5g]
    refine⟨Z,hl',fun hbk' w hw=>?_⟩
    have hview:((((H.view v lp n).set H.l true (.loop {lp with state:=.busy })).set H.m true (mapO wlV (A4i H.P H.F n++[((t,s),Value.bool true,n)]) (n+1))).set H.l true (.loop {lp with state:=.ready,pending:=none }))=H.view v lp (n+1):=by
      rw [hlp]
      unfold WH.view
      rw [A6p,set_comm (fun e=>hml e.symm),A6p,set_comm (fun e=>hmr e.symm),A6p,entsW_succ hget]
    obtain⟨hb3,_⟩:=A4r (p:=true) (o:=.loop {lp with state:=.ready,pending:=none }) hbk' (A4e hbk' hl')
    rw [hview]at hb3 hw
    have hsub:Subm (H.box a' (n+1) cap'++seg') (seg'++[(bx,#[u8 t,u8 s],102),(H.bal,#[.slice a' (n+1) cap'],93),(H.bca,#[.map (some H.m)],143),(H.bb,(boV H.P H.F H.wa H.wn H.wc).cells,95),(H.be,(boV H.P H.F H.wa H.wn H.wc).cells,95)]):=by
      unfold WH.box;exact cntL
    obtain⟨k1,k2⟩:=Back.here (v:=H.view v lp (n+1)) hsub hb3
    refine⟨seg',a',cap',k1,?_,k2.trans hw⟩
    rw [take_succ' hget]
    unfold wsC at hS'⊢
    rw [List.flatMap_append,List.flatMap_singleton]
    exact hS'
end
end Go.Proofs.YtiolobmgibdfmaaGreat
end
