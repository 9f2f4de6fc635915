/- Part 36. -/
import Derived.Test.YtiolobmgibdfmaaGreatPbc
import Derived.Test.YtiolobmgibdfmaaGreatPbd
import Derived.Test.YtiolobmgibdfmaaGreatRaspra
set_option linter.all false
section
namespace Go.Proofs.YtiolobmgibdfmaaGreat
open Go Go.Pal Go.Proofs.Tryz
theorem bod52:A0n Tryz.prog 52:=⟨_,_,func52,Z,by decide⟩
theorem bod55:A0n Tryz.prog 55:=⟨_,_,func55,Z,by decide⟩
theorem bod57:A0n Tryz.prog 57:=⟨_,_,func57,Z,by decide⟩
theorem bod58:A0n Tryz.prog 58:=⟨_,_,func58,Z,by decide⟩
theorem bod114:A0n Tryz.prog 114:=⟨_,_,func114,Z,by decide⟩
end Go.Proofs.YtiolobmgibdfmaaGreat
end
section
namespace Go.Proofs.YtiolobmgibdfmaaGreat
open Go Go.Pal Go.Pal.Vo Go.Conc View
open Go.Proofs.Tryz
set_option maxHeartbeats 4000000
set_option maxRecDepth 20000
section
variable{mn:Who}{v:View}{a:Option Addr}{cap:Nat}
theorem factF_x{w:Wl}{p:Nat}{b:Nat}{q:Bool}{e:TypeId}{f:Nat×Nat}(h2:w.2<256)(hp:p<8)(hv:v b=some (q,.cells #[.int .i64 p] e f)):Ret1 prog mn 114 [wlV w,.pointer (some ⟨b,0,none⟩)] (.bool (bit w.2 p)) v:=by
 refine A0f tab func114 Z nB (args:=[_,_]) ?_
 repeat (first|refine st ?_|refine qb fun bx=>?_)
 refine A2p tab Z Z Z hv (x:=.int .i64 p) Z ?_
 repeat (first|refine st ?_|refine qb fun bx=>?_)
 refine Q_op fun ho=>A0s ho A9n Z Z Z Z Z (A9l h2 hp) ?_
 clear ho
 repeat (first|refine st ?_|refine qb fun bx=>?_)
 refine A0l tab [] (by exact .tmp rfl .nil) (Back.here cntL) ?_
 exact⟨Z,Z⟩
end
section
variable{v:View}{wa:Option Addr}{wc:Nat}
theorem Fact_x{P F:Int}{ws:List Wd}{x:Int}{best:Bool}(hws:WdsAt v wa ws)(hwl:ws.length<2^30) :
  CallsB prog ⟨true,true⟩ 52 #[boV P F wa ws.length wc,.int .i64 x,.bool best] (RetB fun r β'=>r = .tuple #[.int .i64 (if errN F P F ws x=0 then verd (someL best (A0g P.toNat F.toNat ws)) (fun w=>bit w.2 x.toNat)else 0),.int .i64 (errN F P F ws x)]∧β'=[]) [] v:=by
 refine A3m tab A4x func52 Z nB (args:=[_,_,_]) ?_
 repeat (first|refine st ?_|refine qb fun bx=>?_)
 refine Q_op fun ho=>A6x Z ho Z Z ?_
 clear ho
 repeat (first|refine st ?_|refine qb fun bx=>?_)
 refine Q_op fun ho=>A6g ho bod79 Z Z Z Z (A6u (hws.le (A0b _ _)) hwl) (fun h=>?_) (fun h=>?_)
 ·have he:errN F P F ws x=A2h P F ws:=if_neg h
  rw [he,if_neg h]
  refine pn ?_
  exact A2n tab Z ib dM sb (xs:=[_,_]) (by exact .tmp rfl (.cell rfl ib rfl .nil)) (Back.here fun p=>Nat.zero_le _) ⟨Z,Z⟩
 clear ho
 rw [show errN F P F ws x=if 0≤x∧x≤F-1 then voidE (A0g P.toNat F.toNat ws)else 3 from if_pos h]
 obtain⟨P,F,rfl,rfl,hv⟩:=A4w h
 simp only [Int.toNat_natCast]
 have hP4:=hv.p4
 have hF3:=hv.f3
 repeat (first|refine st ?_|refine qb fun bx=>?_)
 refine Q_op fun ho=>A_needR ho bod94 Z Z Z Z (fact_x oM) (fun h=>?_) (fun h=>?_)
 ·rw [if_neg (of_decide_eq_false h)]
  refine pn ?_
  exact A2n tab Z ib dM sb (xs:=[_,_]) (by exact .tmp rfl (.cell rfl ib rfl .nil)) (Back.here fun p=>Nat.zero_le _) ⟨Z,Z⟩
 clear ho
 have hx:=of_decide_eq_true h
 rw [if_pos hx]
 clear h
 obtain⟨x,rfl⟩:=Int.eq_ofNat_of_zero_le hx.1
 simp only [Int.toNat_natCast]
 repeat (first|refine st ?_|refine qb fun bx=>?_)
 rename_i b3 b4 b7
 refine Q_op fun ho=>A_wls ho bod102 Z Z Z Z (l:=A0g P F ws) (l':=someL best (A0g P F ws)) (of_x hv (hws.le (A0b _ _)) hwl) (fun h=>?_) (fun hne a cap βw hS=>?_)
 ·refine pn ?_
  rw [h]
  exact A2n tab Z ib dM sb (xs:=[_,_]) (by exact .tmp rfl (.cell rfl ib rfl .nil)) (Back.here fun p=>Nat.zero_le _) ⟨Z,Z⟩
 clear ho
 rw [A9v hne,if_pos rfl]
 refine A0w (β1:=βw++[(b4,#[Value.int .i64 x],3)]) (β2:=[(bx,(boV P F wa ws.length wc).cells,95),(b7,#[Value.int .i64 0],34),(b3,(boV P F wa ws.length wc).cells,24)])
  (show ∀p,Pal.cnt p (βw++[(bx,(boV P F wa ws.length wc).cells,95),(b7,#[Value.int .i64 0],34),(b4,#[Value.int .i64 x],3),(b3,(boV P F wa ws.length wc).cells,24)])=Pal.cnt p ((βw++[(b4,#[Value.int .i64 x],3)])++[(bx,(boV P F wa ws.length wc).cells,95),(b7,#[Value.int .i64 0],34),(b3,(boV P F wa ws.length wc).cells,24)])from cntA) (fun hbk=>?_)
 have hrow:=RowAt.own hbk (show Subm βw (βw++[(b4,#[Value.int .i64 x],3)])from cntL) hS
 have hv4:=A9c hbk (b:=b4) ib
 have hlen:=A4s (ws:=ws) hv.p4 hv.f3
 have hlen2:=someL_len (best:=best) (l:=A0g P F ws)
 repeat (first|refine st ?_|refine qb fun bx=>?_)
 refine Q_op fun ho=>A0s ho bod101 Z Z Z Z Z (verdict_x (p:=fun w=>bit w.2 x) hrow oM bod114 (fun w hw u hl=>factF_x (A4d hv.p4 hv.f3 (someL_mem hw)).2 oM (hl _ _ hv4))) ?_
 clear ho
 repeat (first|refine st ?_|refine qb fun bx=>?_)
 exact A6e tab Z (β':=[]) (xs:=[_,_]) (by exact .tmp rfl (.cell rfl ib rfl .nil)) (Back.forget hbk (Back.here fun p=>Nat.zero_le _)) ⟨Z,Z⟩
end
section
variable{mn:Who}{rd:Option Nat}{n:Nat}{Q:Exit→St→View→Prop}{ds:List Deferred}{ρ:Regs}{β:A0j}{v:View}{K:St→View→Prop}
 {ops:Array Oper}{i:Nat}{l:List Oper}{d:Nat}{ty:TypeId}{pos:String}{af:Array Edge}{gu:Option (Nat×Bool)}
theorem A_neqR{y z:Operand}{t2:TypeId}{a b c e:Int}(ho:ops[i]?=some ⟨some d,.binOp .neq 42 y z t2,ty,pos,af,gu⟩)(hw:A0x ops gu ρ=some true)(hn:Nat.blt d n=true)(hy:ρ.val y=some (A5u a b))(hz:ρ.val z=some (A5u c e))
  (h:K ⟨ds,(d,.bool (!decide (a=c∧b=e)))::ρ,β⟩ v):XOp prog mn rd n ops i Q K ⟨ds,ρ,β⟩ v:=by
 refine A2x ho (A0p hw) (.inr Z) hn fun ev hev hbk=>?_
 have hg:prog.eqGuardType prog.depth 42=false:=by kernel_rfl
 simp only [execOp,A0d,hev _ _ hy,hev _ _ hz,eqGuard,binOp,A3v,hg]
 simp only [Bool.not_true,Bool.false_eq_true,if_false,A0d]
 rw [A3v,A3v,hg]
 simp only [Bool.not_true,Bool.not_false,Bool.false_eq_true,if_false,if_true,A0m,A0d]
 refine range_eq ?_
 exact⟨β,v,⟨hbk,Le.refl _⟩,h⟩
end
section
variable{P F:Nat}{ws:List Wd}{v:View}{a:Option Addr}{cap:Nat}
theorem B4y{l:List Wl}(h:0<l.length):voidE l=0:=A9v (List.length_pos_iff.1 h)
theorem person_r{p:Nat}{best:Bool}(h:VOk P F ws)(hws:WdsAt v a ws)(hp:p<P)(hn:0<(A0g P F ws).length) :
  Ret1 prog ⟨true,true⟩ 41 [boV P F a ws.length cap,.int .i64 p,.bool best] (.tuple #[.int .i64 (verd (someL best (A0g P F ws)) (fun w=>bit w.1 p)),.int .i64 0]) v:=by
 have h8:=h.w8
 have e:errN P P F ws p=0:=by unfold errN;rw [h.check,if_pos Z,if_pos oM];exact B4y hn
 have:=Person_x (v:=v) (wa:=a) (wc:=cap) (P:=P) (F:=F) (x:=p) (best:=best) hws oM
 rw [e,if_pos rfl]at this
 exact this
theorem follows_r{x:Wd}(h:VOk P F ws)(hws:WdsAt v a ws)(hx:A2k P F x=0)(hn:0<(A0g P F ws).length) :
  Ret1 prog ⟨true,true⟩ 42 [boV P F a ws.length cap,wdV x] (.tuple #[.int .i64 (verd (A0g P F ws) (A4h P x)),.int .i64 0]) v:=by
 have h8:=h.w8
 have e:errF P F ws x=0:=by unfold errF;rw [h.check,if_pos rfl];simp only [Int.toNat_natCast];rw [if_pos hx];exact B4y hn
 have:=B4e (v:=v) (wa:=a) (wc:=cap) (P:=P) (F:=F) (x:=x) hws oM
 rw [e,if_pos rfl]at this
 exact this
theorem follows_v{x:Wd}(h:VOk P F ws)(hws:WdsAt v a ws)(hx:A2k P F x=0)(hn:A0g P F ws=[]) :
  Ret1 prog ⟨true,true⟩ 42 [boV P F a ws.length cap,wdV x] (.tuple #[.int .i64 0,.int .i64 11]) v:=by
 have h8:=h.w8
 have e:errF P F ws x=11:=by unfold errF;rw [h.check,if_pos rfl];simp only [Int.toNat_natCast];rw [if_pos hx,hn];rfl
 have:=B4e (v:=v) (wa:=a) (wc:=cap) (P:=P) (F:=F) (x:=x) hws oM
 rw [e]at this
 exact this
end
def saidN(some all:Nat):Int:=if some=0 then 2 else if some=all then 1 else 3
theorem lst0:lst 0=[]:=by decide
theorem lst0l:(lst 0).length=0:=by decide
theorem own0:OwnS 3 1 [] none (lst 0).length 0 ((lst 0).map natV):=by rw [lst0];exact .nil
theorem lst_tab2:(List.range 8).all (fun p=>(List.range (2 ^ p)).all fun g=>lst (g+2 ^ p)==lst g++[p])=true:=by decide +kernel
theorem lst_snoc{p g:Nat}(hp:p<8)(hg:g<2 ^ p):lst (g+2 ^ p)=lst g++[p]:=
 eq_of_beq (List.all_eq_true.1 (List.all_eq_true.1 lst_tab2 p (List.mem_range.2 hp)) g (List.mem_range.2 hg))
structure So1 where
 p:Nat
 g:Nat
 a:Option Addr
 c:Nat
 seg:A0j
 β:A0j
section
variable{mn:Who}{v:View}
theorem said_x{some all:Nat}:Ret1 prog mn 58 [.int .i64 some,.int .i64 all] (.int .i64 (saidN some all)) v:=by
 refine A0f tab func58 Z nB (args:=[_,_]) ?_
 unfold saidN
 repeat refine st ?_
 refine A0t Z (fun h=>?_) (fun h=>?_)
 ·have h0:some=0:=by have:=eq_of_beq h;omega
  clear h
  repeat refine st ?_
  refine A0l tab [] (by exact .tmp rfl .nil) (Back.here cntL) ?_
  rw [if_pos h0];exact⟨Z,Z⟩
 ·have h0:¬some=0:=by have:=beq_eq_false_iff_ne.1 h;omega
  clear h
  rw [if_neg h0]
  repeat refine st ?_
  refine A0t Z (fun h=>?_) (fun h=>?_)
  ·have h1:some=all:=by have:=eq_of_beq h;omega
   clear h
   repeat refine st ?_
   refine A0l tab [] (by exact .tmp rfl .nil) (Back.here cntL) ?_
   rw [if_pos h1];exact⟨Z,Z⟩
  ·have h1:¬some=all:=by have:=beq_eq_false_iff_ne.1 h;omega
   clear h
   repeat refine st ?_
   refine A0l tab [] (by exact .tmp rfl .nil) (Back.here cntL) ?_
   rw [if_neg h1];exact⟨Z,Z⟩
theorem worldOf_x{g:Bg}{N:Nat}{β:A0j}{P F:Nat}{wa:Option Addr}{wn wc:Nat}(hr:g.ok v)(hB:g.On N β)(hN:N+200<2^62)(hP:P≤4)(hF:F≤3) :
  CallsB prog mn 55 #[g.ptr,boV P F wa wn wc] (RetB fun r β'=>∃(w:Wl) (x1 x2:Option Addr) (c1 c2:Nat) (β0 β1 β2:A0j),w.1<2 ^ P∧w.2<2 ^ F∧r = .agg #[.slice x1 (lst w.1).length c1,.slice x2 (lst w.2).length c2]∧β'=β0++(β1++β2)∧
   g.On (N+7) β0∧OwnS 3 1 β1 x1 (lst w.1).length c1 ((lst w.1).map natV)∧OwnS 3 1 β2 x2 (lst w.2).length c2 ((lst w.2).map natV)) β v:=by
 refine A0f tab func55 Z nB (args:=[_,_]) ?_
 repeat (first|refine sr ?_|refine qb fun bx=>?_)
 rename_i b3 b4
 obtain⟨b5,rfl⟩:∃b:Nat,b=bx:=⟨bx,rfl⟩
 refine A6f (fun σ u=>u=v∧∃z:So1,z.g<2 ^ P∧g.On (N+4) z.β∧OwnS 3 1 z.seg z.a (lst z.g).length z.c ((lst z.g).map natV)∧σ=⟨[],[(5,.pointer (some ⟨b5,0,none⟩)),(4,.pointer (some ⟨b4,0,none⟩)),(3,.pointer (some ⟨b3,0,none⟩)),(0,g.ptr)],z.β++(z.seg++[(b5,#[.slice z.a (lst z.g).length z.c,.slice none 0 0],38),(b4,#[.slice none 0 0,.slice none 0 0],38),(b3,#[.int .i64 P,.int .i64 F,.slice wa wn wc],24)])⟩) ?_ ?_
 ·rintro σ u ⟨rfl,⟨_,t,x1,c1,βt,β3⟩,ht,hB,hS1,rfl⟩
  dsimp only at ht hB hS1⊢
  repeat (first|refine st ?_|refine qb fun bx=>?_)
  refine A1o (α:=So1) (fun z=>⟨[],[(7,.int .i64 z.p),(5,.pointer (some ⟨b5,0,none⟩)),(4,.pointer (some ⟨b4,0,none⟩)),(3,.pointer (some ⟨b3,0,none⟩)),(0,g.ptr)],z.β++(z.seg++(βt++[(b5,#[.slice x1 (lst t).length c1,.slice z.a (lst z.g).length z.c],38),(b4,#[.slice none 0 0,.slice none 0 0],38),(b3,#[.int .i64 P,.int .i64 F,.slice wa wn wc],24)]))⟩)
   (fun z w=>u=w∧z.p≤F∧z.g<2 ^ z.p∧g.On (N+4+z.p) z.β∧OwnS 3 1 z.seg z.a (lst z.g).length z.c ((lst z.g).map natV)) (fun z=>F-z.p)
   ⟨0,0,none,0,[],β3⟩ ⟨Z,rg,?_⟩ (Le.refl _) ⟨Z,Nat.zero_le _,Nat.one_pos,hB,own0⟩ ?_
  ·show Subm (β3++([]++(βt++[(b5,#[.slice x1 (lst t).length c1,.slice none (lst 0).length 0],38),(b4,#[.slice none 0 0,.slice none 0 0],38),(b3,#[.int .i64 P,.int .i64 F,.slice wa wn wc],24)]))) (β3++(βt++[(b5,#[.slice x1 (lst t).length c1,.slice none 0 0],38),(b4,#[.slice none 0 0,.slice none 0 0],38),(b3,#[.int .i64 P,.int .i64 F,.slice wa wn wc],24)]))
   rw [lst0l]
   exact cntL
  rintro⟨p,l,a,c,seg,β4⟩ w ⟨rfl,hp,hl,hB,hS⟩
  dsimp only at hp hl hB hS⊢
  have hl8:=lst_len8 l
  repeat (first|refine st ?_|refine qb fun bx=>?_)
  refine A0t Z (fun h=>?_) (fun h=>?_)
  ·have hlt:p<F:=by have:=of_decide_eq_true h;omega
   clear h
   repeat (first|refine st ?_|refine qb fun bx=>?_)
   refine A2f (bin:=β4) (by repeat (first|(with_reducible exact A0k)|(with_reducible exact A0u)|(with_reducible exact A1e)|(with_reducible apply A0y))) ?_
   refine Q_op fun ho=>A0i β4 _ ho bod45 Z Z Z Z Z A0k (B3b (hr.le (A0b _ _)) hB oM 2 oM) (fun x β' hR=>?_)
   clear ho
   clear hB
   rename A0j=>β5
   obtain⟨⟨tt,rfl⟩,hB⟩:=hR
   cases tt
   ·repeat (first|refine st ?_|refine qb fun bx=>?_)
    exact A0c ⟨⟨p+1,l,a,c,seg,β5⟩,u,by dsimp only;omega,⟨Z,rg,cntL⟩,Le.refl _,Z,by dsimp only;omega,Nat.lt_of_lt_of_le hl (Nat.pow_le_pow_right dM (Nat.le_succ p)),hB.le (by dsimp only;omega),hS⟩
   ·have hsn:=lst_snoc (show p<8 by omega) hl
    repeat (first|refine st ?_|refine qb fun bx=>?_)
    refine Q_op fun ho=>A3x tab ho Z Z Z Z Z Z Z Z Z (fun b6 c3 hL=>?_)
    refine Q_op fun ho=>A2w tab (xs:=[natV p]) seg [(b6,c3,3)] (β5++(βt++[(b5,#[.slice x1 (lst t).length c1,.slice a (lst l).length c],38),(b4,#[.slice none 0 0,.slice none 0 0],38),(b3,#[.int .i64 P,.int .i64 F,.slice wa wn wc],24)])) ho Z Z Z Z Z Z Z Z Z Z cntA hS
     (fun hb=>RowAt.own hb cntL hL) Z Z (by show(2*((lst l).length+1)+768)*8≤2^48;omega) oM (fun seg' a' cap' hS'=>?_)
    clear ho
    repeat (first|refine st ?_|refine qb fun bx=>?_)
    refine A0c ⟨⟨p+1,l+2 ^ p,a',cap',seg',β5⟩,u,by dsimp only;omega,⟨Z,rg,?_⟩,Le.refl _,Z,by dsimp only;omega,by dsimp only;rw [Nat.pow_succ];omega,hB.le (by dsimp only;omega),?_⟩
    ·show Subm (β5++(seg'++(βt++[(b5,#[.slice x1 (lst t).length c1,.slice a' (lst (l+2 ^ p)).length cap'],38),(b4,#[.slice none 0 0,.slice none 0 0],38),(b3,#[.int .i64 P,.int .i64 F,.slice wa wn wc],24)]))) (seg'++(β5++(βt++[(b5,#[.slice x1 (lst t).length c1,.slice a' ((lst l).length+1) cap'],38),(b4,#[.slice none 0 0,.slice none 0 0],38),(b3,#[.int .i64 P,.int .i64 F,.slice wa wn wc],24)])))
     rw [hsn,List.length_append,List.length_singleton]
     exact cntL
    ·dsimp only
     rw [hsn,List.length_append,List.length_singleton,List.map_append]
     exact hS'
  ·have hpe:p=F:=by have:=of_decide_eq_false h;omega
   clear h
   subst hpe
   repeat (first|refine st ?_|refine qb fun bx=>?_)
   exact A0l tab (xs:=[_]) (β4++(βt++seg)) (by exact .cell rfl ib rfl .nil) (Back.here cntL) ⟨(t,l),x1,a,c1,c,β4,βt,seg,ht,hl,Z,Z,hB.le oM,hS1,hS⟩
 ·repeat (first|refine st ?_|refine qb fun bx=>?_)
  refine A1o (α:=So1) (fun z=>⟨[],[(6,.int .i64 z.p),(5,.pointer (some ⟨b5,0,none⟩)),(4,.pointer (some ⟨b4,0,none⟩)),(3,.pointer (some ⟨b3,0,none⟩)),(0,g.ptr)],z.β++(z.seg++[(b5,#[.slice z.a (lst z.g).length z.c,.slice none 0 0],38),(b4,#[.slice none 0 0,.slice none 0 0],38),(b3,#[.int .i64 P,.int .i64 F,.slice wa wn wc],24)])⟩)
   (fun z w=>v=w∧z.p≤P∧z.g<2 ^ z.p∧g.On (N+z.p) z.β∧OwnS 3 1 z.seg z.a (lst z.g).length z.c ((lst z.g).map natV)) (fun z=>P-z.p)
   ⟨0,0,none,0,[],β⟩ ⟨Z,rg,?_⟩ (Le.refl _) ⟨Z,Nat.zero_le _,Nat.one_pos,hB,own0⟩ ?_
  ·show Subm (β++([]++[(b5,#[.slice none (lst 0).length 0,.slice none 0 0],38),(b4,#[.slice none 0 0,.slice none 0 0],38),(b3,#[.int .i64 P,.int .i64 F,.slice wa wn wc],24)])) ((b5,#[.slice none 0 0,.slice none 0 0],38)::(b4,#[.slice none 0 0,.slice none 0 0],38)::(b3,#[.int .i64 P,.int .i64 F,.slice wa wn wc],24)::β)
   rw [lst0l]
   exact cntL
  rintro⟨p,l,a,c,seg,β4⟩ w ⟨rfl,hp,hl,hB,hS⟩
  dsimp only at hp hl hB hS⊢
  have hl8:=lst_len8 l
  repeat (first|refine st ?_|refine qb fun bx=>?_)
  refine A0t Z (fun h=>?_) (fun h=>?_)
  ·have hlt:p<P:=by have:=of_decide_eq_true h;omega
   clear h
   repeat (first|refine st ?_|refine qb fun bx=>?_)
   refine A2f (bin:=β4) (by repeat (first|(with_reducible exact A0k)|(with_reducible exact A0u)|(with_reducible exact A1e)|(with_reducible apply A0y))) ?_
   refine Q_op fun ho=>A0i β4 _ ho bod45 Z Z Z Z Z A0k (B3b (hr.le (A0b _ _)) hB oM 2 oM) (fun x β' hR=>?_)
   clear ho
   clear hB
   rename A0j=>β5
   obtain⟨⟨tt,rfl⟩,hB⟩:=hR
   cases tt
   ·repeat (first|refine st ?_|refine qb fun bx=>?_)
    exact A0c ⟨⟨p+1,l,a,c,seg,β5⟩,v,by dsimp only;omega,⟨Z,rg,cntL⟩,Le.refl _,Z,by dsimp only;omega,Nat.lt_of_lt_of_le hl (Nat.pow_le_pow_right dM (Nat.le_succ p)),hB.le (by dsimp only;omega),hS⟩
   ·have hsn:=lst_snoc (show p<8 by omega) hl
    repeat (first|refine st ?_|refine qb fun bx=>?_)
    refine Q_op fun ho=>A3x tab ho Z Z Z Z Z Z Z Z Z (fun b6 c3 hL=>?_)
    refine Q_op fun ho=>A2w tab (xs:=[natV p]) seg [(b6,c3,3)] (β5++[(b5,#[.slice a (lst l).length c,.slice none 0 0],38),(b4,#[.slice none 0 0,.slice none 0 0],38),(b3,#[.int .i64 P,.int .i64 F,.slice wa wn wc],24)]) ho Z Z Z Z Z Z Z Z Z Z cntA hS
     (fun hb=>RowAt.own hb cntL hL) Z Z (by show(2*((lst l).length+1)+768)*8≤2^48;omega) oM (fun seg' a' cap' hS'=>?_)
    clear ho
    repeat (first|refine st ?_|refine qb fun bx=>?_)
    refine A0c ⟨⟨p+1,l+2 ^ p,a',cap',seg',β5⟩,v,by dsimp only;omega,⟨Z,rg,?_⟩,Le.refl _,Z,by dsimp only;omega,by dsimp only;rw [Nat.pow_succ];omega,hB.le (by dsimp only;omega),?_⟩
    ·show Subm (β5++(seg'++[(b5,#[.slice a' (lst (l+2 ^ p)).length cap',.slice none 0 0],38),(b4,#[.slice none 0 0,.slice none 0 0],38),(b3,#[.int .i64 P,.int .i64 F,.slice wa wn wc],24)])) (seg'++(β5++[(b5,#[.slice a' ((lst l).length+1) cap',.slice none 0 0],38),(b4,#[.slice none 0 0,.slice none 0 0],38),(b3,#[.int .i64 P,.int .i64 F,.slice wa wn wc],24)]))
     rw [hsn,List.length_append,List.length_singleton]
     exact cntL
    ·dsimp only
     rw [hsn,List.length_append,List.length_singleton,List.map_append]
     exact hS'
  ·have hpe:p=P:=by have:=of_decide_eq_false h;omega
   clear h
   subst hpe
   repeat (first|refine st ?_|refine qb fun bx=>?_)
   exact A0c ⟨_,_,⟨Z,⟨p,l,a,c,seg,β4⟩,hl,hB.le oM,hS,Z⟩,⟨Z,rg,cntL⟩,Le.refl _⟩
end
def lieN(P:Nat)(w:Wl):Int:=(P:Int)-(lst w.1).length
def loF(P:Nat)(l:List Wl):Int:=l.foldl (fun m w=>if lieN P w<m then lieN P w else m) 99
def hiF(P:Nat)(l:List Wl):Int:=l.foldl (fun m w=>if lieN P w > m then lieN P w else m) (-1)
theorem loF_snoc{P:Nat}{l:List Wl}{w:Wl}:loF P (l++[w])=if lieN P w<loF P l then lieN P w else loF P l:=by
 unfold loF;rw [List.foldl_append];rfl
theorem hiF_snoc{P:Nat}{l:List Wl}{w:Wl}:hiF P (l++[w])=if lieN P w > hiF P l then lieN P w else hiF P l:=by
 unfold hiF;rw [List.foldl_append];rfl
theorem lieN_at{P:Nat}{w:Wl}(hP:P≤4)(hw:w.1<2 ^ P):0≤lieN P w∧lieN P w≤P∧lieN P w=(lst (fls P w.1)).length:=by
 have h1:(List.range 5).all (fun P=>(List.range (2 ^ P)).all fun g=>(lst g).length+(lst (fls P g)).length==P)=true:=by decide +kernel
 have h2:=eq_of_beq (List.all_eq_true.1 (List.all_eq_true.1 h1 P (List.mem_range.2 oM)) w.1 (List.mem_range.2 hw))
 unfold lieN
 omega
theorem lo_spec{P:Nat}:∀{l:List Wl} {m:Int},(∀w∈l,m≤lieN P w)→m≤99→(∃w∈l,lieN P w=m)→loF P l=m:=by
 have key:∀(l:List Wl) (z m:Int),m≤z→(∀w∈l,m≤lieN P w)→(z=m∨∃w∈l,lieN P w=m)→l.foldl (fun m w=>if lieN P w<m then lieN P w else m) z=m:=by
  intro l
  induction l with
  | nil=>
   intro z m h1 h2 h3
   rcases h3 with h3|⟨w,hw,_⟩
   ·exact h3
   ·cases hw
  | cons x l ih=>
   intro z m h1 h2 h3
   rw [List.foldl_cons]
   have hx:=h2 x (List.mem_cons_self ..)
   refine ih _ _ (by split<;>omega) (fun w hw=>h2 w (List.mem_cons_of_mem _ hw)) ?_
   rcases h3 with h3|⟨w,hw,h3⟩
   ·left;split<;>omega
   ·rcases List.mem_cons.1 hw with rfl|hw
    ·left;split<;>omega
    ·exact .inr ⟨w,hw,h3⟩
 intro l m h1 h2 h3
 exact key l 99 m h2 h1 (.inr h3)
theorem hi_spec{P:Nat}:∀{l:List Wl} {m:Int},(∀w∈l,lieN P w≤m)→-1≤m→(∃w∈l,lieN P w=m)→hiF P l=m:=by
 have key:∀(l:List Wl) (z m:Int),z≤m→(∀w∈l,lieN P w≤m)→(z=m∨∃w∈l,lieN P w=m)→l.foldl (fun m w=>if lieN P w > m then lieN P w else m) z=m:=by
  intro l
  induction l with
  | nil=>
   intro z m h1 h2 h3
   rcases h3 with h3|⟨w,hw,_⟩
   ·exact h3
   ·cases hw
  | cons x l ih=>
   intro z m h1 h2 h3
   rw [List.foldl_cons]
   have hx:=h2 x (List.mem_cons_self ..)
   refine ih _ _ (by split<;>omega) (fun w hw=>h2 w (List.mem_cons_of_mem _ hw)) ?_
   rcases h3 with h3|⟨w,hw,h3⟩
   ·left;split<;>omega
   ·rcases List.mem_cons.1 hw with rfl|hw
    ·left;split<;>omega
    ·exact .inr ⟨w,hw,h3⟩
 intro l m h1 h2 h3
 exact key l (-1) m h2 h1 (.inr h3)
theorem lt_lie{P:Nat}{x y:Wl}(hP:P≤4)(hx:x.1<2 ^ P)(hy:y.1<2 ^ P)(h:ltW P x y=true):lieN P x≤lieN P y:=by
 have h1:=lieN_at hP hx
 have h2:=lieN_at hP hy
 unfold ltW cmpW at h
 rw [decide_eq_true_eq]at h
 unfold Vo.cnt at h
 split at h
 ·omega
 ·rename_i hc
  have:=Classical.not_not.1 hc
  omega
theorem lies_of{P F:Nat}{ws:List Wd}{W:List Wl}(hP:P≤4)(hF:F≤3)(hperm:W.Perm (A0g P F ws))(h0:0<W.length):liarsV P (A0g P F ws) = .agg #[.int .i64 (loF P W),.int .i64 (hiF P W)]∧(∀w,(A0g P F ws).head?=some w→lieN P w=loF P W):=by
 have hl:0<(A0g P F ws).length:=by rw [←hperm.length_eq];exact h0
 have hasc:=worldsL_asc (P:=P) (F:=F) oM oM ws
 have hlt:∀w∈A0g P F ws,w.1<2 ^ P:=fun w hw=>((worldsL_mem.1 hw).1).1
 have hmono:∀(i j:Nat) (hi:i<(A0g P F ws).length) (hj:j<(A0g P F ws).length),i≤j→lieN P (A0g P F ws)[i]≤lieN P (A0g P F ws)[j]:=fun i j hi hj hij=>by
  by_cases e:i=j
  ·subst e;exact Int.le_refl _
  ·exact lt_lie hP (hlt _ (List.getElem_mem hi)) (hlt _ (List.getElem_mem hj)) (List.pairwise_iff_getElem.1 hasc i j hi hj oM)
 have e1:loF P W=lieN P (A0g P F ws)[0]:=lo_spec (fun w hw=>by
  obtain⟨j,hj,rfl⟩:=List.getElem_of_mem (hperm.mem_iff.1 hw)
  exact hmono 0 j hl hj (Nat.zero_le _)) (by have:=lieN_at hP (hlt _ (List.getElem_mem hl));omega) ⟨_,hperm.mem_iff.2 (List.getElem_mem hl),Z⟩
 have e2:hiF P W=lieN P (A0g P F ws)[(A0g P F ws).length-1]:=hi_spec (fun w hw=>by
  obtain⟨j,hj,rfl⟩:=List.getElem_of_mem (hperm.mem_iff.1 hw)
  exact hmono j _ hj oM oM) (by have:=lieN_at hP (hlt _ (List.getElem_mem (show(A0g P F ws).length-1<(A0g P F ws).length by omega)));omega) ⟨_,hperm.mem_iff.2 (List.getElem_mem oM),Z⟩
 refine⟨?_,fun w hw=>?_⟩
 ·rw [liarsV_ne hl,e1,e2];rfl
 ·rw [e1]
  rw [List.head?_eq_getElem?,List.getElem?_eq_getElem hl]at hw
  cases hw;rfl
theorem verd_said{l W:List Wl}{p:Wl→Bool}(hperm:W.Perm l):verd l p=saidN (W.countP p) W.length:=by
 unfold verd saidN
 rw [hperm.countP_eq,hperm.length_eq]
def B4z(P:Nat)(W:List Wl)(w:Wl):Bool:=lieN P w==loF P W
theorem verd_best{P F:Nat}{ws:List Wd}{W:List Wl}{p:Wl→Bool}(hP:P≤4)(hF:F≤3)(hperm:W.Perm (A0g P F ws))(h0:0<W.length):verd (someL true (A0g P F ws)) p=saidN (W.countP fun w=>p w&&B4z P W w) (W.countP (B4z P W)):=by
 have hl:0<(A0g P F ws).length:=by rw [←hperm.length_eq];exact h0
 have h2:=(lies_of hP hF hperm h0).2
 have hb:bestL (A0g P F ws)=(A0g P F ws).filter (B4z P W):=by
  unfold bestL
  refine List.filter_congr fun w hw=>?_
  cases hh:A0g P F ws with
  | nil=>rw [hh]at hl;cases hl
  | cons y l=>
   have h3:=h2 y (by rw [hh];rfl)
   unfold B4z
   rw [←h3,Bool.not_not,Bool.eq_iff_iff,beq_iff_eq,beq_iff_eq]
   unfold lieN Vo.cnt
   rw [List.headD_cons]
   omega
 show verd (bestL (A0g P F ws)) p=_
 unfold verd saidN
 rw [hb,List.countP_filter,←List.countP_eq_length_filter,hperm.countP_eq,hperm.countP_eq]
def inW(P k:Nat)(w:Wl):Bool:=if P≤k then bit w.2 (k-P)else bit w.1 k
section
variable{v:View}{P F:Nat}{ws:List Wd}{a:Option Addr}{cap:Nat}
theorem liars_r{W:List Wl}(h:VOk P F ws)(hws:WdsAt v a ws)(hperm:W.Perm (A0g P F ws))(hn:0<W.length) :
  Ret1 prog ⟨true,true⟩ 29 [boV P F a ws.length cap] (.tuple #[.agg #[.int .i64 (loF P W),.int .i64 (hiF P W)],.int .i64 0]) v:=by
 have h8:=h.w8
 have hl:0<(A0g P F ws).length:=by rw [←hperm.length_eq];exact hn
 have:=Liars_x (v:=v) (wa:=a) (wc:=cap) (P:=P) (F:=F) hws oM
 unfold wlsE errS at this
 rw [h.check,if_pos Z,if_pos Z,Int.toNat_natCast,Int.toNat_natCast,B4y hl,(lies_of h.p4 h.f3 hperm hn).1]at this
 exact this
theorem liars_v(h:VOk P F ws)(hws:WdsAt v a ws)(hn:A0g P F ws=[]) :
  Ret1 prog ⟨true,true⟩ 29 [boV P F a ws.length cap] (.tuple #[.agg #[.int .i64 0,.int .i64 0],.int .i64 11]) v:=by
 have h8:=h.w8
 have:=Liars_x (v:=v) (wa:=a) (wc:=cap) (P:=P) (F:=F) hws oM
 unfold wlsE errS at this
 rw [h.check,if_pos Z,if_pos Z,Int.toNat_natCast,Int.toNat_natCast,hn]at this
 exact this
theorem person_o{p:Nat}{best:Bool}(h:VOk P F ws)(hws:WdsAt v a ws)(hp:P≤p) :
  Ret1 prog ⟨true,true⟩ 41 [boV P F a ws.length cap,.int .i64 p,.bool best] (.tuple #[.int .i64 0,.int .i64 3]) v:=by
 have h8:=h.w8
 have e:errN P P F ws p=3:=by unfold errN;rw [h.check,if_pos Z,if_neg oM]
 have:=Person_x (v:=v) (wa:=a) (wc:=cap) (P:=P) (F:=F) (x:=p) (best:=best) hws oM
 rw [e]at this
 exact this
theorem fact_r{f:Nat}{best:Bool}(h:VOk P F ws)(hws:WdsAt v a ws)(hf:f<F)(hn:0<(A0g P F ws).length) :
  Ret1 prog ⟨true,true⟩ 52 [boV P F a ws.length cap,.int .i64 f,.bool best] (.tuple #[.int .i64 (verd (someL best (A0g P F ws)) (fun w=>bit w.2 f)),.int .i64 0]) v:=by
 have h8:=h.w8
 have e:errN F P F ws f=0:=by unfold errN;rw [h.check,if_pos Z,if_pos oM];exact B4y hn
 have:=Fact_x (v:=v) (wa:=a) (wc:=cap) (P:=P) (F:=F) (x:=f) (best:=best) hws oM
 rw [e,if_pos rfl]at this
 exact this
variable{W:List Wl}{k:Nat}
theorem inW_p(hk:k<P):inW P k=fun w=>bit w.1 k:=by funext w;unfold inW;rw [if_neg oM]
theorem inW_f(hk:P≤k):inW P k=fun w=>bit w.2 (k-P):=by funext w;unfold inW;rw [if_pos hk]
theorem ask_p(h:VOk P F ws)(hws:WdsAt v a ws)(hperm:W.Perm (A0g P F ws))(h0:0<W.length)(hk:k<P) :
  Ret1 prog ⟨true,true⟩ 41 [boV P F a ws.length cap,.int .i64 k,.bool false] (.tuple #[.int .i64 (saidN (W.countP (inW P k)) W.length),.int .i64 0]) v:=by
 have:=person_r (cap:=cap) (best:=false) h hws hk (by rw [←hperm.length_eq];exact h0)
 rw [show someL false (A0g P F ws)=A0g P F ws from Z,verd_said hperm,←inW_p hk]at this
 exact this
theorem ask_pb(h:VOk P F ws)(hws:WdsAt v a ws)(hperm:W.Perm (A0g P F ws))(h0:0<W.length)(hk:k<P) :
  Ret1 prog ⟨true,true⟩ 41 [boV P F a ws.length cap,.int .i64 k,.bool true] (.tuple #[.int .i64 (saidN (W.countP fun w=>inW P k w&&B4z P W w) (W.countP (B4z P W))),.int .i64 0]) v:=by
 have:=person_r (cap:=cap) (best:=true) h hws hk (by rw [←hperm.length_eq];exact h0)
 rw [verd_best h.p4 h.f3 hperm h0]at this
 rw [inW_p hk]
 exact this
theorem ask_f(h:VOk P F ws)(hws:WdsAt v a ws)(hperm:W.Perm (A0g P F ws))(h0:0<W.length)(hk:P≤k)(hk2:k<P+F) :
  Ret1 prog ⟨true,true⟩ 52 [boV P F a ws.length cap,.int .i64 ((k:Int)-P),.bool false] (.tuple #[.int .i64 (saidN (W.countP (inW P k)) W.length),.int .i64 0]) v:=by
 have:=fact_r (cap:=cap) (f:=k-P) (best:=false) h hws oM (by rw [←hperm.length_eq];exact h0)
 rw [show someL false (A0g P F ws)=A0g P F ws from Z,verd_said hperm,←inW_f hk,show((k-P:Nat):Int)=(k:Int)-P by omega]at this
 exact this
theorem ask_fb(h:VOk P F ws)(hws:WdsAt v a ws)(hperm:W.Perm (A0g P F ws))(h0:0<W.length)(hk:P≤k)(hk2:k<P+F) :
  Ret1 prog ⟨true,true⟩ 52 [boV P F a ws.length cap,.int .i64 ((k:Int)-P),.bool true] (.tuple #[.int .i64 (saidN (W.countP fun w=>inW P k w&&B4z P W w) (W.countP (B4z P W))),.int .i64 0]) v:=by
 have:=fact_r (cap:=cap) (f:=k-P) (best:=true) h hws oM (by rw [←hperm.length_eq];exact h0)
 rw [inW_f hk]
 rw [verd_best h.p4 h.f3 hperm h0,show((k-P:Nat):Int)=(k:Int)-P by omega]at this
 exact this
end
end Go.Proofs.YtiolobmgibdfmaaGreat
end
section
namespace Go.Pal
open Go Go.Conc View
section
variable{P:Program}{mn:Who}{rd:Option Nat}{n:Nat}{Q:Exit→St→View→Prop}{ds:List Deferred}{ρ:Regs}{β:A0j}{v:View}
 {ops:Array Oper}{i:Nat}{S:List Rec}{done done':List Nat}{ms:List Nat}{v0:View}{todo todo':List Nat}
theorem XS_to{τ σ:St}(h:XS P mn n ops ms v0 Q todo S done τ v)(hd:mkL ops done=mkL ops done')(ht:todo.length=todo'.length)(hs:Sub τ σ):XS P mn n ops ms v0 Q todo' S done' σ v:=fun a hf hb hv hc=>by
 obtain⟨h1,h2⟩:=B0r hs.boxes hb
 have hx:=h a (hs.fits hf) h1 hv (by rw [hd];exact hc)
 rw [hd,ht]at hx
 exact A6c (K:=fun a u=>Post n Q .normal a u) (fun a u v hl hp=>post_le hl hp) _ _ _ _ _ _ h2 hx
def manyB(ops:Array Oper)(ms done js:List Nat):Bool:=!(Region.ready .any ops (mkL ops done)).isEmpty&&(Region.ready .any ops (mkL ops done)).all (fun j=>js.contains j)&&js.all (fun j=>ms.contains j)
def AllL(f:Nat→Prop):List Nat→Prop
 | []=>True
 | j::r=>f j∧AllL f r
theorem AllL.at{f:Nat→Prop}:∀{js:List Nat},AllL f js→∀{j:Nat},j∈js→f j
 | x::r,h,j,hj=>by
  rcases List.mem_cons.1 hj with rfl|hj
  ·exact h.1
  ·exact h.2.at hj
theorem S_many(js:List Nat)(hB:manyB ops ms done js=true)(h:AllL (fun j=>XOp P mn (some 4294967295) n ops j (fun _ _ _=>False) (fun σ' u=>v.Le u∧KeepS ops j S σ'.β∧XS P mn n ops ms v0 Q todo S (j::done) σ' u) ⟨ds,ρ,β⟩ v) js):XS P mn n ops ms v0 Q (i::todo) S done ⟨ds,ρ,β⟩ v:=fun a hf hb hv hc=>by
 simp only [manyB,Bool.and_eq_true]at hB
 obtain⟨⟨hb1,hb2⟩,hb3⟩:=hB
 show AnyS P mn ops ms v0 (fun a u=>Post n Q .normal a u) (todo.length+1) (SV S) (mkL ops done) a (v.union (A0e β))
 refine⟨fun e=>(by rw [e]at hb1;cases hb1),fun j hj=>?_⟩
 have hr:=hj
 have hjs:j∈js:=by simpa using List.all_eq_true.1 hb2 j hj
 have h3:ms.contains j=true:=List.all_eq_true.1 hb3 j hjs
 have h:=h.at hjs
 obtain⟨o,ho,hw,hd,hs⟩:=h a hf hb
 unfold OpS
 simp only [ho,hw,if_true]
 have key:∀{a' w},KP n (fun σ' u=>v.Le u∧KeepS ops j S σ'.β∧XS P mn n ops ms v0 Q todo S (j::done) σ' u) a' w→Keeps ops ms v0 (SV S) j (v.union (A0e β)) w∧AnyS P mn ops ms v0 (fun a u=>Post n Q .normal a u) todo.length (SV S) ((mkL ops done).setIfInBounds j true) a' w:=by
  rintro a' w ⟨σ',u,⟨hl,hk,hx⟩,hf',hb',hw'⟩
  refine⟨?_,?_⟩
  ·unfold Keeps
   rw [if_pos h3]
   refine⟨((hv.trans hl).trans (A0b _ _)).trans hw',fun p hp hdp=>?_⟩
   obtain⟨b,c,t,he,hin⟩:=A8l hk p hp hdp
   rw [he]
   intro j' x e
   simp only [A0e]at e
   split at e
   ·rename_i hj';subst hj';cases e;exact hw' _ _ (A1f hb' hin)
   ·cases e
  ·exact A6c (K:=fun a u=>Post n Q .normal a u) (fun a u v hl hp=>post_le hl hp) _ _ _ _ _ _ hw' (hx _ hf' hb' (hv.trans hl) (A7f hc hr B0g))
 refine A2c _ (fun nx w hK=>?_) (fun x w hE=>?_) hs
 ·cases nx with
  | value x=>exact key hK
  | skip=>exact key hK
  | defer d=>exact absurd hK.1 sM
  | enter f args=>exact CallsX.mono hK fun e w' hR=>⟨w',Le.refl _,by
    cases e with
    | ret x=>exact key hR
    | pan ch=>obtain⟨_,_,hq,_⟩:=hR;exact hq⟩
  | round l f tmps assign body=>exact absurd rfl hK.1
  | _=>exact hK.elim
 ·obtain⟨_,_,hq,_⟩:=hE;exact hq
theorem XS_abs{σ:St}(h:∀X:List Nat→List Nat→St→Prop,(∀t d s,X t d s=XS P mn n ops ms v0 Q t S d s v)→X todo done σ):XS P mn n ops ms v0 Q todo S done σ v:=
 h (fun t d s=>XS P mn n ops ms v0 Q t S d s v) fun _ _ _=>rfl
end
end Go.Pal
end
section
namespace Go.Proofs.YtiolobmgibdfmaaGreat
open Go Go.Pal Go.Pal.Vo Go.Conc View
open Go.Proofs.Tryz
set_option maxHeartbeats 4000000
set_option maxRecDepth 20000
section
variable{P:Nat}{u a b:Int}{w:Wl}
theorem hs0:A4h P ⟨u,0,a,b⟩ w=bit w.2 a.toNat:=by simp [A4h]
theorem hs1:A4h P ⟨u,1,a,b⟩ w=!bit w.2 a.toNat:=by simp [A4h]
theorem hs2:A4h P ⟨u,2,a,b⟩ w=!bit w.1 a.toNat:=by simp [A4h]
theorem hs3:A4h P ⟨u,3,a,b⟩ w=bit w.1 a.toNat:=by simp [A4h]
theorem hs4:A4h P ⟨u,4,a,b⟩ w=(!bit w.2 a.toNat||bit w.2 b.toNat):=by simp [A4h]
theorem hs5:A4h P ⟨u,5,a,b⟩ w=(bit w.1 a.toNat==bit w.1 b.toNat):=by simp [A4h]
theorem hs6:A4h P ⟨u,6,a,b⟩ w=decide ((P:Int)-cnt w.1≥a):=by simp [A4h]
end
theorem wordE_inv{P F:Nat}{w k x y:Int}(h:A2k P F ⟨w,k,x,y⟩=0):(k=0∧0≤x∧x≤(F:Int)-1)∨(k=1∧0≤x∧x≤(F:Int)-1)∨(k=2∧0≤x∧x≤(P:Int)-1)∨(k=3∧0≤x∧x≤(P:Int)-1)∨
  (k=4∧0≤x∧x≤(F:Int)-1∧0≤y∧y≤(F:Int)-1)∨(k=5∧0≤x∧x≤(P:Int)-1∧0≤y∧y≤(P:Int)-1)∨(k=6∧0≤x∧x≤(P:Int)):=by
 unfold A2k at h
 dsimp only at h
 (repeat' split at h)<;>omega
section
variable{mn:Who}{v:View}
theorem so_x{P F n cap t s:Nat}{a a1 a2:Option Addr}{c1 c2:Nat}{x:Wd}(hP:P≤4)(hF:F≤3)(hx:A2k P F x=0)(h1:RowAt v a1 ((lst t).map natV))(h2:RowAt v a2 ((lst s).map natV)) :
  Ret1 prog mn 57 [boV P F a n cap,.agg #[.slice a1 (lst t).length c1,.slice a2 (lst s).length c2],wdV x] (.bool (A4h P x (t,s))) v:=by
 obtain⟨w,k,x,y⟩:=x
 have hl1:=lst_len8 t
 refine A0f tab func57 Z nB (args:=[_,_,_]) ?_
 rcases wordE_inv hx with ⟨rfl,k1,k2⟩|⟨rfl,k1,k2⟩|⟨rfl,k1,k2⟩|⟨rfl,k1,k2⟩|⟨rfl,k1,k2,k3,k4⟩|⟨rfl,k1,k2,k3,k4⟩|⟨rfl,k1,k2⟩
 ·obtain⟨x,rfl⟩:=Int.eq_ofNat_of_zero_le k1
  rw [hs0,Int.toNat_natCast]
  repeat (first|refine st ?_|refine qb fun bx=>?_)
  refine Q_op fun ho=>A0s ho bod49 Z Z Z Z Z (has_b h2 oM) ?_
  clear ho
  repeat (first|refine st ?_|refine qb fun bx=>?_)
  refine A0l tab [] (by exact .tmp rfl .nil) (Back.here cntL) ?_
  exact⟨Z,Z⟩
 ·obtain⟨x,rfl⟩:=Int.eq_ofNat_of_zero_le k1
  rw [hs1,Int.toNat_natCast]
  repeat (first|refine st ?_|refine qb fun bx=>?_)
  refine Q_op fun ho=>A0s ho bod49 Z Z Z Z Z (has_b h2 oM) ?_
  clear ho
  repeat (first|refine st ?_|refine qb fun bx=>?_)
  refine A0l tab [] (by exact .tmp rfl .nil) (Back.here cntL) ?_
  exact⟨Z,Z⟩
 ·obtain⟨x,rfl⟩:=Int.eq_ofNat_of_zero_le k1
  rw [hs2,Int.toNat_natCast]
  repeat (first|refine st ?_|refine qb fun bx=>?_)
  refine Q_op fun ho=>A0s ho bod49 Z Z Z Z Z (has_b h1 oM) ?_
  clear ho
  repeat (first|refine st ?_|refine qb fun bx=>?_)
  refine A0l tab [] (by exact .tmp rfl .nil) (Back.here cntL) ?_
  exact⟨Z,Z⟩
 ·obtain⟨x,rfl⟩:=Int.eq_ofNat_of_zero_le k1
  rw [hs3,Int.toNat_natCast]
  repeat (first|refine st ?_|refine qb fun bx=>?_)
  refine Q_op fun ho=>A0s ho bod49 Z Z Z Z Z (has_b h1 oM) ?_
  clear ho
  repeat (first|refine st ?_|refine qb fun bx=>?_)
  refine A0l tab [] (by exact .tmp rfl .nil) (Back.here cntL) ?_
  exact⟨Z,Z⟩
 ·obtain⟨x,rfl⟩:=Int.eq_ofNat_of_zero_le k1
  obtain⟨y,rfl⟩:=Int.eq_ofNat_of_zero_le k3
  rw [hs4,Int.toNat_natCast,Int.toNat_natCast]
  repeat (first|refine st ?_|refine qb fun bx=>?_)
  refine Q_op fun ho=>A0s ho bod49 Z Z Z Z Z (has_b h2 oM) ?_
  clear ho
  cases hb:bit s x with
  | true=>
   repeat (first|refine st ?_|refine qb fun bx=>?_)
   refine Q_op fun ho=>A0s ho bod49 Z Z Z Z Z (has_b h2 oM) ?_
   clear ho
   repeat (first|refine st ?_|refine qb fun bx=>?_)
   refine A0l tab [] (by exact .tmp rfl .nil) (Back.here cntL) ?_
   exact⟨Z,Z⟩
  | false=>
   repeat (first|refine st ?_|refine qb fun bx=>?_)
   refine A0l tab [] (by exact .tmp rfl .nil) (Back.here cntL) ?_
   exact⟨Z,Z⟩
 ·obtain⟨x,rfl⟩:=Int.eq_ofNat_of_zero_le k1
  obtain⟨y,rfl⟩:=Int.eq_ofNat_of_zero_le k3
  rw [hs5,Int.toNat_natCast,Int.toNat_natCast]
  repeat (first|refine st ?_|refine qb fun bx=>?_)
  refine lexL A1w Z kR ?_
  repeat (first|refine st ?_|refine qb fun bx=>?_)
  refine A3r bod49 Z Z Z Z Z (has_b h1 oM) ?_
  repeat (first|refine st ?_|refine qb fun bx=>?_)
  refine A3r bod49 Z Z Z Z Z (has_b h1 oM) ?_
  repeat (first|refine st ?_|refine qb fun bx=>?_)
  refine A0l tab [] (by exact .tmp rfl .nil) (Back.here cntL) ?_
  exact⟨Z,Z⟩
 ·obtain⟨x,rfl⟩:=Int.eq_ofNat_of_zero_le k1
  rw [hs6]
  repeat (first|refine st ?_|refine qb fun bx=>?_)
  refine A0l tab [] (by exact .tmp rfl .nil) (Back.here cntL) ?_
  refine⟨congrArg Value.bool ?_,Z⟩
  rw [Bool.eq_iff_iff,decide_eq_true_eq,decide_eq_true_eq]
  unfold Go.Pal.Vo.cnt
  dsimp only
  rw [A4k oM oM]
  omega
end
section
variable{P:Program}{mn:Who}(T:Tab P){rd:Option Nat}{n:Nat}{Q:Exit→St→View→Prop}{ds:List Deferred}{ρ:Regs}{β:A0j}{v:View}{K:St→View→Prop}{ops:Array Oper}{i:Nat}{d:Nat}{ty:TypeId}{pos:String}{af:Array Edge}{gu:Option (Nat×Bool)}
theorem C_mid{c y:Code}{σ:St}(M:St→View→Prop)(h':∀τ u,M τ u→XC P mn rd n y Q τ u)(h:XC P mn rd n c (LoopQ (fun σ' u'=>∃τ u,M τ u∧Sub τ σ'∧u.Le u') Q) σ v):XC P mn rd n c (SeqQ P mn rd n y Q) σ v:=B4c h fun e σ u hq=>by
 unfold LoopQ at hq
 unfold SeqQ
 cases e with
 | normal=>obtain⟨τ,u0,hm,hs,hl⟩:=hq;exact XC_sub (h' τ u0 hm) hs hl
 | _=>exact hq
theorem A_alloc{t:TypeId}{z:Value}(ho:ops[i]?=some ⟨some d,.alloc t,ty,pos,af,gu⟩)(hw:A0x ops gu ρ=some true)(hn:Nat.blt d n=true)(hz:T.zer t=some z)
  (h:∀b,K ⟨ds,(d,.pointer (some ⟨b,0,none⟩))::ρ,(b,z.cells,t)::β⟩ v):XOp P mn rd n ops i Q K ⟨ds,ρ,β⟩ v:=by
 refine A2x ho (A0p hw) (.inr Z) hn fun ev hev hbk=>?_
 simp only [execOp,Instr.alloc,A0d,A9x T hz]
 refine sx_newVar fun b hb'=>?_
 obtain⟨h1,h2⟩:=B0s (c:=z.cells) (t:=t) hbk hb'
 exact⟨_,v,⟨h1,h2⟩,h b⟩
end
theorem ext_two{c:Array Value}{o:Nat}{x y:Value}(h1:c[o]?=some x)(h2:c[o+1]?=some y):o+2≤c.size∧c.extract o (o+2)=[x,y].toArray:=by
 have k1:=(Array.getElem?_eq_some_iff.1 h1)
 have k2:=(Array.getElem?_eq_some_iff.1 h2)
 obtain⟨l1,e1⟩:=k1
 obtain⟨l2,e2⟩:=k2
 refine⟨l2,Array.ext (by simp;omega) fun i hi hj=>?_⟩
 have hi2:i<2:=by simpa using hj
 rw [Array.getElem_extract]
 rcases i with _|_|i
 ·simpa using e1
 ·simpa using e2
 ·omega
theorem num_tab:(List.range 5).all (fun P=>(List.range (2 ^ P)).all fun t=>numE P none (A7e (lst t))==0&&orG (lst t)==t)=true:=by decide +kernel
theorem num_lst{P t:Nat}(hP:P≤4)(ht:t<2 ^ P):numE P none (A7e (lst t))=0∧orG (lst t)=t:=by
 have:=List.all_eq_true.1 (List.all_eq_true.1 num_tab P (List.mem_range.2 oM)) t (List.mem_range.2 ht)
 simpa using this
theorem wrong_w{P F:Nat}{ws:List Wd}{w:Wl}(h:VOk P F ws)(h1:w.1<2 ^ P)(h2:w.2<2 ^ F):errWr P F ws (A7e (lst w.1)) (A7e (lst w.2))=0∧((B4l P ws (A7e (lst w.1)) (A7e (lst w.2))).isEmpty=can P ws w):=by
 have h4:=h.p4
 have h3:=h.f3
 obtain⟨n1,o1⟩:=num_lst oM h1
 obtain⟨n2,o2⟩:=num_lst oM h2
 refine⟨?_,?_⟩
 ·unfold errWr
  simp only [Int.toNat_natCast]
  rw [h.check,if_pos Z,n1,if_pos Z,n2]
 ·unfold B4l
  rw [gOf_ints,gOf_ints,o1,o2]
  show(lst (B1s P ws w ^^^ w.1)).isEmpty=(B1s P ws w==w.1)
  have hx:B1s P ws w ^^^ w.1<2 ^ P:=Nat.xor_lt_two_pow (honest_lt h4 h.who8) h1
  have h16:2 ^ P≤2^4:=Nat.pow_le_pow_right dM h4
  have h1:=List.all_eq_true.1 (List.all_eq_true.1 lst_tab P (List.mem_range.2 oM)) _ (List.mem_range.2 (show B1s P ws w ^^^ w.1<256 by omega))
  simp only [Bool.and_eq_true,beq_iff_eq]at h1
  rw [h1.1.1,Bool.eq_iff_iff,beq_iff_eq,beq_iff_eq]
  exact xor_zero_iff
def trueW(p:Int)(w:Wl):Bool:=decide (p<0)||bit w.1 p.toNat
def FstI(P:Nat)(p:Int)(W:List Wl)(k:Nat)(n:Int):Prop:=(n = -1∧∀j (h:j<W.length),j<k→trueW p W[j]=false)∨
 ∃m:Nat,∃h:m<W.length,n=m∧m<k∧trueW p W[m]=true∧∀j (h':j<W.length),j<k→trueW p W[j]=true→ltW P W[j] W[m]=false
theorem FstI.skip{P:Nat}{p n:Int}{W:List Wl}{k:Nat}(h:FstI P p W k n)(hk:k<W.length)(h0:trueW p W[k]=false):FstI P p W (k+1) n:=by
 rcases h with ⟨rfl,h⟩|⟨m,hm,rfl,h1,h2,h3⟩
 ·refine .inl ⟨Z,fun j hj hlt=>?_⟩
  by_cases e:j=k
  ·subst e;exact h0
  ·exact h j hj oM
 ·refine .inr ⟨m,hm,Z,oM,h2,fun j hj hlt hk'=>?_⟩
  by_cases e:j=k
  ·subst e;rw [h0]at hk';cases hk'
  ·exact h3 j hj oM hk'
theorem FstI.new{P:Nat}{p:Int}{W:List Wl}{k:Nat}(h:FstI P p W k (-1))(hk:k<W.length)(h0:trueW p W[k]=true):FstI P p W (k+1) k:=by
 rcases h with ⟨-,h⟩|⟨m,hm,e,-⟩
 ·refine .inr ⟨k,hk,Z,oM,h0,fun j hj hlt hk'=>?_⟩
  by_cases e:j=k
  ·subst e;exact B1j P _
  ·rw [h j hj oM]at hk';cases hk'
 ·omega
theorem FstI.less{P m:Nat}{p:Int}{W:List Wl}{k:Nat}(h:FstI P p W k m)(hk:k<W.length)(hm:m<W.length)(hkk:trueW p W[k]=true)(h0:ltW P W[k] W[m]=true):FstI P p W (k+1) k:=by
 rcases h with ⟨e,-⟩|⟨m',hm',e,h1,h2,h3⟩
 ·omega
 ·have:m'=m:=oM
  subst this
  refine .inr ⟨k,hk,Z,oM,hkk,fun j hj hlt hk'=>?_⟩
  by_cases e:j=k
  ·subst e;exact B1j P _
  ·have h4:=h3 j hj oM hk'
   rw [Bool.eq_false_iff]
   intro h5
   rw [B3f P _ _ _ h5 h0]at h4
   cases h4
theorem FstI.at{P:Nat}{p n:Int}{W:List Wl}{k:Nat}(h:FstI P p W k n):n = -1∨∃m:Nat,m<W.length∧m<k∧n=m:=by
 rcases h with ⟨rfl,-⟩|⟨m,hm,rfl,h1,-⟩
 ·exact .inl Z
 ·exact .inr ⟨m,hm,h1,Z⟩
end Go.Proofs.YtiolobmgibdfmaaGreat
end
