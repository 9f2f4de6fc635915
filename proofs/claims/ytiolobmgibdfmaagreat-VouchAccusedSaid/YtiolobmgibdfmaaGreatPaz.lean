/- Part 26 of the way to: the laws of the vouchers -/
import Derived.Test.YtiolobmgibdfmaaGreatPax
import Derived.Test.YtiolobmgibdfmaaGreatPay
set_option linter.unusedVariables false
set_option linter.unusedSimpArgs false
section
namespace Go.Proofs.YtiolobmgibdfmaaGreat
open Go Go.Pal Go.Pal.Vo Go.Conc View
open Go.Proofs.Tryz
set_option maxHeartbeats 4000000
section
variable{v:View}{wa:Option Addr}{wc:Nat}
theorem numE_all{L:Nat}:∀{l:List Int} {pr:Option Int},numE L pr l=0→∀x∈l,0≤x∧x≤(L:Int)-1
  | [],_,_,_,hx=>by simp at hx
  | y::l,pr,h,x,hx=>by
    rw [numE_cons]at h
    by_cases h1:0≤y∧y≤(L:Int)-1
    · rw [if_neg (not_not_intro h1)]at h
      have h2:numE L (some y) l=0:=by
        cases pr with
        | none=>exact h
        | some p=>
          simp only at h
          by_cases h3:y > p
          · rwa [if_pos h3]at h
          · rw [if_neg h3]at h;cases h
      rcases List.mem_cons.1 hx with rfl|hx
      · exact h1
      · exact numE_all h2 x hx
    · rw [if_pos h1]at h;cases h
theorem orG_lt{l:List Nat}(h:∀n∈l,n<8):orG l<256:=by
  have:∀(l:List Nat) (g:Nat),(∀n∈l,n<8)→g<256→l.foldl (fun g n=>g ||| 2 ^ n) g<256:=by
    intro l
    induction l with
    | nil=>intro g _ hg;exact hg
    | cons x l ih=>
      intro g hf hg
      exact ih _ (fun y hy=>hf y (List.mem_cons_of_mem _ hy)) (or_val hg (hf x (List.mem_cons_self ..))).2
  exact this l 0 h dM
theorem xor_val{g h:Nat}(hg:g<256)(hh:h<256):IntKind.u8.wrap ((BitVec.ofInt IntKind.u8.bits (g:Int) ^^^ BitVec.ofInt IntKind.u8.bits (h:Int)).toNat:Int)=((g ^^^ h:Nat):Int)∧g ^^^ h<256:=by
  have hx:g ^^^ h<2^8:=Nat.xor_lt_two_pow hg hh
  refine⟨?_,hx⟩
  have h1:(BitVec.ofInt IntKind.u8.bits (g:Int)).toNat=g:=by
    rw [BitVec.toNat_ofInt]
    show(((g:Int) % ((2^8:Nat):Int)).toNat)=g
    omega
  have h2:(BitVec.ofInt IntKind.u8.bits (h:Int)).toNat=h:=by
    rw [BitVec.toNat_ofInt]
    show(((h:Int) % ((2^8:Nat):Int)).toNat)=h
    omega
  rw [BitVec.toNat_xor,h1,h2]
  simp only [IntKind.wrap,IntKind.signed,IntKind.bits]
  simp
  omega
abbrev wldV(a1:Option Addr)(n1 c1:Nat)(a2:Option Addr)(n2 c2:Nat):Value:=.agg #[.slice a1 n1 c1,.slice a2 n2 c2]
abbrev gOf(l:List Int):Nat:=orG (l.map Int.toNat)
def errWr(P F:Int)(ws:List Wd)(tr so:List Int):Int:=if A2h P F ws=0 then(if numE P.toNat none tr=0 then numE F.toNat none so else numE P.toNat none tr)else A2h P F ws
def wrongL(P:Nat)(ws:List Wd)(tr so:List Int):List Nat:=lst (B1s P ws (gOf tr,gOf so) ^^^ gOf tr)
theorem Wrong_x{P F:Int}{ws:List Wd}{tr so:List Int}{a1 a2:Option Addr}{c1 c2:Nat}(hws:WdsAt v wa ws)(hwl:ws.length<2^30)(htr:RowAt v a1 (tr.map (.int .i64)))(hso:RowAt v a2 (so.map (.int .i64)))(hl1:tr.length<2^30)(hl2:so.length<2^30) :
    CallsB prog ⟨true,true⟩ 56 #[boV P F wa ws.length wc,wldV a1 tr.length c1 a2 so.length c2] (RetB fun r β'=>∃t,r = .tuple #[t,.int .i64 (errWr P F ws tr so)]∧OwnL β' t (if errWr P F ws tr so=0 then wrongL P.toNat ws tr so else [])) [] v:=by
  refine A3m tab A4x func56 rfl nB (args:=[_,_]) ?_
  repeat (first|refine st ?_|refine qb fun bx=>?_)
  refine Q_op fun ho=>A6x rfl ho rfl rfl ?_
  clear ho
  repeat (first|refine st ?_|refine qb fun bx=>?_)
  refine Q_op fun ho=>A6g ho bod79 rfl rfl rfl rfl (A6u (hws.le (A0b _ _)) hwl) (fun h=>?_) (fun h=>?_)
  · rw [show errWr P F ws tr so=A2h P F ws from if_neg h,if_neg h]
    refine pn ?_
    exact A2n tab rfl ib dM sb (xs:=[_,_]) (by exact .tmp rfl (.cell rfl ib rfl .nil)) (Back.here fun p=>Nat.zero_le _) ⟨_,rfl,none,0,rfl,.nil⟩
  clear ho
  rw [show errWr P F ws tr so=if numE P.toNat none tr=0 then numE F.toNat none so else numE P.toNat none tr from if_pos h]
  obtain⟨P,F,rfl,rfl,hv⟩:=A4w h
  simp only [Int.toNat_natCast]
  have hP4:=hv.p4
  have hF3:=hv.f3
  repeat (first|refine st ?_|refine qb fun bx=>?_)
  refine Q_op fun ho=>A6g ho bod116 rfl rfl rfl rfl (numbers_x (L:=P) (RowAt.le htr (A0b _ _)) hl1 oM) (fun h=>?_) (fun h=>?_)
  · rw [if_neg h,if_neg h]
    refine pn ?_
    exact A2n tab rfl ib dM sb (xs:=[_,_]) (by exact .tmp rfl (.cell rfl ib rfl .nil)) (Back.here fun p=>Nat.zero_le _) ⟨_,rfl,none,0,rfl,.nil⟩
  clear ho
  rw [if_pos h]
  have h1:gOf tr<256:=orG_lt fun m hm=>by
    obtain⟨x,hx,rfl⟩:=List.mem_map.1 hm
    have:=numE_all h x hx;omega
  repeat (first|refine st ?_|refine qb fun bx=>?_)
  refine Q_op fun ho=>A6g ho bod116 rfl rfl rfl rfl (numbers_x (L:=F) (RowAt.le hso (A0b _ _)) hl2 oM) (fun h=>?_) (fun h=>?_)
  · rw [if_neg h]
    refine pn ?_
    exact A2n tab rfl ib dM sb (xs:=[_,_]) (by exact .tmp rfl (.cell rfl ib rfl .nil)) (Back.here fun p=>Nat.zero_le _) ⟨_,rfl,none,0,rfl,.nil⟩
  clear ho
  rw [h,if_pos rfl]
  have h2:gOf so<256:=orG_lt fun m hm=>by
    obtain⟨x,hx,rfl⟩:=List.mem_map.1 hm
    have:=numE_all h x hx;omega
  obtain⟨hhon,hh256⟩:=honest_x (mn:=⟨true,true⟩) (v:=v) (P:=P) (F:=F) (cap:=wc) (w:=(gOf tr,gOf so)) oM hws hv.fit hwl h1 h2
  obtain⟨hx1,hx2⟩:=xor_val hh256 h1
  repeat (first|refine st ?_|refine qb fun bx=>?_)
  refine A2u [2,6,8] [0,1,3,4,2,5,6,7,8] A1w rfl kR ?_
  repeat (first|refine st ?_|refine qb fun bx=>?_)
  refine S_do kR (A0i [] _ rfl bod118 rfl rfl rfl rfl rfl A1n (hhon.le (A0b _ _)) (fun x β' hR=>⟨Le.refl _,?_,?_⟩))
  · exact kp
  obtain⟨rfl,rfl⟩:=hR
  repeat (first|refine st ?_|refine qb fun bx=>?_)
  rw [hx1]
  refine S_do kR (A0i [] _ rfl B3w rfl rfl rfl rfl rfl A1n (B3i hx2) (fun x β' hR=>⟨Le.refl _,?_,?_⟩))
  · exact kp
  obtain⟨a,cap,rfl,hS⟩:=hR
  repeat (first|refine st ?_|refine qb fun bx=>?_)
  exact A6e tab rfl (β':=β') (xs:=[_,_]) (by exact .tmp rfl (.cell rfl ib rfl .nil)) (Back.here cntL) ⟨_,rfl,a,cap,rfl,hS⟩
end
structure Lst where
  v:Int
  n:Int
  some:Bool
def Lst.add(s:Lst)(v n:Int):Lst:=if !s.some||decide (n<s.n)then⟨v,n,true⟩else s
def Lst.c(s:Lst):Array Value:=#[.int .i64 s.v,.int .i64 s.n,.bool s.some]
section
variable{mn:Who}{v:View}
theorem add_x{s:Lst}{b:Nat}{x y:Int}:CallsB prog mn 90 #[.pointer (some ⟨b,0,none⟩),.int .i64 x,.int .i64 y] (RetB fun r β'=>r = .tuple #[]∧β'=[(b,(s.add x y).c,110)]) [(b,s.c,110)] v:=by
  refine A0f tab func90 rfl nB (args:=[_,_,_]) ?_
  obtain⟨sv,sn,ss⟩:=s
  unfold Lst.c
  cases ss with
  | false=>
    repeat (first|refine st ?_|refine qb fun bx=>?_)
    refine A1t tab [(b,#[.int .i64 x,.int .i64 y,.bool true],110)] .nil (Back.here (show Subm [(b,#[Value.int .i64 x,Value.int .i64 y,Value.bool true],110)] [(b,#[Value.int .i64 x,Value.int .i64 y,Value.bool true],110)]from cntL)) ?_
    exact⟨rfl,by simp [Lst.add]⟩
  | true=>
    repeat (first|refine st ?_|refine qb fun bx=>?_)
    refine A0t rfl (fun h=>?_) (fun h=>?_)
    · replace h:=fa h
      repeat (first|refine st ?_|refine qb fun bx=>?_)
      refine A1t tab [(b,#[.int .i64 x,.int .i64 y,.bool true],110)] .nil (Back.here (show Subm [(b,#[Value.int .i64 x,Value.int .i64 y,Value.bool true],110)] [(b,#[Value.int .i64 x,Value.int .i64 y,Value.bool true],110)]from cntL)) ?_
      exact⟨rfl,by simp [Lst.add,h]⟩
    · replace h:=fa h
      repeat (first|refine st ?_|refine qb fun bx=>?_)
      refine A1t tab [(b,#[.int .i64 sv,.int .i64 sn,.bool true],110)] .nil (Back.here (show Subm [(b,#[Value.int .i64 sv,Value.int .i64 sn,Value.bool true],110)] [(b,#[Value.int .i64 sv,Value.int .i64 sn,Value.bool true],110)]from cntL)) ?_
      exact⟨rfl,by simp [Lst.add,h]⟩
end
def maxI(a b:Int):Int:=if a<b then b else a
def most(l:List Wl)(p:Nat):Int:=maxI (l.countP fun w=>bit w.1 p) ((l.length:Int)-(l.countP fun w=>bit w.1 p))
def askS(l:List Wl)(n:Nat):Lst:=(List.range n).foldl (fun(s:Lst) (p:Nat)=>s.add (p:Int) (most l p)) ⟨0,0,false⟩
theorem askS_succ(l:List Wl)(n:Nat):askS l (n+1)=(askS l n).add n (most l n):=by
  unfold askS
  rw [List.range_succ,List.foldl_append]
  rfl
section
variable{v:View}{wa:Option Addr}{wc:Nat}
def askE(P:Nat)(l:List Wl):Int:=if l.isEmpty then 11 else if(askS l P).n<l.length then 0 else 11
def errA(P F:Int)(ws:List Wd):Int:=if A2h P F ws=0 then askE P.toNat (A0g P.toNat F.toNat ws)else A2h P F ws
def askV(P F:Int)(ws:List Wd):Value:=if errA P F ws=0 then .tuple #[.int .i64 (askS (A0g P.toNat F.toNat ws) P.toNat).v,.int .i64 (askS (A0g P.toNat F.toNat ws) P.toNat).n,.int .i64 0]else .tuple #[.int .i64 0,.int .i64 0,.int .i64 (errA P F ws)]
theorem Ask_x{P F:Int}{ws:List Wd}(hws:WdsAt v wa ws)(hwl:ws.length<2^30):CallsB prog ⟨true,true⟩ 36 #[boV P F wa ws.length wc] (RetB fun r β'=>r=askV P F ws∧β'=[]) [] v:=by
  refine A3m tab A4x func36 rfl nB (args:=[_]) ?_
  unfold askV
  repeat (first|refine st ?_|refine qb fun bx=>?_)
  refine Q_op fun ho=>A6x rfl ho rfl rfl ?_
  clear ho
  repeat (first|refine st ?_|refine qb fun bx=>?_)
  refine Q_op fun ho=>A6g ho bod79 rfl rfl rfl rfl (A6u (hws.le (A0b _ _)) hwl) (fun h=>?_) (fun h=>?_)
  · rw [show errA P F ws=A2h P F ws from if_neg h,if_neg h]
    refine pn ?_
    exact A2n tab rfl ib dM sb (xs:=[_,_,_]) (by exact .tmp rfl (.tmp rfl (.cell rfl ib rfl .nil))) (Back.here fun p=>Nat.zero_le _) ⟨rfl,rfl⟩
  clear ho
  rw [show errA P F ws=askE P.toNat (A0g P.toNat F.toNat ws)from if_pos h]
  obtain⟨P,F,rfl,rfl,hv⟩:=A4w h
  simp only [Int.toNat_natCast]
  have hP4:=hv.p4
  have hF3:=hv.f3
  repeat (first|refine st ?_|refine qb fun bx=>?_)
  refine Q_op fun ho=>B1u ho rfl rfl rfl rfl hv hws hwl (fun h=>?_) (fun hne a cap βw hS=>?_)
  · rw [h]
    refine pn ?_
    exact A2n tab rfl ib dM sb (xs:=[_,_,_]) (by exact .tmp rfl (.tmp rfl (.cell rfl ib rfl .nil))) (Back.here fun p=>Nat.zero_le _) ⟨rfl,rfl⟩
  clear ho
  have hE:askE P (A0g P F ws)=if(askS (A0g P F ws) P).n<(A0g P F ws).length then 0 else 11:=by
    unfold askE
    rw [if_neg (by simpa using hne)]
  rw [hE]
  refine A0w (β1:=βw) cntA (fun hbk=>?_)
  have hrow:=A2m hbk hS
  have hlen:=A4s (ws:=ws) hv.p4 hv.f3
  have hlt0:0<(A0g P F ws).length:=List.length_pos_iff.2 hne
  have hwok:∀w∈A0g P F ws,w.1<256:=fun w hw=>(A4d hv.p4 hv.f3 hw).1
  generalize hl:A0g P F ws=l at *
  clear hl hE hS hne
  repeat (first|refine st ?_|refine qb fun bx=>?_)
  rename_i b1 b4 b5
  refine A1o (α:=Nat) (fun p=>⟨[dcall 78 #[.pointer (some ⟨b4,0,none⟩)]],[(20,.int .i64 p),(19,.int .i64 P),(6,.slice a l.length cap),(8,.func (.func 90) #[.pointer (some ⟨bx,0,none⟩)] #[]),(7,.pointer (some ⟨bx,0,none⟩)),(4,.pointer (some ⟨b4,0,none⟩)),(2,.int .i64 0),(3,.int .i64 0)],[(bx,(askS l p).c,110),(b4,#[.int .i64 0],34)]⟩)
    (fun p u=>u=v.union (A0e βw)∧p≤P) (fun p=>P-p) 0 ⟨rfl,rg,(show Subm [(bx,#[Value.int .i64 0,Value.int .i64 0,Value.bool false],110),(b4,#[Value.int .i64 0],34)] [(bx,#[Value.int .i64 0,Value.int .i64 0,Value.bool false],110),(b5,(boV P F wa ws.length wc).cells,95),(b4,#[Value.int .i64 0],34),(b1,(boV P F wa ws.length wc).cells,24)]from cntL)⟩ (Le.refl _) ⟨rfl,Nat.zero_le _⟩ ?_
  rintro p u ⟨rfl,hp⟩
  repeat (first|refine st ?_|refine qb fun bx=>?_)
  refine A0t rfl (fun h=>?_) (fun h=>?_)
  · replace h:=fa h
    have hpl:p<P:=oM
    repeat (first|refine st ?_|refine qb fun bx=>?_)
    refine A1o (α:=Nat×Nat) (fun z=>⟨[dcall 78 #[.pointer (some ⟨b4,0,none⟩)]],[(25,.int .i64 z.1),(24,.int .i64 l.length),(23,.slice a l.length cap),(10,.int .i64 z.2),(9,.int .i64 p),(20,.int .i64 p),(19,.int .i64 P),(6,.slice a l.length cap),(8,.func (.func 90) #[.pointer (some ⟨bx,0,none⟩)] #[]),(7,.pointer (some ⟨bx,0,none⟩)),(4,.pointer (some ⟨b4,0,none⟩)),(2,.int .i64 0),(3,.int .i64 0)],[(bx,(askS l p).c,110),(b4,#[.int .i64 0],34)]⟩)
      (fun z u=>u=v.union (A0e βw)∧z.1≤l.length∧z.2=(l.take z.1).countP fun w=>bit w.1 p) (fun z=>l.length-z.1) (0,0) ⟨rfl,rg,cntL⟩ (Le.refl _) ⟨rfl,Nat.zero_le _,rfl⟩ ?_
    rintro⟨i,m⟩ u ⟨rfl,hi,hm⟩
    simp only at hi hm
    have hcl:m≤l.length:=by rw [hm];exact Nat.le_trans List.countP_le_length (by rw [List.length_take];omega)
    dsimp only
    clear h
    repeat (first|refine st ?_|refine qb fun bx=>?_)
    refine A0t rfl (fun h=>?_) (fun h=>?_)
    · replace h:=fa h
      have hlt:i<l.length:=oM
      obtain⟨b,off,q,c,e,f,rfl,hv',hc⟩:=A9r hrow hlt
      repeat (first|refine st ?_|refine qb fun bx=>?_)
      refine A2t tab i rfl rfl rfl rfl rfl rfl rfl hlt ?_
      refine A2p tab rfl rfl rfl hv' (A2d tab rfl rfl rfl (hc i hlt)) ?_
      repeat (first|refine st ?_|refine qb fun bx=>?_)
      refine Q_op fun ho=>A0s ho A9n rfl rfl rfl rfl rfl (A9l (n:=p) (hwok _ (List.getElem_mem hlt)) oM) ?_
      clear ho
      have hst:((l.take (i+1)).countP fun w=>bit w.1 p)=m+(if bit l[i].1 p then 1 else 0):=by
        rw [List.take_succ_eq_append_getElem hlt,List.countP_append,hm];simp [List.countP_cons]
      cases hb:bit l[i].1 p with
      | true=>
        rw [hb]at hst
        repeat (first|refine st ?_|refine qb fun bx=>?_)
        refine A0c ⟨(i+1,m+1),_,by simp only;omega,⟨rfl,rg,cntL⟩,Le.refl _,rfl,hlt,hst.symm⟩
      | false=>
        rw [hb]at hst
        repeat (first|refine st ?_|refine qb fun bx=>?_)
        refine A0c ⟨(i+1,m),_,by simp only;omega,⟨rfl,rg,cntL⟩,Le.refl _,rfl,hlt,hst.symm⟩
    · replace h:=fa h
      have hin:i=l.length:=oM
      subst hin
      rw [List.take_length]at hm
      subst hm
      have hcl:(l.countP fun w=>bit w.1 p)≤l.length:=List.countP_le_length
      clear h
      repeat (first|refine st ?_|refine qb fun bx=>?_)
      refine Q_op fun ho=>A0i [(bx,(askS l p).c,110)] [(b4,#[.int .i64 0],34)] ho bod90 rfl rfl rfl rfl rfl cntA (add_x (s:=askS l p) (x:=p) (y:=most l p)) (fun x β' hR=>?_)
      clear ho
      obtain⟨rfl,rfl⟩:=hR
      repeat (first|refine st ?_|refine qb fun bx=>?_)
      refine A0c ⟨p+1,_,(by have:=hpl;omega),⟨rfl,rg,?_⟩,Le.refl _,rfl,hpl⟩
      rw [askS_succ]
      exact cntL
  · replace h:=fa h
    have hpP:p=P:=oM
    subst hpP
    clear h
    repeat (first|refine st ?_|refine qb fun bx=>?_)
    refine Q_op fun ho=>A3d ho rfl rfl rfl rfl (fun h=>?_) (fun h=>?_)
    · have h:=of_decide_eq_false h
      rw [if_neg h]
      refine pn ?_
      exact A2n tab rfl ib dM sb (xs:=[_,_,_]) (by exact .tmp rfl (.tmp rfl (.cell rfl ib rfl .nil))) (Back.forget hbk (Back.here fun p=>Nat.zero_le _)) ⟨rfl,rfl⟩
    clear ho
    have h:=of_decide_eq_true h
    rw [if_pos h]
    repeat (first|refine st ?_|refine qb fun bx=>?_)
    refine A2u [6] [0,1,2,3,4,5,6] A1w rfl kR ?_
    repeat (first|refine st ?_|refine qb fun bx=>?_)
    exact A6e tab rfl (β':=[]) (xs:=[_,_,_]) (by exact .tmp rfl (.tmp rfl (.cell rfl ib rfl .nil))) (Back.forget hbk (Back.here fun p=>Nat.zero_le _)) ⟨rfl,rfl⟩
end
end Go.Proofs.YtiolobmgibdfmaaGreat
end
section
namespace Go.Pal.Vo
def A6r(l:List Nat):Nat:=match l.getLast? with
  | some x=>x+1
  | none=>0
def more(n:Nat)(l:List Nat):List (List Nat):=(List.range' (A6r l) (n-A6r l)).map fun x=>l++[x]
def level(n:Nat):Nat→List (List Nat)
  | 0=>[[]]
  | k+1=>(level n k).flatMap (more n)
def A2e(n:Nat):List (List Nat):=(List.range (n+1)).flatMap (level n)
def A3f(n i:Nat):List (List Nat):=[]::((A2e n).take i).flatMap (more n)
theorem B3g:(List.range 9).all (fun n=>A2e n == []::(A2e n).flatMap (more n)&&(A2e n).all (fun l=>decide (l.length≤8)&&decide (A6r l≤n)&&l.all (fun x=>decide (x<n)))&&decide ((A2e n).length≤256))=true:=by decide +kernel
theorem lists_tab2:(List.range 9).all (fun n=>(List.range (A2e n).length).all fun i=>decide (i<1+(((A2e n).take i).map fun l=>n-A6r l).sum))=true:=by decide +kernel
theorem lists_fix{n:Nat}(hn:n≤8):A2e n=[]::(A2e n).flatMap (more n):=by
  have:=List.all_eq_true.1 B3g n (List.mem_range.2 oM)
  simp only [Bool.and_eq_true,beq_iff_eq]at this
  exact this.1.1
theorem A7y{n:Nat}(hn:n≤8){l:List Nat}(h:l∈A2e n):l.length≤8∧A6r l≤n∧∀x∈l,x<n:=by
  have:=List.all_eq_true.1 B3g n (List.mem_range.2 oM)
  simp only [Bool.and_eq_true,beq_iff_eq]at this
  have:=List.all_eq_true.1 this.1.2 l h
  simp only [Bool.and_eq_true,decide_eq_true_eq,List.all_eq_true]at this
  exact⟨this.1.1,this.1.2,this.2⟩
theorem B3h{n:Nat}(hn:n≤8):(A2e n).length≤256:=by
  have:=List.all_eq_true.1 B3g n (List.mem_range.2 oM)
  simp only [Bool.and_eq_true,decide_eq_true_eq]at this
  exact this.2
theorem B0h{n i:Nat}(hn:n≤8):A2e n=A3f n i++((A2e n).drop i).flatMap (more n):=by
  have h:=lists_fix hn
  unfold A3f
  rw [List.cons_append,←List.flatMap_append,List.take_append_drop]
  exact h
theorem made_lt{n i:Nat}(hn:n≤8)(hi:i<(A2e n).length):i<(A3f n i).length:=by
  have:=List.all_eq_true.1 (List.all_eq_true.1 lists_tab2 n (List.mem_range.2 oM)) i (List.mem_range.2 hi)
  have h:=of_decide_eq_true this
  unfold A3f
  have e:(((A2e n).take i).flatMap (more n)).length=(((A2e n).take i).map fun l=>n-A6r l).sum:=by
    rw [List.length_flatMap]
    congr 1
    refine List.map_congr_left fun l _=>?_
    simp [more]
  rw [List.length_cons,e]
  omega
theorem made_at{n i:Nat}(hn:n≤8)(hi:i<(A3f n i).length):∃h:i<(A2e n).length,(A3f n i)[i]=(A2e n)[i]:=by
  have h:=B0h (i:=i) hn
  have hlt:i<(A2e n).length:=by rw [h,List.length_append];omega
  refine⟨hlt,?_⟩
  have:(A2e n)[i]?=(A3f n i)[i]?:=by
    conv=>lhs;rw [h]
    rw [List.getElem?_append_left hi]
  rw [List.getElem?_eq_getElem hlt,List.getElem?_eq_getElem hi]at this
  exact(Option.some.inj this).symm
theorem made_succ{n i:Nat}(hi:i<(A2e n).length):A3f n (i+1)=A3f n i++more n (A2e n)[i]:=by
  unfold A3f
  rw [List.take_succ_eq_append_getElem hi,List.flatMap_append]
  simp
theorem made_end{n i:Nat}(hn:n≤8)(hi:¬i<(A3f n i).length):A3f n i=A2e n:=by
  have hge:¬i<(A2e n).length:=fun h=>hi (made_lt hn h)
  have h:=B0h (i:=i) hn
  rw [List.drop_eq_nil_of_le oM]at h
  simpa using h.symm
end Go.Pal.Vo
end
section
namespace Go.Proofs.YtiolobmgibdfmaaGreat
open Go Go.Pal Go.Pal.Vo Go.Conc View
open Go.Proofs.Tryz
set_option maxHeartbeats 4000000
theorem nats_one{α:Type}(l:List α)(f:α→Value)(h:∀x,A3z (f x)=true):(l.map f).all A3z=true:=List.all_eq_true.2 fun y hy=>by
  obtain⟨x,_,rfl⟩:=List.mem_map.1 hy
  exact h x
section
variable{mn:Who}{v:View}
theorem clone_x{l:List Nat}{a:Option Addr}{cap:Nat}(hrow:RowAt v a (l.map natV))(hlen:l.length<2^30):CallsB prog mn 143 #[.slice a l.length cap] (RetB fun r β'=>OwnL β' r l) [] v:=by
  refine A0f tab func143 rfl nB (args:=[_]) ?_
  cases a with
  | none=>
    have hl:l=[]:=by
      rcases hrow with h|⟨b,off,p,c,e,f,h,_⟩
      · simpa using h
      · cases h
    subst hl
    repeat (first|refine st ?_|refine qb fun bx=>?_)
    refine A0l tab [] (by exact .tmp rfl .nil) (Back.here cntL) ?_
    exact⟨none,0,rfl,.nil⟩
  | some a=>
    repeat (first|refine st ?_|refine qb fun bx=>?_)
    refine Q_op fun ho=>A3x tab ho rfl rfl rfl rfl rfl rfl rfl rfl rfl (fun b3 c3 hL=>?_)
    clear ho
    repeat (first|refine st ?_|refine qb fun bx=>?_)
    refine Q_op fun ho=>A2w tab (xs:=l.map natV) [(b3,c3,3)] [] [] ho rfl rfl rfl rfl rfl rfl rfl rfl rfl rfl cntA hL
      (fun hb=>RowAt.le hrow (A0b _ _)) sM (nats_one l natV fun _=>rfl) (by show(2*(0+l.length)+768)*8≤2^48;omega) oM (fun seg' a' cap' hS'=>?_)
    clear ho
    repeat (first|refine st ?_|refine qb fun bx=>?_)
    refine A0l tab seg' (by exact .tmp rfl .nil) (Back.here cntL) ?_
    rw [Nat.zero_add]at hS'⊢
    exact⟨a',cap',rfl,hS'⟩
def RowsOf(v:View)(rows:List Value)(ls:List (List Nat)):Prop:=rows.length=ls.length∧∀(i:Nat) (h:i<ls.length),∃ai ci,rows[i]?=some (.slice ai ls[i].length ci)∧RowAt v ai (ls[i].map natV)
theorem RowsOf.le{u v:View}{rows:List Value}{ls:List (List Nat)}(h:RowsOf u rows ls)(hl:u.Le v):RowsOf v rows ls:=⟨h.1,fun i hi=>by
  obtain⟨ai,ci,h1,h2⟩:=h.2 i hi
  exact⟨ai,ci,h1,RowAt.le h2 hl⟩⟩
theorem RowsOf.snoc{v:View}{rows:List Value}{ls:List (List Nat)}{l:List Nat}{a:Option Addr}{c m:Nat}(h:RowsOf v rows ls)(hm:m=l.length)(hr:RowAt v a (l.map natV)):RowsOf v (rows++[.slice a m c]) (ls++[l]):=by
  subst hm
  refine⟨by simp [h.1],fun i hi=>?_⟩
  by_cases e:i<ls.length
  · obtain⟨ai,ci,h1,h2⟩:=h.2 i e
    have e1:(ls++[l])[i]=ls[i]:=by rw [List.getElem_append_left e]
    rw [e1]
    exact⟨ai,ci,by rw [List.getElem?_append_left (by rw [h.1];exact e)];exact h1,h2⟩
  · have hi':i=ls.length:=by simp at hi;omega
    subst hi'
    have e1:(ls++[l])[ls.length]=l:=by simp
    rw [e1]
    exact⟨a,c,by rw [List.getElem?_append_right (by rw [h.1];exact Nat.le_refl _),h.1];simp,hr⟩
def OwnLL(β:A0j)(r:Value)(ls:List (List Nat)):Prop:=∃a cap segO segR rows,r = .slice a ls.length cap∧β=segO++segR∧OwnS 27 1 segO a ls.length cap rows∧∀v,Bok segR v→RowsOf (v.union (A0e segR)) rows ls
theorem A5w{e:TypeId}{k:Nat}{seg:A0j}{a:Option Addr}{len cap:Nat}{cs:List Value}(h:OwnS e k seg a len cap cs)(hl:0<len):∃b c,seg=[(b,c,e)]∧a=some ⟨b,0,none⟩∧len≤cap∧c.size=cap*k∧∀(i:Nat) (x:Value),cs[i]?=some x→c[i]?=some x:=by
  cases h with
  | nil=>cases hl
  | @box b c _ _ _ h1 h2 h3 h4=>exact⟨b,c,rfl,rfl,h2,h3,h4⟩
theorem low_last{l:List Nat}(h:0<l.length):A6r l=l[l.length-1]+1:=by
  unfold A6r
  rw [List.getLast?_eq_getElem?,List.getElem?_eq_getElem (show l.length-1<l.length by omega)]
def A7d(l:List Nat)(x:Nat):List (List Nat):=(List.range' (A6r l) (x-A6r l)).map fun x=>l++[x]
theorem partL_succ{l:List Nat}{x:Nat}(h:A6r l≤x):A7d l (x+1)=A7d l x++[l++[x]]:=by
  unfold A7d
  rw [show x+1-A6r l=x-A6r l+1 by omega,List.range'_1_concat,List.map_append]
  simp
  omega
theorem made_le{n i:Nat}(hn:n≤8)(hi:i<(A2e n).length):i+1≤(A3f n (i+1)).length:=by
  by_cases h:i+1<(A2e n).length
  · exact Nat.le_of_lt (made_lt hn h)
  · have h1:=B0h (i:=i+1) hn
    rw [List.drop_eq_nil_of_le oM]at h1
    have h2:=congrArg List.length h1
    simp at h2
    omega
structure LS where
  at_:Nat
  x:Nat
  a:Option Addr
  cap:Nat
  seg:A0j
  rows:List Value
  segR:A0j
theorem lists_x{n:Nat}(hn:n≤8):CallsB prog mn 87 #[.int .i64 n] (RetB fun r β'=>OwnLL β' r (A2e n)) [] v:=by
  refine A0f tab func87 rfl nB (args:=[_]) ?_
  repeat (first|refine st ?_|refine qb fun bx=>?_)
  refine Q_op fun ho=>A3x tab ho rfl rfl rfl rfl rfl rfl rfl rfl rfl (fun b3 c3 hL=>?_)
  clear ho
  repeat (first|refine st ?_|refine qb fun bx=>?_)
  have hL256:=B3h hn
  refine A1o (α:=LS) (fun z=>⟨[],[(4,.int .i64 z.at_),(3,.slice z.a (A3f n z.at_).length z.cap),(0,.int .i64 n)],z.seg⟩)
    (fun z u=>u=v.union (A0e z.segR)∧Bok z.segR v∧z.at_≤(A3f n z.at_).length∧OwnS 27 1 z.seg z.a (A3f n z.at_).length z.cap z.rows∧∀v,Bok z.segR v→RowsOf (v.union (A0e z.segR)) z.rows (A3f n z.at_)) (fun z=>(A2e n).length-z.at_)
    ⟨0,0,some ⟨b3,0,none⟩,1,[(b3,c3,27)],[.slice none 0 0],[]⟩ ⟨rfl,rg,cntL⟩ (by rw [A2r];exact Le.refl _) ⟨rfl,B3u v,Nat.zero_le _,hL,fun v _=>⟨rfl,fun i hi=>?_⟩⟩ ?_
  · have:i=0:=by simp [A3f]at hi;omega
    subst this
    exact⟨none,0,rfl,.inl rfl⟩
  rintro⟨at_,_,a,cap,seg,rows,segR⟩ u ⟨rfl,hbR,hat,hO,hR⟩
  simp only at hbR hat hO hR
  dsimp only
  have hpre:=B0h (i:=at_) hn
  have hml:(A3f n at_).length≤256:=by
    have:=congrArg List.length hpre
    rw [List.length_append]at this;omega
  repeat (first|refine st ?_|refine qb fun bx=>?_)
  refine A0t rfl (fun h=>?_) (fun h=>?_)
  · replace h:=fa h
    have hlt:at_<(A3f n at_).length:=oM
    obtain⟨hlt',hat'⟩:=made_at hn hlt
    obtain⟨ai,ci,hri,hrowi⟩:=(hR v hbR).2 at_ hlt
    rw [hat']at hri hrowi
    have hmem:(A2e n)[at_]∈A2e n:=List.getElem_mem hlt'
    have hsucc:=made_succ (n:=n) hlt'
    generalize (A2e n)[at_]=l at hri hrowi hmem hsucc
    obtain⟨hl8,hlow,hln⟩:=A7y hn hmem
    have hmore:(A3f n (at_+1)).length≤256:=by
      have:=congrArg List.length (B0h (i:=at_+1) hn)
      rw [List.length_append]at this;omega
    rw [hsucc,List.length_append]at hmore
    have hmlen:(more n l).length=n-A6r l:=by simp [more]
    rw [hmlen]at hmore
    obtain⟨b,c,rfl,rfl,hcap,hcs,hcc⟩:=A5w hO oM
    clear h
    repeat (first|refine sr ?_|refine qb fun bx=>?_)
    refine A5o ?_
    repeat (first|refine sr ?_|refine qb fun bx=>?_)
    refine A2t tab at_ rfl rfl rfl rfl rfl rfl rfl hlt ?_
    refine A6v tab rfl rfl rfl ib (A1b tab rfl rfl rfl (by rw [Nat.mul_one,Nat.zero_add];exact hcc _ _ hri)) ?_
    repeat (first|refine sr ?_|refine qb fun bx=>?_)
    refine A6f (fun σ u=>u=v.union (A0e segR)∧σ=⟨[],[(6,.int .i64 (A6r l)),(5,.slice ai l.length ci),(4,.int .i64 at_),(3,.slice (some ⟨b,0,none⟩) (A3f n at_).length cap),(0,.int .i64 n)],[(b,c,27)]⟩) ?_ ?_
    · rintro σ u ⟨rfl,rfl⟩
      repeat (first|refine st ?_|refine qb fun bx=>?_)
      refine A1o (α:=LS) (fun z=>⟨[],[(7,.int .i64 z.x),(5,.slice ai l.length ci),(4,.int .i64 at_),(3,.slice z.a (A3f n at_++A7d l z.x).length z.cap),(0,.int .i64 n)],z.seg⟩)
        (fun z u=>u=v.union (A0e z.segR)∧Bok z.segR v∧(A6r l≤z.x∧z.x≤n)∧OwnS 27 1 z.seg z.a (A3f n at_++A7d l z.x).length z.cap z.rows∧(∀v,Bok z.segR v→RowsOf (v.union (A0e z.segR)) z.rows (A3f n at_++A7d l z.x))∧RowAt u ai (l.map natV)) (fun z=>n-z.x)
        ⟨0,A6r l,some ⟨b,0,none⟩,cap,[(b,c,27)],rows,segR⟩ ⟨rfl,?_,cntL⟩ (Le.refl _) ⟨rfl,hbR,⟨Nat.le_refl _,hlow⟩,?_,?_,hrowi⟩ ?_
      · have e:A3f n at_++A7d l (A6r l)=A3f n at_:=by simp [A7d]
        dsimp only
        rw [e]
        exact rg
      · have e:A3f n at_++A7d l (A6r l)=A3f n at_:=by simp [A7d]
        dsimp only
        rw [e]
        exact hO
      · have e:A3f n at_++A7d l (A6r l)=A3f n at_:=by simp [A7d]
        dsimp only
        rw [e]
        exact hR
      clear hO hR hrowi hri hcap hcs hcc hbR
      rintro⟨_,x,a,cap,seg,rows,segR⟩ u ⟨rfl,hbR,⟨hx1,hx2⟩,hO,hR,hrowi⟩
      simp only at hbR hx1 hx2 hO hR hrowi
      dsimp only
      have hpl:(A3f n at_++A7d l x).length=(A3f n at_).length+(x-A6r l):=by simp [A7d]
      repeat (first|refine st ?_|refine qb fun bx=>?_)
      refine A0t rfl (fun h=>?_) (fun h=>?_)
      · replace h:=fa h
        have hxn:x<n:=oM
        clear h
        repeat (first|refine st ?_|refine qb fun bx=>?_)
        refine Q_op fun ho=>A0i [] _ ho bod143 rfl rfl rfl rfl rfl A1n (clone_x (RowAt.le hrowi (A0b _ _)) oM) (fun x β' hR=>?_)
        clear ho
        obtain⟨ac,cc,rfl,hSc⟩:=hR
        repeat (first|refine st ?_|refine qb fun bx=>?_)
        refine Q_op fun ho=>A3x tab ho rfl rfl rfl rfl rfl rfl rfl rfl rfl (fun b4 c4 hL4=>?_)
        clear ho
        refine Q_op fun ho=>A2w tab (xs:=[natV x]) β' [(b4,c4,3)] seg ho rfl rfl rfl rfl rfl rfl rfl rfl rfl rfl cntA hSc
          (fun hb=>RowAt.own hb cntL hL4) rfl rfl (by show(2*(l.length+1)+768)*8≤2^48;omega) oM (fun seg2 a2 cap2 hS2=>?_)
        clear ho
        refine Q_op fun ho=>A3x tab ho rfl rfl rfl rfl rfl rfl rfl rfl rfl (fun b5 c5 hL5=>?_)
        clear ho
        refine Q_op fun ho=>A2w tab (xs:=[.slice a2 (l.length+1) cap2]) seg [(b5,c5,27)] seg2 ho rfl rfl rfl rfl rfl rfl rfl rfl rfl rfl cntA hO
          (fun hb=>RowAt.own hb cntL hL5) rfl rfl (by show(2*((A3f n at_++A7d l x).length+1)+768)*24≤2^48;omega) oM (fun seg3 a3 cap3 hS3=>?_)
        clear ho
        refine A0w (β1:=seg2) (β2:=seg3) cntA (fun hb2=>?_)
        have hbn:Bok (seg2++segR) v:=bok_append.2 ⟨hbR,hb2⟩
        have hun:=A1m hbn
        rw [←hun]
        have hps:=partL_succ hx1
        have hpl2:(A3f n at_++A7d l (x+1)).length=(A3f n at_++A7d l x).length+1:=by rw [hps,←List.append_assoc,List.length_append];rfl
        repeat (first|refine st ?_|refine qb fun bx=>?_)
        refine A0c ⟨⟨0,x+1,a3,cap3,seg3,rows++[.slice a2 (l.length+1) cap2],seg2++segR⟩,_,(show n-(x+1)<n-x by omega),⟨rfl,?_,cntL⟩,Le.refl _,rfl,hbn,⟨by simp only;omega,by simp only;omega⟩,?_,?_,?_⟩
        · show SubR [_,_,_,(3,.slice a3 (A3f n at_++A7d l (x+1)).length cap3),_] _
          rw [hpl2]
          exact rg
        · show OwnS 27 1 seg3 a3 (A3f n at_++A7d l (x+1)).length cap3 _
          rw [hpl2]
          exact hS3
        · intro v' hb'
          obtain⟨k1,k2⟩:=bok_append.1 hb'
          rw [hps,←List.append_assoc]
          refine RowsOf.snoc ((hR v' k1).le ?_) sM ?_
          · rw [A1m hb'];exact A0b _ _
          · rw [A1m hb',List.map_append]
            exact RowAt.own k2 (fun _=>Nat.le_refl _) hS2
        · show RowAt (v.union (A0e (seg2++segR))) ai (l.map natV)
          rw [hun]
          exact RowAt.le hrowi (A0b _ _)
      · replace h:=fa h
        have hxn:x=n:=oM
        subst hxn
        clear h
        have e:A3f x at_++A7d l x=A3f x (at_+1):=by rw [hsucc];rfl
        rw [e]at hO hR⊢
        repeat (first|refine st ?_|refine qb fun bx=>?_)
        exact A0c ⟨⟨at_+1,0,a,cap,seg,rows,segR⟩,_,(show(A2e x).length-(at_+1)<(A2e x).length-at_ by omega),⟨rfl,rg,cntL⟩,Le.refl _,rfl,hbR,made_le (hn:=hn) hlt',hO,hR⟩
    · repeat (first|refine st ?_|refine qb fun bx=>?_)
      refine A0t rfl (fun h=>?_) (fun h=>?_)
      · replace h:=fa h
        have hpos:0<l.length:=oM
        have hlast:l.length-1<l.length:=oM
        have hlx:=hln _ (List.getElem_mem hlast)
        obtain⟨b',off,p,c',e,f,rfl,hv,hc⟩:=hrowi.get hlast
        repeat (first|refine st ?_|refine qb fun bx=>?_)
        refine A2t tab (l.length-1) rfl rfl rfl rfl oM rfl rfl hlast ?_
        refine A2p tab rfl rfl rfl hv (A1b tab rfl rfl rfl (by rw [Nat.mul_one];exact hc _ hlast)) ?_
        repeat (first|refine st ?_|refine qb fun bx=>?_)
        exact A0c ⟨_,_,⟨rfl,rfl⟩,⟨rfl,(by rw [low_last hpos];exact rg),cntL⟩,Le.refl _⟩
      · replace h:=fa h
        have h0:l=[]:=List.length_eq_zero_iff.1 oM
        subst h0
        repeat (first|refine st ?_|refine qb fun bx=>?_)
        exact A0c ⟨_,_,⟨rfl,rfl⟩,⟨rfl,rg,cntL⟩,Le.refl _⟩
  · replace h:=fa h
    have hge:¬at_<(A3f n at_).length:=oM
    have hE:=made_end hn hge
    rw [hE]at hO hR⊢
    repeat (first|refine st ?_|refine qb fun bx=>?_)
    refine A0l tab (β':=seg++segR) (by exact .tmp rfl .nil) (Back.retired hbR (Back.here cntL)) ?_
    exact⟨a,cap,seg,segR,rows,rfl,rfl,hO,hR⟩
end
end Go.Proofs.YtiolobmgibdfmaaGreat
end
section
namespace Go.Pal
open Go Go.Conc View
section
variable{P:Program}{mn:Who}(T:Tab P){rd:Option Nat}{n:Nat}{Q:Exit→St→View→Prop}{ds:List Deferred}{ρ:Regs}{β:A0j}{v:View}{K:St→View→Prop}
  {ops:Array Oper}{i:Nat}{d:Nat}{ty:TypeId}{pos:String}{af:Array Edge}{gu:Option (Nat×Bool)}
theorem A_appendG{t t' e e':TypeId}{k by_ m len cap cap2:Nat}{y y2:Operand}{z:Value}{a a2:Option Addr}{cs xs:List Value}(ho:ops[i]?=some ⟨some d,.call {callee:=.builtin .append,args:=#[y,y2],argTypes:=#[t,t'] },ty,pos,af,gu⟩)(hw:A0x ops gu ρ=some true)(hn:Nat.blt d n=true)
    (hy:ρ.val y=some (.slice a len cap))(hy2:ρ.val y2=some (.slice a2 m cap2))
    (ht:T.und t=some (.slice e))(ht':T.und t'=some (.slice e'))(hs:T.siz e=some k)(hby:T.byt e=some by_)(hz:T.zer e=some z)(hzs:z.cells.size=k)
    (hr1:RowAt v a cs)(hl1:cs.length=len*k)(hr2:RowAt v a2 xs)(hxl:xs.length=m*k)(hc:cap<len+m)
    (hb:(2*(len+m)+768)*by_≤2^48)(hp:0<by_)
    (h:∀b c cap',OwnS e k [(b,c,e)] (some ⟨b,0,none⟩) (len+m) cap' (cs++xs)→K ⟨ds,(d,.slice (some ⟨b,0,none⟩) (len+m) cap')::ρ,(b,c,e)::β⟩ v):XOp P mn rd n ops i Q K ⟨ds,ρ,β⟩ v:=by
  refine A2x ho (A0p hw) (.inr rfl) hn fun ev hev hbk=>?_
  simp only [execOp,resolve,show(#[y,y2]:Array Operand).map ev=#[ev y,ev y2]from by simp,hev _ _ hy,hev _ _ hy2,A0d,A0m,invoke,builtin]
  refine B0b T ht ht' hs hby hz hzs (hr1.le (A0b _ _)) hl1 (hr2.le (A0b _ _)) hxl hc hb hp fun r cap' c hr hc1 hc2 hc3=>?_
  obtain⟨h5,h6⟩:=B0s (c:=c) (t:=e) hbk hr
  exact⟨(r,c,e)::β,v,⟨h5,h6⟩,h r c cap' (.box (by rw [List.length_append,hl1,hxl,Nat.add_mul]) hc1 hc2 hc3)⟩
theorem A_append0{t t' e e':TypeId}{k len cap cap2 b off:Nat}{y y2:Operand}{a2:Option Addr}(ho:ops[i]?=some ⟨some d,.call {callee:=.builtin .append,args:=#[y,y2],argTypes:=#[t,t'] },ty,pos,af,gu⟩)(hw:A0x ops gu ρ=some true)(hn:Nat.blt d n=true)
    (hy:ρ.val y=some (.slice (some ⟨b,off,none⟩) len cap))(hy2:ρ.val y2=some (.slice a2 0 cap2))
    (ht:T.und t=some (.slice e))(ht':T.und t'=some (.slice e'))(hs:T.siz e=some k)(hc:len≤cap)
    (h:K ⟨ds,(d,.slice (some ⟨b,off,none⟩) len cap)::ρ,β⟩ v):XOp P mn rd n ops i Q K ⟨ds,ρ,β⟩ v:=by
  refine A2x ho (A0p hw) (.inr rfl) hn fun ev hev hbk=>?_
  simp only [execOp,resolve,show(#[y,y2]:Array Operand).map ev=#[ev y,ev y2]from by simp,hev _ _ hy,hev _ _ hy2,A0d,A0m,invoke,builtin]
  unfold Builtin.append_
  simp only [show(#[t,t']:Array TypeId)[0]?=some t from rfl,show(#[t,t']:Array TypeId)[1]?=some t' from rfl,show ∀x y:Value,(#[x,y]:Array Value)[0]?=some x from fun _ _=>rfl,show ∀x y:Value,(#[x,y]:Array Value)[1]?=some y from fun _ _=>rfl,A0d,A1r T ht,A1r T ht',A5f T hs,A0m]
  simp only [Bool.false_eq_true,if_false,Builtin.lenOf,A0d,A0m]
  rw [if_pos (show len+0≤cap from hc),A0d]
  simp only [Bool.not_false,if_true]
  refine A4q (n:=0) (k:=k) (cs:=[]) (.inl rfl) sM ?_
  rw [A0d]
  simp only [storeCells,A0m]
  exact⟨β,v,⟨hbk,Le.refl _⟩,h⟩
section
variable{S:List Rec}{done:List Nat}{ms:List Nat}{v0:View}{todo:List Nat}
theorem S_slice_hm{t e:TypeId}{y z1 z2:Operand}{a:Option Addr}{len cap h' m sz:Nat}{k1 k2:IntKind}(ho:ops[i]?=some ⟨some d,.slice t y none (some z1) (some z2),ty,pos,af,gu⟩)(hw:A0x ops gu ρ=some true)(hn:Nat.blt d n=true)(hB:B1v ops ms done i=true)
    (hy:ρ.val y=some (.slice a len cap))(ht:T.und t=some (.slice e))(hs:T.siz e=some sz)(hhi:ρ.val z1=some (.int k1 h'))(hmx:ρ.val z2=some (.int k2 m))(h3:m≤cap)(h2:h'≤m)
    (h:XS P mn n ops ms v0 Q todo S (i::done) ⟨ds,(d,.slice (if m=0 then a else a.map (·.add (0*sz))) (h'-0) (m-0))::ρ,β⟩ v):XS P mn n ops ms v0 Q (i::todo) S done ⟨ds,ρ,β⟩ v:=
  A7i (vq:=fun _=>none) (x:=.slice (if m=0 then a else a.map (·.add (0*sz))) (h'-0) (m-0)) ho hn hB (fun a hf=>.inl ⟨A0q hf (A0p hw),fun u _=>by
    unfold QAt execOp
    simp only [Option.map_none,Option.map_some,Instr.sliceAt,Instr.slice,Instr.sliceBounds,A0o hf _ _ hy,A0o hf _ _ hhi,A0o hf _ _ hmx,A0d,A0m,A1r T ht]
    refine B0a h3 ?_
    refine B0a h2 ?_
    simp only [A5f T hs]
    exact⟨Le.refl _,trivial⟩⟩) (fun _ _ b x e=>by cases e) (sv_mem fun b x e=>by cases e) h
theorem S_slice_l{t e:TypeId}{y z0:Operand}{a:Option Addr}{len cap l' sz:Nat}{k0:IntKind}(ho:ops[i]?=some ⟨some d,.slice t y (some z0) none none,ty,pos,af,gu⟩)(hw:A0x ops gu ρ=some true)(hn:Nat.blt d n=true)(hB:B1v ops ms done i=true)
    (hy:ρ.val y=some (.slice a len cap))(ht:T.und t=some (.slice e))(hs:T.siz e=some sz)(hlo:ρ.val z0=some (.int k0 l'))(h1:l'≤len)
    (h:XS P mn n ops ms v0 Q todo S (i::done) ⟨ds,(d,.slice (if cap=l' then a else a.map (·.add (l'*sz))) (len-l') (cap-l'))::ρ,β⟩ v):XS P mn n ops ms v0 Q (i::todo) S done ⟨ds,ρ,β⟩ v:=
  A7i (vq:=fun _=>none) (x:=.slice (if cap=l' then a else a.map (·.add (l'*sz))) (len-l') (cap-l')) ho hn hB (fun a hf=>.inl ⟨A0q hf (A0p hw),fun u _=>by
    unfold QAt execOp
    simp only [Option.map_none,Option.map_some,Instr.sliceAt,Instr.slice,Instr.sliceBounds,A0o hf _ _ hy,A0o hf _ _ hlo,A0d,A0m,A1r T ht]
    refine B0a h1 ?_
    simp only [A5f T hs]
    exact⟨Le.refl _,trivial⟩⟩) (fun _ _ b x e=>by cases e) (sv_mem fun b x e=>by cases e) h
end
theorem row_cell{a:Option Addr}{xs:List Value}{j:Nat}{x:Value}(h:RowAt v a xs)(hx:xs[j]?=some x):∃b off p c e f,a=some ⟨b,off,none⟩∧v b=some (p,.cells c e f)∧c[off+j]?=some x:=by
  rcases h with rfl|⟨b,off,p,c,e,f,h1,h2,_,h4⟩
  · simp at hx
  · exact⟨b,off,p,c,e,f,h1,h2,h4 _ _ hx⟩
end
end Go.Pal
end
section
namespace Go.Proofs.YtiolobmgibdfmaaGreat
open Go Go.Pal Go.Pal.Vo Go.Conc View
open Go.Proofs.Tryz
set_option maxHeartbeats 4000000
section
variable{mn:Who}{v:View}{a:Option Addr}{cap:Nat}
theorem find_idxG{α:Type}{l:List α}{p:α→Bool}:(idxL p l 0 = -1∧l.find? p=none)∨∃i,∃h:i<l.length,idxL p l 0=(i:Int)∧l.find? p=some l[i]:=by
  rcases B0l p l 0 with ⟨h1,h2⟩|⟨i,hi,h1,h2,h3⟩
  · exact .inl ⟨h1,List.find?_eq_none.2 fun x hx=>by rw [h2 x hx];decide⟩
  · refine .inr ⟨i,hi,by rw [h1,Nat.zero_add],?_⟩
    rw [List.find?_eq_some_iff_getElem]
    refine⟨h2,i,hi,rfl,fun j hj=>?_⟩
    have:=h3 l[j] (List.mem_take_iff_getElem.2 ⟨j,oM,rfl⟩)
    simp [this]
def AskRow(mn:Who)(v:View)(ls:List (List Nat))(k:FuncId)(captured:Array Value)(p:List Nat→Bool):Prop:=
  ∀l∈ls,∀ai ci u,v.Le u→RowAt u ai (l.map natV)→Ret1 prog mn k (.slice ai l.length ci::captured.toList) (.bool (p l)) u
theorem indexR_x{ls:List (List Nat)}{rows:List Value}{p:List Nat→Bool}{k:FuncId}{captured:Array Value}(hrow:RowAt v a rows)(hR:RowsOf v rows ls)(hlen:ls.length<2^30)(hk:A0n prog k)
    (hf:AskRow mn v ls k captured p):Ret1 prog mn 142 [.slice a ls.length cap,.func (.func k) #[] captured] (.int .i64 (idxL p ls 0)) v:=by
  refine A0f tab func142 rfl nB (args:=[_,_]) ?_
  repeat (first|refine st ?_|refine qb fun bx=>?_)
  refine A1o (α:=Nat) (fun i=>⟨[],[(8,.int .i64 i),(7,.int .i64 ls.length),(0,.slice a ls.length cap),(1,.func (.func k) #[] captured)],[]⟩)
    (fun i u=>u=v∧i≤ls.length∧idxL p ls 0=idxL p (ls.drop i) i) (fun i=>ls.length-i) 0 ⟨rfl,rg,cntL⟩ (Le.refl _) ⟨rfl,Nat.zero_le _,rfl⟩ ?_
  rintro i u ⟨rfl,hi,hE⟩
  repeat (first|refine st ?_|refine qb fun bx=>?_)
  refine A0t rfl (fun h=>?_) (fun h=>?_)
  · replace h:=fa h
    have hlt:i<ls.length:=oM
    obtain⟨ai,ci,hri,hrowi⟩:=hR.2 i hlt
    obtain⟨b,off,q,c,e,f,rfl,hv,hc⟩:=row_cell hrow hri
    rw [List.drop_eq_getElem_cons hlt,idxL]at hE
    repeat (first|refine st ?_|refine qb fun bx=>?_)
    refine A2t tab i rfl rfl rfl rfl rfl rfl rfl hlt ?_
    refine A2p tab rfl rfl rfl hv (A1b tab rfl rfl rfl (by rw [Nat.mul_one];exact hc)) ?_
    repeat (first|refine st ?_|refine qb fun bx=>?_)
    refine Q_op fun ho=>A0s ho hk rfl rfl rfl rfl (List.nil_append _) (hf ls[i] (List.getElem_mem hlt) ai ci _ (Le.refl _) hrowi) ?_
    clear ho
    cases hp:p ls[i]with
    | true=>
      rw [hp,if_pos rfl]at hE
      repeat (first|refine st ?_|refine qb fun bx=>?_)
      refine A0l tab [] (by exact .tmp rfl .nil) (Back.here cntL) ?_
      rw [hE];exact⟨rfl,rfl⟩
    | false=>
      rw [hp,if_neg dM]at hE
      repeat (first|refine st ?_|refine qb fun bx=>?_)
      exact A0c ⟨i+1,u,(by have:=hlt;omega),⟨rfl,rg,cntL⟩,Le.refl _,rfl,hlt,hE⟩
  · replace h:=fa h
    have hin:i=ls.length:=oM
    subst hin
    rw [List.drop_length]at hE
    repeat (first|refine st ?_|refine qb fun bx=>?_)
    refine A0l tab [] (by exact .tmp rfl .nil) (Back.here cntL) ?_
    rw [hE];exact⟨rfl,rfl⟩
def FoundR(v:View)(o:Option (List Nat))(r:Value):Prop:=match o with
  | some l=>∃ai ci,r = .tuple #[.slice ai l.length ci,.bool true]∧RowAt v ai (l.map natV)
  | none=>r = .tuple #[.slice none 0 0,.bool false]
theorem first_x{v0:View}{ls:List (List Nat)}{rows:List Value}{p:List Nat→Bool}{k:FuncId}{captured:Array Value}(hl0:v0.Le v)(hrow:RowAt v0 a rows)(hR:RowsOf v0 rows ls)(hlen:ls.length<2^30)(hk:A0n prog k)
    (hf:AskRow mn v ls k captured p):CallsB prog mn 86 #[.slice a ls.length cap,.func (.func k) #[] captured] (RetB fun r β'=>FoundR v0 (ls.find? p) r∧β'=[]) [] v:=by
  refine A0f tab func86 rfl nB (args:=[_,_]) ?_
  repeat (first|refine st ?_|refine qb fun bx=>?_)
  refine Q_op fun ho=>A0s ho bod142 rfl rfl rfl rfl rfl (indexR_x (RowAt.le hrow hl0) (hR.le hl0) hlen hk hf) ?_
  clear ho
  rcases find_idxG (l:=ls) (p:=p)with ⟨h1,h2⟩|⟨i,hi,h1,h2⟩
  · rw [h1,h2]
    repeat (first|refine st ?_|refine qb fun bx=>?_)
    refine A0l tab [] (by exact .tmp rfl (.tmp rfl .nil)) (Back.here cntL) ?_
    exact⟨rfl,rfl⟩
  · rw [h1,h2]
    obtain⟨ai,ci,hri,hrowi⟩:=hR.2 i hi
    obtain⟨b,off,q,c,e,f,rfl,hv,hc⟩:=row_cell (RowAt.le hrow hl0) hri
    repeat (first|refine st ?_|refine qb fun bx=>?_)
    refine A2t tab i rfl rfl rfl rfl rfl rfl rfl hi ?_
    refine A2p tab rfl rfl rfl hv (A1b tab rfl rfl rfl (by rw [Nat.mul_one];exact hc)) ?_
    repeat (first|refine st ?_|refine qb fun bx=>?_)
    refine A0l tab [] (by exact .tmp rfl (.tmp rfl .nil)) (Back.here cntL) ?_
    exact⟨⟨ai,ci,rfl,hrowi⟩,rfl⟩
end
end Go.Proofs.YtiolobmgibdfmaaGreat
end
section
namespace Go.Pal.Vo
def A6j{α:Type}(ws:List α)(i:Nat):List α:=ws.take i++ws.drop (i+1)
def A3s{α:Type}(ws:List α)(l:List Nat):List α:=l.foldr (fun i acc=>A6j acc i) ws
def Asc1(l:List Nat):Prop:=l.Pairwise (· < ·)
instance (l:List Nat):Decidable (Asc1 l):=inferInstanceAs (Decidable (l.Pairwise (· < ·)))
theorem lists_asc_tab:(List.range 9).all (fun n=>(A2e n).all fun l=>decide (Asc1 l))=true:=by decide +kernel
theorem lists_asc{n:Nat}(hn:n≤8){l:List Nat}(h:l∈A2e n):Asc1 l:=by
  have:=List.all_eq_true.1 lists_asc_tab n (List.mem_range.2 oM)
  exact of_decide_eq_true (List.all_eq_true.1 this l h)
theorem dropAt_len{α:Type}{ws:List α}{i:Nat}(h:i<ws.length):(A6j ws i).length=ws.length-1:=by
  unfold A6j
  rw [List.length_append,List.length_take,List.length_drop]
  omega
theorem B2o{α:Type}{ws:List α}:∀{l:List Nat},Asc1 l→(∀x∈l,x<ws.length)→∀k,k<ws.length→(∀x∈l,k<x)→k<(A3s ws l).length
  | [],_,_,k,hk,_=>hk
  | a::t,hA,hx,k,hk,hkl=>by
    have hA':=List.pairwise_cons.1 hA
    have ih:=B2o (ws:=ws) hA'.2 (fun x h=>hx x (List.mem_cons_of_mem _ h)) a (hx a (List.mem_cons_self ..)) (fun x h=>hA'.1 x h)
    have h1:=hkl a (List.mem_cons_self ..)
    show k<(A6j (A3s ws t) a).length
    rw [dropAt_len ih]
    omega
theorem without_at{α:Type}{ws:List α}{l:List Nat}(hA:Asc1 l)(hx:∀x∈l,x<ws.length){j:Nat}(hj:j<l.length):l[j]<(A3s ws (l.drop (j+1))).length∧A3s ws (l.drop j)=A6j (A3s ws (l.drop (j+1))) l[j]:=by
  have hd:=List.drop_eq_getElem_cons hj
  refine⟨B2o ?_ (fun x h=>hx x (List.mem_of_mem_drop h)) _ (hx _ (List.getElem_mem hj)) ?_,by rw [hd];rfl⟩
  · exact List.Pairwise.sublist (List.drop_sublist _ _) hA
  · have h1:Asc1 (l.drop j):=List.Pairwise.sublist (List.drop_sublist _ _) hA
    rw [hd]at h1
    exact(List.pairwise_cons.1 h1).1
theorem A9f{α:Type}{ws:List α}{x:α}:∀{l:List Nat},x∈A3s ws l→x∈ws
  | [],h=>h
  | a::t,h=>by
    have h':x∈A6j (A3s ws t) a:=h
    unfold A6j at h'
    rcases List.mem_append.1 h' with h'|h'
    · exact A9f (List.mem_of_mem_take h')
    · exact A9f (List.mem_of_mem_drop h')
theorem without_le{α:Type}{ws:List α}:∀{l:List Nat},(A3s ws l).length≤ws.length
  | []=>Nat.le_refl _
  | a::t=>by
    have ih:=without_le (ws:=ws) (l:=t)
    show(A6j (A3s ws t) a).length≤_
    unfold A6j
    rw [List.length_append,List.length_take,List.length_drop]
    omega
end Go.Pal.Vo
end
section
namespace Go.Pal
open Go Go.Conc View
section
variable{v:View}
theorem row_take{a:Option Addr}{xs:List Value}(h:RowAt v a xs)(m:Nat):RowAt v a (xs.take m):=by
  rcases h with rfl|⟨b,off,p,c,e,f,h1,h2,h3,h4⟩
  · exact .inl sM
  · refine .inr ⟨b,off,p,c,e,f,h1,h2,?_,fun i x hx=>?_⟩
    · rw [List.length_take];omega
    · rw [List.getElem?_take]at hx
      split at hx
      · exact h4 _ _ hx
      · cases hx
theorem row_drop{b off:Nat}{xs:List Value}(h:RowAt v (some ⟨b,off,none⟩) xs){m:Nat}(hm:m≤xs.length):RowAt v (some ⟨b,off+m,none⟩) (xs.drop m):=by
  rcases h with rfl|⟨b',off',p,c,e,f,h1,h2,h3,h4⟩
  · exact .inl sM
  · cases h1
    refine .inr ⟨b,off+m,p,c,e,f,rfl,h2,?_,fun i x hx=>?_⟩
    · rw [List.length_drop];omega
    · rw [List.getElem?_drop]at hx
      rw [Nat.add_assoc]
      exact h4 _ _ hx
end
end Go.Pal
namespace Go.Proofs.YtiolobmgibdfmaaGreat
open Go Go.Pal Go.Pal.Vo Go.Conc View
open Go.Proofs.Tryz
set_option maxHeartbeats 4000000
theorem A4m(ws:List Wd):(ws.map wdC).flatten.length=ws.length*4:=by
  induction ws with
  | nil=>rfl
  | cons x l ih=>rw [List.map_cons,List.flatten_cons,List.length_append,ih];show 4+l.length*4=(l.length+1)*4;omega
theorem A9s:∀(ws:List Wd) (k:Nat),(ws.map wdC).flatten.take (k*4)=((ws.take k).map wdC).flatten
  | [],k=>by simp
  | x::l,0=>by simp
  | x::l,k+1=>by
    rw [List.map_cons,List.flatten_cons,List.take_succ_cons,List.map_cons,List.flatten_cons,show(k+1)*4=(wdC x).length+k*4 by show _=4+_;omega,List.take_length_add_append,A9s l k]
theorem A9t:∀(ws:List Wd) (k:Nat),(ws.map wdC).flatten.drop (k*4)=((ws.drop k).map wdC).flatten
  | [],k=>by simp
  | x::l,0=>by simp
  | x::l,k+1=>by
    rw [List.map_cons,List.flatten_cons,List.drop_succ_cons,show(k+1)*4=(wdC x).length+k*4 by show _=4+_;omega,List.drop_length_add_append,A9t l k]
section
variable{v:View}{wa:Option Addr}{wc:Nat}
theorem WdsAt.take{a:Option Addr}{ws:List Wd}(h:WdsAt v a ws)(k:Nat):WdsAt v a (ws.take k):=by
  unfold WdsAt
  rw [←A9s]
  exact row_take h _
theorem WdsAt.drop{b off:Nat}{ws:List Wd}(h:WdsAt v (some ⟨b,off,none⟩) ws){k:Nat}(hk:k≤ws.length):WdsAt v (some ⟨b,off+k*4,none⟩) (ws.drop k):=by
  unfold WdsAt
  rw [←A9t]
  exact row_drop h (by rw [A4m];omega)
structure SW where
  j:Nat
  a:Option Addr
  c:Nat
  seg:A0j
theorem silentF_x{P F:Nat}{ws:List Wd}{l:List Nat}{ai:Option Addr}{ci b1:Nat}{q1:Bool}{e1:TypeId}{f1:Nat×Nat}(hv:VOk P F ws)(hws:WdsAt v wa ws)(hwc:ws.length≤wc)(hA:Asc1 l)(hl:∀x∈l,x<ws.length)(hll:l.length<2^30)(hrow:RowAt v ai (l.map natV))(hv1:v b1=some (q1,.cells (boV P F wa ws.length wc).cells e1 f1)) :
    Ret1 prog ⟨true,true⟩ 88 [.slice ai l.length ci,.pointer (some ⟨b1,0,none⟩)] (.bool (decide (((A0g P F (A3s ws l)).length:Int) > 0))) v:=by
  refine A0f tab func88 rfl nB (args:=[_,_]) ?_
  have hw8:=hv.w8
  repeat (first|refine st ?_|refine qb fun bx=>?_)
  refine A2p tab rfl rfl rfl hv1 (A2d tab (k:=3) (x:=[.int .i64 P,.int .i64 F,.slice wa ws.length wc]) rfl rfl rfl ⟨Nat.le_refl _,rfl⟩) ?_
  repeat (first|refine st ?_|refine qb fun bx=>?_)
  refine A1o (α:=SW) (fun z=>⟨[],[(5,.int .i64 ((z.j:Int)-1)),(0,.slice ai l.length ci),(4,.pointer (some ⟨bx,0,none⟩))],[(bx,(boV P F z.a (A3s ws (l.drop z.j)).length z.c).cells,24)]⟩)
    (fun z u=>u=v.union (A0e z.seg)∧Bok z.seg v∧z.j≤l.length∧WdsAt u z.a (A3s ws (l.drop z.j))∧(A3s ws (l.drop z.j)).length≤z.c) (fun z=>z.j) ⟨l.length,wa,wc,[]⟩ ⟨rfl,rg,?_⟩ (by rw [A2r];exact Le.refl _) ⟨rfl,B3u v,Nat.le_refl _,?_,?_⟩ ?_
  · simp only [List.drop_length]
    exact(show Subm [(bx,(boV P F wa ws.length wc).cells,24)] [(bx,(boV P F wa ws.length wc).cells,24)]from cntL)
  · simp only [List.drop_length]
    rw [A2r];exact hws
  · simp only [List.drop_length]
    exact hwc
  rintro⟨j,a,c,seg⟩ u ⟨rfl,hbS,hj,hW,hc⟩
  simp only at hbS hj hW hc
  dsimp only
  have hwl:(A3s ws (l.drop j)).length≤8:=Nat.le_trans without_le hw8
  repeat (first|refine st ?_|refine qb fun bx=>?_)
  refine A0t rfl (fun h=>?_) (fun h=>?_)
  · replace h:=fa h
    obtain⟨i,rfl⟩:∃i,j=i+1:=⟨j-1,oM⟩
    have hi:i<l.length:=oM
    obtain⟨hk,A5e⟩:=without_at hA hl hi
    have hrow':=RowAt.le hrow (A0b v (A0e seg))
    obtain⟨rb,ro,rp,rc,re,rf,rfl,hrv,hrc⟩:=hrow'.get hi
    generalize hws':A3s ws (l.drop (i+1))=ws' at *
    generalize hkk:l[i]=k at *
    obtain⟨b,off,q,wcs,e,f,rfl,hwv,hwcs⟩:=hW.get hk
    clear h
    rw [show(((i+1:Nat):Int)-1)=(i:Int) by omega]
    repeat (first|refine st ?_|refine qb fun bx=>?_)
    refine A2u [19,21] [0,1,2,3,4,5,6,7,8,9,10,11,12,13,14,15,16,17,18,19,20,21] A1w rfl kR ?_
    have hrci:=hrc i hi
    rw [hkk]at hrci
    have ea:(if k=0 then some (⟨b,off,none⟩:Addr)else Option.map (fun(x:Addr)=>x.add (0*4)) (some (⟨b,off,none⟩:Addr)))=some ⟨b,off,none⟩:=by
      split
      · rfl
      · rw [Option.map_some,A5m];simp
    repeat (first|refine st ?_|refine qb fun bx=>?_)
    refine A0v tab i rfl rfl rfl kR rfl rfl oM rfl rfl hi ?_
    refine A8d tab rfl rfl rfl kR rfl hrv (x:=natV k) (A1b tab rfl rfl rfl (by rw [Nat.mul_one];exact hrci)) ?_
    repeat (first|refine st ?_|refine qb fun bx=>?_)
    refine A0v tab i rfl rfl rfl kR rfl rfl oM rfl rfl hi ?_
    refine A8d tab rfl rfl rfl kR rfl hrv (x:=natV k) (A1b tab rfl rfl rfl (by rw [Nat.mul_one];exact hrci)) ?_
    repeat (first|refine st ?_|refine qb fun bx=>?_)
    refine S_slice_hm tab (h':=k) (m:=k) rfl rfl rfl kR rfl rfl rfl rfl rfl oM (Nat.le_refl _) ?_
    rw [ea]
    repeat (first|refine st ?_|refine qb fun bx=>?_)
    refine A0v tab i rfl rfl rfl kR rfl rfl oM rfl rfl hi ?_
    refine A8d tab rfl rfl rfl kR rfl hrv (x:=natV k) (A1b tab rfl rfl rfl (by rw [Nat.mul_one];exact hrci)) ?_
    repeat (first|refine st ?_|refine qb fun bx=>?_)
    refine S_slice_l tab (l':=k+1) rfl rfl rfl kR rfl rfl rfl rfl oM ?_
    by_cases hm:ws'.length=k+1
    · have hsame:A3s ws (l.drop i)=ws'.take k:=by rw [A5e];unfold A6j;rw [List.drop_eq_nil_of_le oM,List.append_nil]
      have hlk:(ws'.take k).length=k:=by rw [List.length_take];omega
      refine S_do kR (A_append0 tab (a2:=if c=k+1 then some ⟨b,off,none⟩else Option.map (fun(x:Addr)=>x.add ((k+1)*4)) (some ⟨b,off,none⟩)) (cap2:=c-(k+1)) rfl rfl rfl rfl (by show some (Value.slice _ (ws'.length-(k+1)) _)=_;rw [hm,Nat.sub_self]) rfl rfl rfl (Nat.le_refl _) ⟨Le.refl _,kp,?_⟩)
      repeat (first|refine st ?_|refine qb fun bx=>?_)
      refine A0c ⟨⟨i,some ⟨b,off,none⟩,k,seg⟩,_,(show i<i+1 by omega),⟨rfl,rg,?_⟩,Le.refl _,rfl,hbS,by simp only;omega,?_,?_⟩
      · rw [hsame,hlk]
        exact cntL
      · rw [hsame]
        exact hW.take k
      · rw [hsame,hlk]
        exact Nat.le_refl _
    · have hlen2:(A6j ws' k).length=k+(ws'.length-(k+1)):=by unfold A6j;rw [List.length_append,List.length_take,List.length_drop];omega
      have hflat:((ws'.take k).map wdC).flatten++((ws'.drop (k+1)).map wdC).flatten=((A6j ws' k).map wdC).flatten:=by unfold A6j;rw [List.map_append,List.flatten_append]
      rw [if_neg (show ¬c=k+1 by omega),Option.map_some,A5m]
      refine S_do kR (A_appendG tab (len:=k) (m:=ws'.length-(k+1)) (cs:=((ws'.take k).map wdC).flatten) (xs:=((ws'.drop (k+1)).map wdC).flatten) rfl rfl rfl rfl rfl rfl rfl rfl rfl rfl rfl
        (hW.take k) (by rw [A4m,List.length_take];omega) (hW.drop oM) (by rw [A4m,List.length_drop]) oM (by show(2*(k+(ws'.length-(k+1)))+768)*32≤2^48;omega) oM (fun b5 c5 cap5 hS=>⟨Le.refl _,kp,?_⟩))
      repeat (refine ss ?_)
      refine S_do kR (B0z tab rfl rfl rfl rfl rfl rfl rfl ib (by exact rfl) sb ⟨Le.refl _,kp,?_⟩)
      repeat (refine ss ?_)
      refine A5c (A7g ?_)
      refine XC_retire (β1:=[(b5,c5,26)]) (β2:=_) (fun _=>rfl) (fun hb5=>?_)
      have hbn:Bok ([(b5,c5,26)]++seg) v:=bok_append.2 ⟨hbS,hb5⟩
      have hun:=A1m hbn
      have hrow5:=A2m hb5 hS
      obtain⟨_,_,_,_,hcap5,_⟩:=A5w hS oM
      rw [hflat]at hrow5
      rw [←hun]at hrow5⊢
      repeat (first|refine st ?_|refine qb fun bx=>?_)
      refine A0c ⟨⟨i,some ⟨b5,0,none⟩,cap5,[(b5,c5,26)]++seg⟩,_,(show i<i+1 by omega),⟨rfl,rg,?_⟩,Le.refl _,rfl,hbn,by simp only;omega,?_,?_⟩
      · simp only
        rw [A5e,hlen2]
        exact(show Subm [(bx,(boV P F (some ⟨b5,0,none⟩) (k+(ws'.length-(k+1))) cap5).cells,24)] [(bx,(boV P F (some ⟨b5,0,none⟩) (k+(ws'.length-(k+1))) cap5).cells,24)]from cntL)
      · simp only
        rw [A5e]
        exact hrow5
      · simp only
        rw [A5e,hlen2]
        exact hcap5
  · replace h:=fa h
    have hj0:j=0:=oM
    subst hj0
    rw [List.drop_zero]at hW hc hwl⊢
    repeat (first|refine st ?_|refine qb fun bx=>?_)
    refine Q_op fun ho=>A0i [] _ ho bod80 rfl rfl rfl rfl rfl A1n (worlds_x hv.p4 hv.f3 (hW.le (A0b _ _)) (fun x hx=>hv.fit x (A9f hx)) oM) (fun x β' hR=>?_)
    clear ho
    obtain⟨a',cap',rfl,hS⟩:=hR
    repeat (first|refine st ?_|refine qb fun bx=>?_)
    refine A0l tab [] (by exact .tmp rfl .nil) (Back.forget hbS (Back.here fun p=>Nat.zero_le _)) ?_
    exact⟨rfl,rfl⟩
end
end Go.Proofs.YtiolobmgibdfmaaGreat
end
section
namespace Go.Proofs.YtiolobmgibdfmaaGreat
open Go Go.Pal Go.Pal.Vo Go.Conc View
open Go.Proofs.Tryz
set_option maxHeartbeats 4000000
section
variable{v:View}{wa:Option Addr}{wc:Nat}
def ReadL(v:View)(β:A0j)(x:Value)(l:List Nat):Prop:=∃a cap,x = .slice a l.length cap∧RowAt (v.union (A0e β)) a (l.map natV)
theorem ReadL.nil{β:A0j}:ReadL v β (.slice none 0 0) []:=⟨none,0,rfl,.inl rfl⟩
def canW(P F:Nat)(ws:List Wd)(l:List Nat):Bool:=decide (((A0g P F (A3s ws l)).length:Int) > 0)
def B2w(P F:Nat)(ws:List Wd):List Nat:=((A2e ws.length).find? (canW P F ws)).getD []
theorem OwnLL.read{β γ:A0j}{x:Value}{ls:List (List Nat)}(h:OwnLL β x ls)(hb:Bok γ v)(hs:Subm β γ):∃a cap rows,x = .slice a ls.length cap∧RowAt (v.union (A0e γ)) a rows∧RowsOf (v.union (A0e γ)) rows ls:=by
  obtain⟨a,cap,segO,segR,rows,rfl,rfl,hO,hR⟩:=h
  have h1:Subm segO γ:=fun p=>by have:=hs p;rw [A2g]at this;omega
  have h2:Subm segR γ:=fun p=>by have:=hs p;rw [A2g]at this;omega
  obtain⟨k1,k2⟩:=B0r h2 hb
  exact⟨a,cap,rows,rfl,RowAt.own hb h1 hO,(hR v k1).le k2⟩
theorem Silent_x{P F:Int}{ws:List Wd}(hws:WdsAt v wa ws)(hwl:ws.length<2^30)(hwc:ws.length≤wc) :
    CallsB prog ⟨true,true⟩ 33 #[boV P F wa ws.length wc] (RetB fun r β'=>∃t,r = .tuple #[t,.int .i64 (A2h P F ws)]∧ReadL v β' t (if A2h P F ws=0 then B2w P.toNat F.toNat ws else [])) [] v:=by
  refine A3m tab A4x func33 rfl nB (args:=[_]) ?_
  repeat (first|refine st ?_|refine qb fun bx=>?_)
  refine Q_op fun ho=>A6x rfl ho rfl rfl ?_
  clear ho
  repeat (first|refine st ?_|refine qb fun bx=>?_)
  refine Q_op fun ho=>A6g ho bod79 rfl rfl rfl rfl (A6u (hws.le (A0b _ _)) hwl) (fun h=>?_) (fun h=>?_)
  · rw [if_neg h]
    refine pn ?_
    exact A2n tab rfl ib dM sb (xs:=[_,_]) (by exact .tmp rfl (.cell rfl ib rfl .nil)) (β':=[]) (Back.here fun p=>Nat.zero_le _) ⟨_,rfl,ReadL.nil⟩
  clear ho
  rw [h,if_pos rfl]
  obtain⟨P,F,rfl,rfl,hv⟩:=A4w h
  simp only [Int.toNat_natCast]
  have hw8:=hv.w8
  clear h
  repeat (first|refine st ?_|refine qb fun bx=>?_)
  rename_i b1
  refine Q_op fun ho=>A0i [] _ ho bod87 rfl rfl rfl rfl rfl A1n (lists_x (n:=ws.length) hw8) (fun x β' hR=>?_)
  clear ho
  rename A0j=>βL
  refine A0w (β1:=βL++[(b1,(boV P F wa ws.length wc).cells,24)]) (β2:=[(bx,#[Value.int .i64 0],34)])
    (show ∀p,Pal.cnt p (βL++[(bx,#[Value.int .i64 0],34),(b1,(boV P F wa ws.length wc).cells,24)])=Pal.cnt p ((βL++[(b1,(boV P F wa ws.length wc).cells,24)])++[(bx,#[Value.int .i64 0],34)])from cntA) (fun hbk=>?_)
  have hv1:=A9c hbk (b:=b1) ib
  obtain⟨a,cap,rows,rfl,hrow,hR⟩:=hR.read hbk (show Subm βL (βL++[(b1,(boV P F wa ws.length wc).cells,24)])from cntL)
  have hlen:=B3h hw8
  repeat (first|refine st ?_|refine qb fun bx=>?_)
  refine Q_op fun ho=>A0i [] _ ho bod86 rfl rfl rfl rfl rfl A1n (first_x (p:=canW P F ws) (A0b _ _) hrow hR oM bod88 (fun l hl ai ci u hle hrl=>silentF_x hv (hws.le (((A0b _ _).trans (A0b _ _)).trans hle)) hwc (lists_asc hw8 hl) (A7y hw8 hl).2.2 (by have:=(A7y hw8 hl).1;omega) hrl (hle _ _ (A1p hv1)))) (fun x β' hR=>?_)
  clear ho
  obtain⟨hR,rfl⟩:=hR
  unfold B2w
  cases hfo:(A2e ws.length).find? (canW P F ws)with
  | none=>
    rw [hfo]at hR
    subst hR
    repeat (first|refine st ?_|refine qb fun bx=>?_)
    exact A6e tab rfl (β':=[]++(βL++[(b1,(boV P F wa ws.length wc).cells,24)])) (xs:=[_,_]) (by exact .tmp rfl (.cell rfl ib rfl .nil)) (Back.retired hbk (Back.here fun p=>Nat.zero_le _)) ⟨_,rfl,ReadL.nil⟩
  | some l=>
    rw [hfo]at hR
    obtain⟨ai,ci,rfl,hrl⟩:=hR
    repeat (first|refine st ?_|refine qb fun bx=>?_)
    exact A6e tab rfl (β':=[]++(βL++[(b1,(boV P F wa ws.length wc).cells,24)])) (xs:=[_,_]) (by exact .tmp rfl (.cell rfl ib rfl .nil)) (Back.retired hbk (Back.here fun p=>Nat.zero_le _)) ⟨_,rfl,ai,ci,rfl,hrl⟩
end
end Go.Proofs.YtiolobmgibdfmaaGreat
end
section
namespace Go.Proofs.YtiolobmgibdfmaaGreat
open Go Go.Pal Go.Pal.Vo Go.Conc View
open Go.Proofs.Tryz
set_option maxHeartbeats 4000000
set_option maxRecDepth 20000
theorem g_key:KeyT prog 100 (fun(g:Nat)=>u8 g) where
  eq:=fun a b K E v h=>by
    refine u8_eq (d:=9999) ?_
    have:(((a:Nat):Int)==((b:Nat):Int))=decide (a=b):=by
      rw [Bool.eq_iff_iff,beq_iff_eq,decide_eq_true_eq];omega
    rw [this];exact h
  chk:=fun e a K E v h=>by
    unfold Instr.checkKey
    rw [A0d,A1r tab (t:=100) rfl]
    exact h
  now:=⟨_,tab.und_ok 100 _ rfl,.inr fun a b=>by
    show some _=some _
    congr 1
    rw [Bool.eq_iff_iff,decide_eq_true_eq]
    simp
    omega⟩
  bits:=fun a=>by simp [Instr.sameBits]
theorem and_val{g h:Nat}(hg:g<256)(hh:h<256):IntKind.u8.wrap ((BitVec.ofInt IntKind.u8.bits (g:Int) &&& BitVec.ofInt IntKind.u8.bits (h:Int)).toNat:Int)=((g &&& h:Nat):Int)∧g &&& h<256:=by
  have hx:g &&& h<2^8:=Nat.and_lt_two_pow g hh
  refine⟨?_,hx⟩
  have h1:(BitVec.ofInt IntKind.u8.bits (g:Int)).toNat=g:=by
    rw [BitVec.toNat_ofInt]
    show(((g:Int) % ((2^8:Nat):Int)).toNat)=g
    omega
  have h2:(BitVec.ofInt IntKind.u8.bits (h:Int)).toNat=h:=by
    rw [BitVec.toNat_ofInt]
    show(((h:Int) % ((2^8:Nat):Int)).toNat)=h
    omega
  rw [BitVec.toNat_and,h1,h2]
  simp only [IntKind.wrap,IntKind.signed,IntKind.bits]
  simp
  omega
theorem B3q{k:Nat}{e:Nat×Value×Nat}:∀{l:Ents Nat} {i:Nat},A3l k (l++[e]) i=match A3l k l i with
    | some x=>some x
    | none=>if k=e.1 then some (i+l.length,e.2.1)else none
  | [],i=>by simp [A3l]
  | x::l,i=>by
    rw [List.cons_append,A3l,A3l]
    by_cases h:k=x.1
    · simp [h]
    · rw [if_neg h,if_neg h,B3q (l:=l)]
      cases A3l k l (i+1)with
      | some y=>rfl
      | none=>simp only [List.length_cons];rw [show i+1+l.length=i+(l.length+1) by omega]
def A9j(l:List Wl)(o f:Nat):Bool:=l.all fun w=>l.all fun w'=>(w.1 &&& o != w'.1 &&& o)||(bit w.2 f==bit w'.2 f)
structure MapI(o f:Nat)(pre:List Wl)(es:Ents Nat):Prop where
  has:∀w∈pre,∃j,A3l (w.1 &&& o) es 0=some (j,.bool (bit w.2 f))
  all:∀g j y,A3l g es 0=some (j,y)→∃w∈pre,w.1 &&& o=g∧y = .bool (bit w.2 f)
theorem MapI.nil{o f:Nat}:MapI o f [] []:=⟨by simp,fun g j y h=>by cases h⟩
theorem MapI.proves{o f:Nat}{l:List Wl}{es:Ents Nat}(h:MapI o f l es):A9j l o f=true:=by
  refine List.all_eq_true.2 fun w hw=>List.all_eq_true.2 fun w' hw'=>?_
  obtain⟨j,h1⟩:=h.has w hw
  obtain⟨j',h2⟩:=h.has w' hw'
  by_cases e:w.1 &&& o=w'.1 &&& o
  · rw [e,h2]at h1
    simp only [Option.some.injEq,Prod.mk.injEq,Value.bool.injEq]at h1
    simp [h1.2]
  · simp [e]
theorem proves_not{o f:Nat}{l:List Wl}{w w':Wl}(hw:w∈l)(hw':w'∈l)(h1:w.1 &&& o=w'.1 &&& o)(h2:bit w.2 f≠bit w'.2 f):A9j l o f=false:=by
  cases h:A9j l o f with
  | false=>rfl
  | true=>
    have:=List.all_eq_true.1 (List.all_eq_true.1 h w hw) w' hw'
    simp [h1,h2]at this
theorem MapI.old{o f:Nat}{pre:List Wl}{es:Ents Nat}(h:MapI o f pre es){w:Wl}{j:Nat}(hf:A3l (w.1 &&& o) es 0=some (j,.bool (bit w.2 f))):MapI o f (pre++[w]) es:=by
  refine⟨fun x hx=>?_,fun g j y hg=>?_⟩
  · rcases List.mem_append.1 hx with hx|hx
    · exact h.has x hx
    · rw [List.mem_singleton.1 hx];exact⟨j,hf⟩
  · obtain⟨x,hx,h1⟩:=h.all g j y hg
    exact⟨x,List.mem_append_left _ hx,h1⟩
theorem MapI.new{o f ck:Nat}{pre:List Wl}{es:Ents Nat}(h:MapI o f pre es){w:Wl}(hf:A3l (w.1 &&& o) es 0=none):MapI o f (pre++[w]) (es++[(w.1 &&& o,.bool (bit w.2 f),ck)]):=by
  refine⟨fun x hx=>?_,fun g j y hg=>?_⟩
  · rw [B3q]
    rcases List.mem_append.1 hx with hx|hx
    · obtain⟨j,h1⟩:=h.has x hx
      rw [h1];exact⟨j,rfl⟩
    · rw [List.mem_singleton.1 hx,hf]
      exact⟨0+es.length,by simp⟩
  · rw [B3q]at hg
    cases hq:A3l g es 0 with
    | some p=>
      rw [hq]at hg
      simp only [Option.some.injEq]at hg
      rw [hg]at hq
      obtain⟨x,hx,h1⟩:=h.all g j y hq
      exact⟨x,List.mem_append_left _ hx,h1⟩
    | none=>
      rw [hq]at hg
      simp only at hg
      by_cases e:g=w.1 &&& o
      · rw [if_pos e]at hg
        simp only [Option.some.injEq,Prod.mk.injEq]at hg
        exact⟨w,by simp,e.symm,hg.2.symm⟩
      · rw [if_neg e]at hg;cases hg
end Go.Proofs.YtiolobmgibdfmaaGreat
end
