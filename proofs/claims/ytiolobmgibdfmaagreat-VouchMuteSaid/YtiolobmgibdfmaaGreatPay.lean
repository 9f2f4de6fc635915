/- Part 25 of the way to: the laws of the vouchers -/
import Derived.Test.YtiolobmgibdfmaaGreatPax
set_option linter.unusedVariables false
set_option linter.unusedSimpArgs false
section
namespace Go.Proofs.YtiolobmgibdfmaaGreat
open Go Go.Pal Go.Pal.Vo Go.Conc View
open Go.Proofs.Tryz
set_option maxHeartbeats 4000000
section
variable{mn:Who}{rd:Option Nat}{n:Nat}{Q:Exit→St→View→Prop}{ds:List Deferred}{ρ:Regs}{β:A0j}{v:View}{K:St→View→Prop}
  {ops:Array Oper}{i:Nat}{d:Nat}{ty:TypeId}{pos:String}{af:Array Edge}{gu:Option (Nat×Bool)}
def RetE(k:Int)(x:Value):Pal.End→A0j→Prop:=fun e β'=>β'=[]∧e=if k=0 then .ret x else panV k
theorem A6g{f:Operand}{args:Array Operand}{ats:Array TypeId}{kf:FuncId}{xs:List Value}{k:Int}{x:Value}(ho:ops[i]?=some ⟨some d,.call {callee:=.value f,args:=args,argTypes:=ats },ty,pos,af,gu⟩)(hk:A0n prog kf)(hw:A0x ops gu ρ=some true)(hn:Nat.blt d n=true)
    (hf:ρ.val f=some (.func (.func kf) #[] #[]))(hxs:A3q ρ.val args.toList=some xs)(hc:CallsB prog mn kf xs.toArray (RetE k x) [] (v.union (A0e β)))(h2:k≠0→Q (.panic (panC k)) ⟨ds,ρ,β⟩ v)(h1:k=0→K ⟨ds,(d,x)::ρ,β⟩ v):XOp prog mn rd n ops i Q K ⟨ds,ρ,β⟩ v:=by
  have hc':CallsB prog mn kf (#[]++xs.toArray++#[]) (RetE k x) [] (v.union (A0e β)):=by
    have:(#[]++xs.toArray++#[]:Array Value)=xs.toArray:=by simp
    rw [this];exact hc
  refine A7s [] β ho hw hn hf hxs hk (fun _=>rfl) hc' (fun y β' hR=>?_) (fun ch β' hR=>?_)
  · obtain⟨rfl,hR⟩:=hR
    by_cases h0:k=0
    · rw [if_pos h0]at hR
      injection hR with hR
      subst hR
      exact h1 h0
    · rw [if_neg h0]at hR;cases hR
  · obtain⟨rfl,hR⟩:=hR
    by_cases h0:k=0
    · rw [if_pos h0]at hR;cases hR
    · rw [if_neg h0]at hR
      injection hR with hR
      subst hR
      exact h2 h0
theorem B0w{k j:Int}{x:Value}(h:k=j)(hj:j≠0):RetE k x (.pan (panC j)) []:=⟨rfl,by subst h;rw [if_neg hj]⟩
theorem RetE_ret{k:Int}{x:Value}(h:k=0):RetE k x (.ret x) []:=⟨rfl,by rw [if_pos h]⟩
end
section
variable{mn:Who}{v:View}{wa:Option Addr}{wc:Nat}
theorem B3t{P F:Nat}{a:Option Addr}{n cap:Nat}{x:Wd}(hP:P≤8)(hF:F≤8):CallsB prog mn 104 #[boV P F a n cap,wdV x] (RetE (A2k P F x) (.tuple #[])) [] v:=checkWord_x hP hF
def A8y(P F:Nat):List Wd→Int
  | []=>0
  | x::l=>if A2k P F x=0 then A8y P F l else A2k P F x
def A2h(P F:Int)(ws:List Wd):Int:=
  if ¬(1≤P∧P≤4)then 1 else if ¬(0≤F∧F≤3)then 1 else if ¬ws.length≤8 then 6 else A8y P.toNat F.toNat ws
theorem check_x{P F:Int}{ws:List Wd}(hws:WdsAt v wa ws)(hwl:ws.length<2^30):CallsB prog mn 126 #[boV P F wa ws.length wc] (RetE (A2h P F ws) (.tuple #[])) [] v:=by
  refine A0f tab func126 rfl nB (args:=[_]) ?_
  repeat (first|refine st ?_|refine qb fun bx=>?_)
  refine Q_op fun ho=>A0s ho A6b rfl rfl rfl rfl rfl A3k ?_
  clear ho
  refine Q_op fun ho=>A3d ho rfl rfl rfl rfl (fun h=>?_) (fun h=>?_)
  · have h:=of_decide_eq_false h
    refine pn ?_
    exact A1k tab [] (Back.here fun p=>Nat.zero_le _) (B0w (by unfold A2h;rw [if_pos h]) dM)
  have hp:=of_decide_eq_true h
  clear h ho
  repeat (first|refine st ?_|refine qb fun bx=>?_)
  refine Q_op fun ho=>A0s ho A6b rfl rfl rfl rfl rfl A3k ?_
  clear ho
  refine Q_op fun ho=>A3d ho rfl rfl rfl rfl (fun h=>?_) (fun h=>?_)
  · have h:=of_decide_eq_false h
    refine pn ?_
    exact A1k tab [] (Back.here fun p=>Nat.zero_le _) (B0w (by unfold A2h;rw [if_neg (not_not_intro hp),if_pos h]) dM)
  have hf:=of_decide_eq_true h
  clear h ho
  repeat (first|refine st ?_|refine qb fun bx=>?_)
  refine Q_op fun ho=>A3d ho rfl rfl rfl rfl (fun h=>?_) (fun h=>?_)
  · have h:¬ws.length≤8:=by have h:=of_decide_eq_false h;omega
    refine pn ?_
    exact A1k tab [] (Back.here fun p=>Nat.zero_le _) (B0w (by unfold A2h;rw [if_neg (not_not_intro hp),if_neg (not_not_intro hf),if_pos h]) dM)
  have hl:ws.length≤8:=by have h:=of_decide_eq_true h;omega
  clear h ho
  have hE:A2h P F ws=A8y P.toNat F.toNat ws:=by unfold A2h;rw [if_neg (not_not_intro hp),if_neg (not_not_intro hf),if_neg (not_not_intro hl)]
  rw [hE]
  obtain⟨Pn,rfl⟩:=Int.eq_ofNat_of_zero_le (show 0≤P by omega)
  obtain⟨Fn,rfl⟩:=Int.eq_ofNat_of_zero_le hf.1
  clear hE
  simp only [Int.toNat_natCast]
  repeat (first|refine st ?_|refine qb fun bx=>?_)
  refine A1o (α:=Nat) (fun i=>⟨[],[(20,.int .i64 i),(19,.int .i64 ws.length),(18,.slice wa ws.length wc),(1,.pointer (some ⟨bx,0,none⟩))],[(bx,(boV Pn Fn wa ws.length wc).cells,24)]⟩)
    (fun i u=>u=v∧i≤ws.length∧A8y Pn Fn ws=A8y Pn Fn (ws.drop i)) (fun i=>ws.length-i) 0 ⟨rfl,rg,cntL⟩ (Le.refl _) ⟨rfl,Nat.zero_le _,rfl⟩ ?_
  rintro i u ⟨rfl,hi,hE⟩
  repeat (first|refine st ?_|refine qb fun bx=>?_)
  refine A0t rfl (fun h=>?_) (fun h=>?_)
  · replace h:=fa h
    have hlt:i<ws.length:=oM
    obtain⟨bb,off,p,c,e,f,rfl,hv,hc⟩:=hws.get hlt
    rw [List.drop_eq_getElem_cons hlt,A8y]at hE
    repeat (first|refine st ?_|refine qb fun bx=>?_)
    refine A2t tab i rfl rfl rfl rfl rfl rfl rfl hlt ?_
    refine A2p tab rfl rfl rfl hv (A2d tab rfl rfl rfl (hc i hlt)) ?_
    repeat (first|refine st ?_|refine qb fun bx=>?_)
    refine Q_op fun ho=>A6g ho bod104 rfl rfl rfl rfl (B3t oM oM) (fun h=>?_) (fun h=>?_)
    · rw [if_neg h]at hE
      refine pn ?_
      exact A1k tab [] (Back.here fun p=>Nat.zero_le _) (B0w hE h)
    clear ho
    rw [if_pos h]at hE
    repeat (first|refine st ?_|refine qb fun bx=>?_)
    exact A0c ⟨i+1,u,(by have:=hlt;omega),⟨rfl,rg,cntL⟩,Le.refl _,rfl,hlt,hE⟩
  · replace h:=fa h
    have hin:i=ws.length:=oM
    subst hin
    rw [List.drop_length]at hE
    repeat (first|refine st ?_|refine qb fun bx=>?_)
    exact A1t tab [] .nil (Back.here fun p=>Nat.zero_le _) (RetE_ret hE)
theorem A6u{P F:Int}{ws:List Wd}(hws:WdsAt v wa ws)(hwl:ws.length<2^30):CallsB prog mn 79 #[boV P F wa ws.length wc] (RetE (A2h P F ws) (boV P F wa ws.length wc)) [] v:=by
  refine A0f tab func79 rfl nB (args:=[_]) ?_
  repeat (first|refine st ?_|refine qb fun bx=>?_)
  refine Q_op fun ho=>A6g ho bod126 rfl rfl rfl rfl (check_x (hws.le (A0b _ _)) hwl) (fun h=>?_) (fun h=>?_)
  · refine pn ?_
    exact A1k tab [] (Back.here fun p=>Nat.zero_le _) (B0w rfl h)
  clear ho
  repeat (first|refine st ?_|refine qb fun bx=>?_)
  refine A0l tab (xs:=[boV P F wa ws.length wc]) [] (by exact .cell rfl .head rfl .nil) (Back.here fun p=>Nat.zero_le _) (RetE_ret h)
end
section
variable{v:View}{wa:Option Addr}{wc:Nat}
theorem wordsE_all{P F:Nat}:∀{ws:List Wd},A8y P F ws=0→∀x∈ws,A2k P F x=0
  | [],_,_,hx=>by simp at hx
  | y::ws,h,x,hx=>by
    rw [A8y]at h
    by_cases h0:A2k P F y=0
    · rw [if_pos h0]at h
      rcases List.mem_cons.1 hx with rfl|hx
      · exact h0
      · exact wordsE_all h x hx
    · rw [if_neg h0]at h;exact absurd h h0
theorem fitE{P F:Nat}{x:Wd}(hP:P≤4)(hF:F≤3)(h:A2k P F x=0):Fit x:=by
  unfold A2k at h
  refine⟨?_,?_,?_,?_⟩<;>(revert h;(repeat' split)<;>omega)
structure VOk(P F:Nat)(ws:List Wd):Prop where
  p1:1≤P
  p4:P≤4
  f3:F≤3
  w8:ws.length≤8
  all:∀x∈ws,A2k P F x=0
theorem VOk.fit{P F:Nat}{ws:List Wd}(h:VOk P F ws):∀x∈ws,Fit x:=fun x hx=>fitE h.p4 h.f3 (h.all x hx)
theorem A4w{P F:Int}{ws:List Wd}(h:A2h P F ws=0):∃Pn Fn:Nat,P=Pn∧F=Fn∧VOk Pn Fn ws:=by
  unfold A2h at h
  by_cases h1:1≤P∧P≤4
  · rw [if_neg (not_not_intro h1)]at h
    by_cases h2:0≤F∧F≤3
    · rw [if_neg (not_not_intro h2)]at h
      by_cases h3:ws.length≤8
      · rw [if_neg (not_not_intro h3)]at h
        exact⟨P.toNat,F.toNat,oM,oM,oM,oM,oM,h3,wordsE_all h⟩
      · rw [if_pos h3]at h;cases h
    · rw [if_pos h2]at h;cases h
  · rw [if_pos h1]at h;cases h
def countV(P F:Int)(ws:List Wd):Value:=.tuple #[.int .i64 (if A2h P F ws=0 then(A0g P.toNat F.toNat ws).length else(0:Nat)),.int .i64 (A2h P F ws)]
theorem Count_x{P F:Int}{ws:List Wd}(hws:WdsAt v wa ws)(hwl:ws.length<2^30):CallsB prog ⟨true,true⟩ 25 #[boV P F wa ws.length wc] (RetB fun r β'=>r=countV P F ws∧β'=[]) [] v:=by
  refine A3m tab A4x func25 rfl nB (args:=[_]) ?_
  unfold countV
  repeat (first|refine st ?_|refine qb fun bx=>?_)
  refine Q_op fun ho=>A6x rfl ho rfl rfl ?_
  clear ho
  repeat (first|refine st ?_|refine qb fun bx=>?_)
  refine Q_op fun ho=>A6g ho bod79 rfl rfl rfl rfl (A6u (hws.le (A0b _ _)) hwl) (fun h=>?_) (fun h=>?_)
  · refine pn ?_
    exact A2n tab rfl ib dM sb (xs:=[_,_]) (by exact .tmp rfl (.cell rfl ib rfl .nil)) (Back.here fun p=>Nat.zero_le _) ⟨by rw [if_neg h];rfl,rfl⟩
  clear ho
  rw [if_pos h]
  obtain⟨P,F,rfl,rfl,hv⟩:=A4w h
  simp only [Int.toNat_natCast]
  repeat (first|refine st ?_|refine qb fun bx=>?_)
  refine Q_op fun ho=>A0i [] _ ho bod80 rfl rfl rfl rfl rfl A1n (worlds_x hv.p4 hv.f3 (hws.le (A0b _ _)) hv.fit hwl) (fun x β' hR=>?_)
  clear ho
  obtain⟨a,cap,rfl,hS⟩:=hR
  repeat (first|refine st ?_|refine qb fun bx=>?_)
  exact A6e tab rfl (xs:=[_,_]) (by exact .tmp rfl (.cell rfl ib rfl .nil)) (Back.here fun p=>Nat.zero_le _) ⟨by rw [h];rfl,rfl⟩
end
end Go.Proofs.YtiolobmgibdfmaaGreat
end
section
namespace Go.Pal
open Go Go.Conc View
theorem Back.forget{v u:View}{β1 β' β:A0j}(h1:Bok β1 v)(h:Back (v.union (A0e β1)) β' u β):Back v β' u β:=fun hb=>by
  obtain⟨h2,h3⟩:=h.retired h1 hb
  obtain⟨h4,h5⟩:=(Back.here (v:=v) (β':=β') (β:=β'++β1) (fun p=>by simp only [A2g];omega)) h2
  exact⟨h4,h5.trans h3⟩
end Go.Pal
namespace Go.Proofs.YtiolobmgibdfmaaGreat
open Go Go.Pal Go.Pal.Vo Go.Conc View
open Go.Proofs.Tryz
set_option maxHeartbeats 4000000
section
variable{rd:Option Nat}{n:Nat}{Q:Exit→St→View→Prop}{ds:List Deferred}{ρ:Regs}{β:A0j}{v:View}{K:St→View→Prop}
  {ops:Array Oper}{i:Nat}{d:Nat}{ty:TypeId}{pos:String}{af:Array Edge}{gu:Option (Nat×Bool)}{wa:Option Addr}{wc:Nat}
theorem B1u{f:Operand}{args:Array Operand}{ats:Array TypeId}{P F:Nat}{ws:List Wd}(ho:ops[i]?=some ⟨some d,.call {callee:=.value f,args:=args,argTypes:=ats },ty,pos,af,gu⟩)(hw:A0x ops gu ρ=some true)(hn:Nat.blt d n=true)
    (hf:ρ.val f=some (.func (.func 83) #[] #[]))(hxs:A3q ρ.val args.toList=some [boV P F wa ws.length wc])(hv:VOk P F ws)(hws:WdsAt v wa ws)(hwl:ws.length<2^30)
    (h2:A0g P F ws=[]→Q (.panic (panC 11)) ⟨ds,ρ,β⟩ v)(h1:A0g P F ws≠[]→∀a cap βw,OwnS 102 2 βw a (A0g P F ws).length cap (wsC (A0g P F ws))→K ⟨ds,(d,.slice a (A0g P F ws).length cap)::ρ,βw++β⟩ v):XOp prog ⟨true,true⟩ rd n ops i Q K ⟨ds,ρ,β⟩ v:=by
  refine A7s [] β ho hw hn hf hxs bod83 (fun _=>rfl) (some_x hv.p4 hv.f3 (hws.le (A0b _ _)) hv.fit hwl) (fun y β' hR=>?_) (fun ch β' hR=>?_)
  · by_cases h0:A0g P F ws=[]
    · rw [if_pos h0]at hR;cases hR.1
    · rw [if_neg h0]at hR
      obtain⟨x,hx,a,cap,rfl,hS⟩:=hR
      injection hx with hx
      subst hx
      exact h1 h0 a cap β' hS
  · by_cases h0:A0g P F ws=[]
    · rw [if_pos h0]at hR
      obtain⟨hR,rfl⟩:=hR
      injection hR with hR
      subst hR
      exact h2 h0
    · rw [if_neg h0]at hR
      obtain⟨x,hx,_⟩:=hR
      cases hx
theorem A2m{a:Option Addr}{len cap:Nat}{cs:List Value}{βw:A0j}{e:TypeId}{k:Nat}(hb:Bok βw v)(h:OwnS e k βw a len cap cs):RowAt (v.union (A0e βw)) a cs:=RowAt.own hb (fun _=>Nat.le_refl _) h
theorem A4d{P F:Nat}{ws:List Wd}{w:Wl}(hP:P≤4)(hF:F≤3)(h:w∈A0g P F ws):w.1<256∧w.2<256:=by
  have h1:=(worldsL_mem.1 h).1
  have hp1:2 ^ P≤2^4:=Nat.pow_le_pow_right dM hP
  have hp2:2 ^ F≤2^3:=Nat.pow_le_pow_right dM hF
  omega
theorem A4s{P F:Nat}{ws:List Wd}(hP:P≤4)(hF:F≤3):(A0g P F ws).length≤128:=by
  have h1:∀(l:List Wl) (x:Wl),(insW P x l).length=l.length+1:=by
    intro l x
    induction l with
    | nil=>rfl
    | cons y r ih=>unfold insW;split<;>simp [ih]
  have h2:∀l:List Wl,(sortW P l).length=l.length:=by
    intro l
    induction l with
    | nil=>rfl
    | cons x r ih=>unfold sortW;rw [h1,ih];rfl
  have hp1:2 ^ P≤2^4:=Nat.pow_le_pow_right dM hP
  have hp2:2 ^ F≤2^3:=Nat.pow_le_pow_right dM hF
  have h3:2 ^ P*2 ^ F≤2^4*2^3:=Nat.mul_le_mul hp1 hp2
  have h4:=List.length_filter_le (can P ws) (A2a P F)
  unfold A0g
  rw [h2]
  rw [A3w]at h4
  omega
end
section
variable{v:View}{wa:Option Addr}{wc:Nat}
def wlsE(P F:Int)(ws:List Wd):List Wl:=if A2h P F ws=0 then A0g P.toNat F.toNat ws else []
def voidE(l:List Wl):Int:=if l.isEmpty then 11 else 0
theorem A9v{l:List Wl}(h:l≠[]):voidE l=0:=by cases l with
  | nil=>exact absurd rfl h
  | cons x l=>rfl
def errS(P F:Int)(ws:List Wd):Int:=if A2h P F ws=0 then voidE (A0g P.toNat F.toNat ws)else A2h P F ws
theorem headD_get{l:List Wl}(h:0<l.length):l.headD (0,0)=l[0]:=by
  cases l with
  | nil=>cases h
  | cons y l=>rfl
theorem OwnT.zero:OwnT [] (.agg #[.slice none 0 0,.slice none 0 0]) (0,0):=⟨[],[],_,_,rfl,⟨none,0,rfl,.nil⟩,⟨none,0,rfl,.nil⟩,rfl⟩
theorem Fewest_x{P F:Int}{ws:List Wd}(hws:WdsAt v wa ws)(hwl:ws.length<2^30):CallsB prog ⟨true,true⟩ 27 #[boV P F wa ws.length wc] (RetB fun r β'=>∃t,r = .tuple #[t,.int .i64 (errS P F ws)]∧OwnT β' t ((wlsE P F ws).headD (0,0))) [] v:=by
  refine A3m tab A4x func27 rfl nB (args:=[_]) ?_
  unfold wlsE errS
  repeat (first|refine st ?_|refine qb fun bx=>?_)
  refine Q_op fun ho=>A6x rfl ho rfl rfl ?_
  clear ho
  repeat (first|refine st ?_|refine qb fun bx=>?_)
  refine Q_op fun ho=>A6g ho bod79 rfl rfl rfl rfl (A6u (hws.le (A0b _ _)) hwl) (fun h=>?_) (fun h=>?_)
  · refine pn ?_
    exact A2n tab rfl ib dM sb (xs:=[_,_]) (by exact .cell rfl ib rfl (.cell rfl ib rfl .nil)) (Back.here fun p=>Nat.zero_le _) ⟨_,by rw [if_neg h];rfl,by rw [if_neg h];exact OwnT.zero⟩
  clear ho
  rw [if_pos h,if_pos h]
  obtain⟨P,F,rfl,rfl,hv⟩:=A4w h
  simp only [Int.toNat_natCast]
  refine Q_op fun ho=>B1u ho rfl rfl rfl rfl hv hws hwl (fun h=>?_) (fun hne a cap βw hS=>?_)
  · refine pn ?_
    rw [h]
    exact A2n tab rfl ib dM sb (xs:=[_,_]) (by exact .cell rfl ib rfl (.cell rfl ib rfl .nil)) (Back.here fun p=>Nat.zero_le _) ⟨_,rfl,OwnT.zero⟩
  clear ho
  rw [A9v hne]
  refine A0w (β1:=βw) cntA (fun hbw=>?_)
  have hrow:=A2m hbw hS
  have hlt:0<(A0g P F ws).length:=List.length_pos_iff.2 hne
  obtain⟨b,off,q,c,e,f,rfl,hv',hc⟩:=A9r hrow hlt
  repeat (first|refine st ?_|refine qb fun bx=>?_)
  refine A2t tab 0 rfl rfl rfl rfl rfl rfl rfl hlt ?_
  refine A2p tab rfl rfl rfl hv' (A2d tab rfl rfl rfl (hc 0 hlt)) ?_
  have hwlt:=A4d hv.p4 hv.f3 (List.getElem_mem hlt)
  refine Q_op fun ho=>A0i [] _ ho bod82 rfl rfl rfl rfl rfl A1n (told_x hwlt.1 hwlt.2) (fun x β' hR=>?_)
  clear ho
  obtain⟨β1,β2,x1,x2,rfl,⟨a1,c1,rfl,hx1⟩,⟨a2,c2,rfl,hx2⟩,rfl⟩:=hR
  repeat (first|refine st ?_|refine qb fun bx=>?_)
  refine A6e tab rfl (β':=β1++β2) (xs:=[_,_]) (by exact .cell rfl ib rfl (.cell rfl ib rfl .nil)) (Back.forget hbw (Back.here cntL)) ⟨_,rfl,?_⟩
  have:(A0g P F ws).headD (0,0)=(A0g P F ws)[0]:=by
    exact headD_get hlt
  rw [this]
  exact⟨β1,β2,_,_,rfl,⟨a1,c1,rfl,hx1⟩,⟨a2,c2,rfl,hx2⟩,rfl⟩
end
end Go.Proofs.YtiolobmgibdfmaaGreat
end
section
namespace Go.Proofs.YtiolobmgibdfmaaGreat
open Go Go.Pal Go.Pal.Vo Go.Conc View
open Go.Proofs.Tryz
set_option maxHeartbeats 4000000
section
variable{v:View}{wa:Option Addr}{wc:Nat}
theorem ext_fst{c:Array Value}{i:Nat}{w:Wl}(h:i+2≤c.size∧c.extract i (i+2)=(wC w).toArray):c[i]?=some (u8 w.1):=by
  have h1:=congrArg (fun a:Array Value=>a[0]?) h.2
  simp only [Array.getElem?_extract]at h1
  rw [if_pos oM]at h1
  exact h1
def liarsV(P:Nat)(l:List Wl):Value:=match l with
  | []=>.agg #[.int .i64 0,.int .i64 0]
  | w::l=>.agg #[.int .i64 ((P:Int)-cnt w.1),.int .i64 ((P:Int)-cnt ((w::l).getLast sM).1)]
theorem liarsV_ne{P:Nat}{l:List Wl}(h:0<l.length):liarsV P l = .agg #[.int .i64 ((P:Int)-cnt l[0].1),.int .i64 ((P:Int)-cnt l[l.length-1].1)]:=by
  cases l with
  | nil=>cases h
  | cons w l=>simp [liarsV,List.getLast_eq_getElem]
theorem Liars_x{P F:Int}{ws:List Wd}(hws:WdsAt v wa ws)(hwl:ws.length<2^30):CallsB prog ⟨true,true⟩ 29 #[boV P F wa ws.length wc] (RetB fun r β'=>r = .tuple #[liarsV P.toNat (wlsE P F ws),.int .i64 (errS P F ws)]∧β'=[]) [] v:=by
  refine A3m tab A4x func29 rfl nB (args:=[_]) ?_
  unfold wlsE errS
  repeat (first|refine st ?_|refine qb fun bx=>?_)
  refine Q_op fun ho=>A6x rfl ho rfl rfl ?_
  clear ho
  repeat (first|refine st ?_|refine qb fun bx=>?_)
  refine Q_op fun ho=>A6g ho bod79 rfl rfl rfl rfl (A6u (hws.le (A0b _ _)) hwl) (fun h=>?_) (fun h=>?_)
  · refine pn ?_
    exact A2n tab rfl ib dM sb (xs:=[_,_]) (by exact .cell rfl ib rfl (.cell rfl ib rfl .nil)) (Back.here fun p=>Nat.zero_le _) ⟨by rw [if_neg h,if_neg h];rfl,rfl⟩
  clear ho
  rw [if_pos h,if_pos h]
  obtain⟨P,F,rfl,rfl,hv⟩:=A4w h
  simp only [Int.toNat_natCast]
  refine Q_op fun ho=>B1u ho rfl rfl rfl rfl hv hws hwl (fun h=>?_) (fun hne a cap βw hS=>?_)
  · refine pn ?_
    rw [h]
    exact A2n tab rfl ib dM sb (xs:=[_,_]) (by exact .cell rfl ib rfl (.cell rfl ib rfl .nil)) (Back.here fun p=>Nat.zero_le _) ⟨rfl,rfl⟩
  clear ho
  rw [A9v hne]
  refine A0w (β1:=βw) cntA (fun hbw=>?_)
  have hrow:=A2m hbw hS
  have hlt:0<(A0g P F ws).length:=List.length_pos_iff.2 hne
  have hlen:=A4s (ws:=ws) hv.p4 hv.f3
  obtain⟨b,off,q,c,e,f,rfl,hv',hc⟩:=A9r hrow hlt
  have hl1:(A0g P F ws).length-1<(A0g P F ws).length:=oM
  have hw0:=A4d hv.p4 hv.f3 (List.getElem_mem hlt)
  have hw1:=A4d hv.p4 hv.f3 (List.getElem_mem hl1)
  rw [liarsV_ne hlt]
  have hP4:=hv.p4
  have hc0:=cnt_le hw0.1
  have hc1:=cnt_le hw1.1
  repeat (first|refine st ?_|refine qb fun bx=>?_)
  refine A2u [6,17,19,21,23,24] [0,1,2,3,4,5,8,9,10,11,12,13,14,15,16,6,7,17,18,19,20,21,22,23,24] A1w rfl kR ?_
  repeat (first|refine st ?_|refine qb fun bx=>?_)
  refine A0v tab 0 rfl rfl rfl kR rfl rfl rfl rfl rfl hlt ?_
  repeat (first|refine st ?_|refine qb fun bx=>?_)
  refine A8d tab rfl rfl rfl kR rfl hv' (A1b tab rfl rfl rfl (ext_fst (hc 0 hlt))) ?_
  repeat (first|refine st ?_|refine qb fun bx=>?_)
  refine A0v tab ((A0g P F ws).length-1) rfl rfl rfl kR rfl rfl oM rfl rfl hl1 ?_
  repeat (first|refine st ?_|refine qb fun bx=>?_)
  refine A8d tab rfl rfl rfl kR rfl hv' (A1b tab rfl rfl rfl (ext_fst (hc _ hl1))) ?_
  repeat (first|refine st ?_|refine qb fun bx=>?_)
  refine S_do kR (A0i [] _ rfl bod85 rfl rfl rfl rfl rfl A1n (A7q hw0.1) (fun x β' hR=>⟨Le.refl _,?_,?_⟩))
  · exact kp
  obtain⟨rfl,rfl⟩:=hR
  repeat (first|refine st ?_|refine qb fun bx=>?_)
  refine S_do kR (A0i [] _ rfl bod85 rfl rfl rfl rfl rfl A1n (A7q hw1.1) (fun x β' hR=>⟨Le.refl _,?_,?_⟩))
  · exact kp
  obtain⟨rfl,rfl⟩:=hR
  repeat (first|refine st ?_|refine qb fun bx=>?_)
  exact A6e tab rfl (β':=[]) (xs:=[_,_]) (by exact .cell rfl ib rfl (.cell rfl ib rfl .nil)) (Back.forget hbw (Back.here fun p=>Nat.zero_le _)) ⟨rfl,rfl⟩
end
section
variable{mn:Who}{v:View}{a:Option Addr}{cap:Nat}
def idxL{α:Type}(p:α→Bool):List α→Nat→Int
  | [],_=>-1
  | x::l,i=>if p x then(i:Int)else idxL p l (i+1)
theorem indexW_x{l:List Wl}{p:Wl→Bool}{k:FuncId}{captured:Array Value}(hrow:RowAt v a (wsC l))(hlen:l.length<2^30)(hk:A0n prog k)
    (hf:∀w∈l,∀u,v.Le u→Ret1 prog mn k (wlV w::captured.toList) (.bool (p w)) u):Ret1 prog mn 120 [.slice a l.length cap,.func (.func k) #[] captured] (.int .i64 (idxL p l 0)) v:=by
  refine A0f tab func120 rfl nB (args:=[_,_]) ?_
  repeat (first|refine st ?_|refine qb fun bx=>?_)
  refine A1o (α:=Nat) (fun i=>⟨[],[(8,.int .i64 i),(7,.int .i64 l.length),(0,.slice a l.length cap),(1,.func (.func k) #[] captured)],[]⟩)
    (fun i u=>u=v∧i≤l.length∧idxL p l 0=idxL p (l.drop i) i) (fun i=>l.length-i) 0 ⟨rfl,rg,cntL⟩ (Le.refl _) ⟨rfl,Nat.zero_le _,rfl⟩ ?_
  rintro i u ⟨rfl,hi,hE⟩
  repeat (first|refine st ?_|refine qb fun bx=>?_)
  refine A0t rfl (fun h=>?_) (fun h=>?_)
  · replace h:=fa h
    have hlt:i<l.length:=oM
    obtain⟨b,off,q,c,e,f,rfl,hv,hc⟩:=A9r hrow hlt
    rw [List.drop_eq_getElem_cons hlt,idxL]at hE
    repeat (first|refine st ?_|refine qb fun bx=>?_)
    refine A2t tab i rfl rfl rfl rfl rfl rfl rfl hlt ?_
    refine A2p tab rfl rfl rfl hv (A2d tab rfl rfl rfl (hc i hlt)) ?_
    repeat (first|refine st ?_|refine qb fun bx=>?_)
    refine Q_op fun ho=>A0s ho hk rfl rfl rfl rfl (List.nil_append _) (hf l[i] (List.getElem_mem hlt) _ (Le.refl _)) ?_
    clear ho
    cases hp:p l[i]with
    | true=>
      rw [hp,if_pos rfl]at hE
      repeat (first|refine st ?_|refine qb fun bx=>?_)
      refine A0l tab [] (by exact .tmp rfl .nil) (Back.here cntL) ?_
      rw [hE];exact⟨rfl,rfl⟩
    | false=>
      rw [hp,if_neg dM]at hE
      repeat (first|refine st ?_|refine qb fun bx=>?_)
      exact A0c ⟨i+1,u,(by have:=hlt;omega),⟨rfl,rg,cntL⟩,Le.refl _,rfl,hlt,hE⟩
  · replace h:=fa h
    have hin:i=l.length:=oM
    subst hin
    rw [List.drop_length]at hE
    repeat (first|refine st ?_|refine qb fun bx=>?_)
    refine A0l tab [] (by exact .tmp rfl .nil) (Back.here cntL) ?_
    rw [hE];exact⟨rfl,rfl⟩
theorem followsF_x{P:Nat}{F:Int}{wa:Option Addr}{n wc:Nat}{x:Wd}{w:Wl}{b1 b2:Nat}{q1 q2:Bool}{e1 e2:TypeId}{f1 f2:Nat×Nat}(hP:P<256)(hx:Fit x)(h1:w.1<256)(h2:w.2<256)(hv1:v b1=some (q1,.cells (boV P F wa n wc).cells e1 f1))(hv2:v b2=some (q2,.cells #[B2x x] e2 f2)) :
    Ret1 prog mn 106 [wlV w,.pointer (some ⟨b1,0,none⟩),.pointer (some ⟨b2,0,none⟩)] (.bool (A4h P x w)) v:=by
  refine A0f tab func106 rfl nB (args:=[_,_,_]) ?_
  repeat (first|refine st ?_|refine qb fun bx=>?_)
  refine A2p tab rfl rfl rfl hv1 (A2d tab (k:=3) (x:=[.int .i64 P,.int .i64 F,.slice wa n wc]) rfl rfl rfl ⟨Nat.le_refl _,rfl⟩) ?_
  refine A2p tab rfl rfl rfl hv2 (x:=B2x x) (A1b tab rfl rfl rfl rfl) ?_
  repeat (first|refine st ?_|refine qb fun bx=>?_)
  refine Q_op fun ho=>A0s ho bod107 rfl rfl rfl rfl rfl (holds_x hP hx h1 h2) ?_
  clear ho
  repeat (first|refine st ?_|refine qb fun bx=>?_)
  refine A0l tab [] (by exact .tmp rfl .nil) (Back.here cntL) ?_
  exact⟨rfl,rfl⟩
theorem ifF_x{w:Wl}{p:Nat}{b:Nat}{q:Bool}{e:TypeId}{f:Nat×Nat}(h1:w.1<256)(hp:p<8)(hv:v b=some (q,.cells #[.int .i64 p] e f)):Ret1 prog mn 121 [wlV w,.pointer (some ⟨b,0,none⟩)] (.bool (bit w.1 p)) v:=by
  refine A0f tab func121 rfl nB (args:=[_,_]) ?_
  repeat (first|refine st ?_|refine qb fun bx=>?_)
  refine A2p tab rfl rfl rfl hv (x:=.int .i64 p) rfl ?_
  repeat (first|refine st ?_|refine qb fun bx=>?_)
  refine Q_op fun ho=>A0s ho A9n rfl rfl rfl rfl rfl (A9l h1 hp) ?_
  clear ho
  repeat (first|refine st ?_|refine qb fun bx=>?_)
  refine A0l tab [] (by exact .tmp rfl .nil) (Back.here cntL) ?_
  exact⟨rfl,rfl⟩
end
section
variable{v:View}{wa:Option Addr}{wc:Nat}
theorem A9c{β:A0j}{b:Nat}{c:Array Value}{t:TypeId}(hb:Bok β v)(h:InB b c t β):(v.union (A0e β)) b=some (true,.cells c t (0,0)):=A1f hb h
theorem says_iface{x:Wd}(h:Fit x):∃ty y,B2x x = .iface ty y:=by
  have hk:=h.k
  rcases says_split x with ⟨_,hno⟩|⟨k,hk,_,hs⟩
  · exact absurd (show x.kind=((x.kind.toNat:Nat):Int) by omega) (hno x.kind.toNat oM)
  · rw [hs]
    unfold sayN
    split<;>exact⟨_,_,rfl⟩
def errF(P F:Int)(ws:List Wd)(x:Wd):Int:=if A2h P F ws=0 then(if A2k P.toNat F.toNat x=0 then voidE (A0g P.toNat F.toNat ws)else A2k P.toNat F.toNat x)else A2h P F ws
theorem B4e{P F:Int}{ws:List Wd}{x:Wd}(hws:WdsAt v wa ws)(hwl:ws.length<2^30) :
    CallsB prog ⟨true,true⟩ 42 #[boV P F wa ws.length wc,wdV x] (RetB fun r β'=>r = .tuple #[.int .i64 (if errF P F ws x=0 then verd (A0g P.toNat F.toNat ws) (A4h P.toNat x)else 0),.int .i64 (errF P F ws x)]∧β'=[]) [] v:=by
  refine A3m tab A4x func42 rfl nB (args:=[_,_]) ?_
  repeat (first|refine st ?_|refine qb fun bx=>?_)
  refine Q_op fun ho=>A6x rfl ho rfl rfl ?_
  clear ho
  repeat (first|refine st ?_|refine qb fun bx=>?_)
  refine Q_op fun ho=>A6g ho bod79 rfl rfl rfl rfl (A6u (hws.le (A0b _ _)) hwl) (fun h=>?_) (fun h=>?_)
  · have he:errF P F ws x=A2h P F ws:=if_neg h
    rw [he,if_neg h]
    refine pn ?_
    exact A2n tab rfl ib dM sb (xs:=[_,_]) (by exact .tmp rfl (.cell rfl ib rfl .nil)) (Back.here fun p=>Nat.zero_le _) ⟨rfl,rfl⟩
  clear ho
  rw [show errF P F ws x=if A2k P.toNat F.toNat x=0 then voidE (A0g P.toNat F.toNat ws)else A2k P.toNat F.toNat x from if_pos h]
  obtain⟨P,F,rfl,rfl,hv⟩:=A4w h
  simp only [Int.toNat_natCast]
  have hP4:=hv.p4
  have hF3:=hv.f3
  repeat (first|refine st ?_|refine qb fun bx=>?_)
  refine Q_op fun ho=>A6g ho bod104 rfl rfl rfl rfl (B3t oM oM) (fun h=>?_) (fun h=>?_)
  · rw [if_neg h,if_neg h]
    refine pn ?_
    exact A2n tab rfl ib dM sb (xs:=[_,_]) (by exact .tmp rfl (.cell rfl ib rfl .nil)) (Back.here fun p=>Nat.zero_le _) ⟨rfl,rfl⟩
  clear ho
  rw [if_pos h]
  have hfit:=fitE hv.p4 hv.f3 h
  repeat (first|refine st ?_|refine qb fun bx=>?_)
  refine Q_op fun ho=>A0s ho bod105 rfl rfl rfl rfl rfl (B3e (x:=x)) ?_
  clear ho
  obtain⟨ty,y,hs⟩:=says_iface hfit
  rw [hs]
  repeat (first|refine st ?_|refine qb fun bx=>?_)
  rename_i b2 b3 b5 hchk bm
  refine Q_op fun ho=>B1u ho rfl rfl rfl rfl hv hws hwl (fun h=>?_) (fun hne a cap βw hS=>?_)
  · refine pn ?_
    rw [h]
    exact A2n tab rfl ib dM sb (xs:=[_,_]) (by exact .tmp rfl (.cell rfl ib rfl .nil)) (Back.here fun p=>Nat.zero_le _) ⟨rfl,rfl⟩
  clear ho
  rw [A9v hne,if_pos rfl]
  refine A0w (β1:=βw++[(bx,#[.iface ty y],124),(bm,(boV P F wa ws.length wc).cells,95)]) (β2:=[(b5,#[.int .i64 0],34),(b3,(wdV x).cells,26),(b2,(boV P F wa ws.length wc).cells,24)])
    (show ∀p,Pal.cnt p (βw++[(bx,#[.iface ty y],124),(bm,(boV P F wa ws.length wc).cells,95),(b5,#[.int .i64 0],34),(b3,(wdV x).cells,26),(b2,(boV P F wa ws.length wc).cells,24)])=Pal.cnt p ((βw++[(bx,#[.iface ty y],124),(bm,(boV P F wa ws.length wc).cells,95)])++[(b5,#[.int .i64 0],34),(b3,(wdV x).cells,26),(b2,(boV P F wa ws.length wc).cells,24)])from cntA) (fun hbk=>?_)
  have hrow:=RowAt.own hbk (show Subm βw (βw++[(bx,#[.iface ty y],124),(bm,(boV P F wa ws.length wc).cells,95)])from cntL) hS
  have hv1:=A9c hbk (b:=bm) ib
  have hv2:=A9c hbk (b:=bx) ib
  have hlen:=A4s (ws:=ws) hv.p4 hv.f3
  repeat (first|refine st ?_|refine qb fun bx=>?_)
  refine Q_op fun ho=>A0s ho bod101 rfl rfl rfl rfl rfl (verdict_x (p:=A4h P x) hrow oM bod106 (fun w hw u hl=>followsF_x oM hfit (A4d hv.p4 hv.f3 hw).1 (A4d hv.p4 hv.f3 hw).2 (hl _ _ hv1) (by rw [hs];exact hl _ _ hv2))) ?_
  clear ho
  repeat (first|refine st ?_|refine qb fun bx=>?_)
  exact A6e tab rfl (β':=[]) (xs:=[_,_]) (by exact .tmp rfl (.cell rfl ib rfl .nil)) (Back.forget hbk (Back.here fun p=>Nat.zero_le _)) ⟨rfl,rfl⟩
end
end Go.Proofs.YtiolobmgibdfmaaGreat
end
section
namespace Go.Pal
open Go Go.Conc View
section
variable{P:Program}{mn:Who}(T:Tab P){rd:Option Nat}{n:Nat}{Q:Exit→St→View→Prop}{ds:List Deferred}{ρ:Regs}{β:A0j}{v:View}{K:St→View→Prop}
  {ops:Array Oper}{i:Nat}{d:Nat}{ty:TypeId}{pos:String}{af:Array Edge}{gu:Option (Nat×Bool)}
theorem A_clear{t t' e:TypeId}{y:Operand}{b off len cap:Nat}{z:Value}{c:Array Value}{β':A0j}(ho:ops[i]?=some ⟨none,.call {callee:=.builtin .clear,args:=#[y],argTypes:=#[t] },ty,pos,af,gu⟩)(hw:A0x ops gu ρ=some true)
    (hy:ρ.val y=some (.slice (some ⟨b,off,none⟩) (len+1) cap))(ht:T.und t=some (.slice e))(hz:T.zer e=some z)(hone:z.cells.toList.all A3z=true)(hb:InB b c t' β)(hoff:off+(len+1)*z.cells.size≤c.size)
    (hset:SetB b (A1l c off (Builtin.zeroCells z.cells (len+1)).toList) β β')(h:K ⟨ds,ρ,β'⟩ v):XOp P mn rd n ops i Q K ⟨ds,ρ,β⟩ v:=by
  refine A2x ho (A0p hw) (.inr rfl) rfl fun ev hev hbk=>?_
  obtain⟨hbk',c₀,t₀,hin,hv⟩:=B0c hbk hset
  have hcc:c₀=c∧t₀=t':=by
    have h1:=A1f (v:=v) hbk hin
    have h2:=A1f (v:=v) hbk hb
    rw [h1]at h2
    simp only [Option.some.injEq,Prod.mk.injEq,Obj.cells.injEq]at h2
    exact⟨h2.2.1,h2.2.2.1⟩
  obtain⟨rfl,rfl⟩:=hcc
  have hall:(Builtin.zeroCells z.cells (len+1)).toList.all A3z=true:=by
    refine List.all_eq_true.2 fun x hx=>?_
    rw [Array.mem_toList_iff]at hx
    unfold Builtin.zeroCells at hx
    obtain⟨j,hj,rfl⟩:=Array.mem_map.1 hx
    have hlt:j<(len+1)*z.cells.size:=by simpa using hj
    have hpos:0<z.cells.size:=by
      rcases Nat.eq_zero_or_pos z.cells.size with h0|h0
      · rw [h0]at hlt;simp at hlt
      · exact h0
    have hm:j % z.cells.size<z.cells.size:=Nat.mod_lt _ hpos
    rw [getElem!_pos z.cells _ hm]
    exact List.all_eq_true.1 hone _ sM
  unfold execOp
  simp only [resolve,A0d,A0m,invoke,builtin]
  have h0:(#[y]:Array Operand).map ev=#[.slice (some ⟨b,off,none⟩) (len+1) cap]:=by simp [hev _ _ hy]
  rw [h0]
  unfold Builtin.clear_
  simp only [List.getElem?_toArray,List.getElem?_cons_zero,A0d,A1r T ht,A9x T hz]
  refine A5j (off:=off) (c:=c₀) (e:=t₀) (j:=0) hall (A1f hbk hin) (by rw [Array.length_toList,A6o];omega) ?_
  refine⟨β',v,⟨hbk',?_⟩,h⟩
  rw [hv]
  exact Le.refl _
end
end Go.Pal
end
section
namespace Go.Proofs.YtiolobmgibdfmaaGreat
open Go Go.Pal Go.Pal.Vo Go.Conc View
open Go.Proofs.Tryz
set_option maxHeartbeats 4000000
theorem B0l{α:Type}(p:α→Bool):∀(l:List α) (k:Nat),(idxL p l k = -1∧∀x∈l,p x=false)∨∃i,∃h:i<l.length,idxL p l k=((k+i:Nat):Int)∧p l[i]=true∧∀x∈l.take i,p x=false
  | [],k=>.inl ⟨rfl,by simp⟩
  | x::l,k=>by
    unfold idxL
    cases hp:p x with
    | true=>exact .inr ⟨0,by simp,by simp,by simpa using hp,by simp⟩
    | false=>
      simp only [Bool.false_eq_true,if_false]
      rcases B0l p l (k+1)with ⟨h1,h2⟩|⟨i,hi,h1,h2,h3⟩
      · exact .inl ⟨h1,fun y hy=>by
          rcases List.mem_cons.1 hy with rfl|hy
          · exact hp
          · exact h2 y hy⟩
      · refine .inr ⟨i+1,by simpa using hi,by rw [h1];congr 1;omega,by simpa using h2,fun y hy=>?_⟩
        rw [List.take_succ_cons]at hy
        rcases List.mem_cons.1 hy with rfl|hy
        · exact hp
        · exact h3 y hy
section
variable{mn:Who}{v:View}{cap:Nat}
theorem DB.cut{P:Nat}{d:Array Wl}{c c':Array Value}(h:DB P cap d c){i:Nat}(hi:i≤d.size)(hs:c'.size=c.size)(hc:∀k,k<i*2→c'[k]?=c[k]?):DB P cap (d.extract 0 i) c':=by
  have hsz:(d.extract 0 i).size=i:=by simp;omega
  refine⟨by rw [hs];exact h.size,by rw [hsz];exact Nat.le_trans hi h.le,fun {k} hk=>?_,fun k hk=>?_⟩
  · rw [hsz]at hk
    have:(d.extract 0 i)[k]! = d[k]!:=by
      rw [getElem!_pos _ k (by rw [hsz];exact hk),getElem!_pos d k oM]
      simp
    rw [this];exact h.ok oM
  · rw [hsz]at hk
    have:(d.extract 0 i)[k]! = d[k]!:=by
      rw [getElem!_pos _ k (by rw [hsz];exact hk),getElem!_pos d k oM]
      simp
    rw [this,hc _ oM,hc _ oM]
    exact h.get k oM
theorem deleteW_x{P b:Nat}{l:List Wl}{c:Array Value}{p:Wl→Bool}{k:FuncId}{captured:Array Value}(hD:DB P cap l.toArray c)(hlen:l.length<2^30)(hk:A0n prog k)
    (hf:∀w∈l,∀u,v.Le u→Ret1 prog mn k (wlV w::captured.toList) (.bool (p w)) u) :
    CallsB prog mn 174 #[slV b l.length cap,.func (.func k) #[] captured] (RetB fun x β'=>OwnWs β' x (l.filter fun w=>!p w)) [(b,c,102)] v:=by
  refine A0f tab func174 rfl nB (args:=[_,_]) ?_
  have hle:l.length≤cap:=by simpa using hD.le
  repeat (first|refine st ?_|refine qb fun bx=>?_)
  refine Q_op fun ho=>A0i [(b,c,102)] [] ho bod120 rfl rfl rfl rfl rfl cntA (Ret1.box fun hb=>indexW_x (p:=p) (A2m hb (by have:=B0e (b:=b) hD;rwa [List.size_toArray,List.toList_toArray]at this)) hlen hk (fun w hw u hl=>hf w hw u (((A0b _ _).trans (A0b _ _)).trans hl))) (fun x β' hR=>?_)
  clear ho
  obtain⟨rfl,rfl⟩:=hR
  rcases B0l p l 0 with ⟨h1,h2⟩|⟨i0,hi0,h1,h2,h3⟩
  · rw [h1]
    repeat (first|refine st ?_|refine qb fun bx=>?_)
    refine A0l tab [(b,c,102)] (by exact .tmp rfl .nil) (Back.here cntL) ?_
    have hfl:(l.filter fun w=>!p w)=l:=List.filter_eq_self.2 fun w hw=>by rw [h2 w hw];rfl
    rw [hfl]
    have:=B0e (b:=b) hD
    rw [List.size_toArray,List.toList_toArray]at this
    exact⟨_,_,rfl,this⟩
  rw [Nat.zero_add]at h1
  rw [h1]
  repeat (first|refine st ?_|refine qb fun bx=>?_)
  refine A1o (α:=Nat×Nat×Array Wl×Array Value) (fun z=>⟨[],[(6,.int .i64 z.1),(5,.int .i64 z.2.1),(0,slV b l.length cap),(1,.func (.func k) #[] captured)],[(b,z.2.2.2,102)]⟩)
    (fun z u=>u=v∧DB P cap z.2.2.1 z.2.2.2∧z.2.2.1.size=l.length∧z.2.1<z.1∧z.1≤l.length∧z.2.2.1.toList.take z.2.1=(l.take z.1).filter (fun w=>!p w)∧∀m (hm:m<l.length),z.1≤m→z.2.2.1[m]! = l[m]) (fun z=>l.length-z.1) (i0+1,i0,l.toArray,c)
    ⟨rfl,rg,cntL⟩ (Le.refl _) ⟨rfl,hD,by simp,by simp,hi0,?_,fun m hm _=>by simp [hm]⟩ ?_
  · simp only
    rw [List.take_succ_eq_append_getElem hi0,List.filter_append,List.filter_eq_self.2 (fun w hw=>by rw [h3 w hw];rfl)]
    simp [h2]
  clear h1 h2 h3 hi0
  rintro⟨j,i,d,c1⟩ u ⟨rfl,hD1,hs1,hij,hj,htk,hrest⟩
  simp only at hD1 hs1 hij hj htk hrest
  dsimp only
  have hle1:=hD1.le
  repeat (first|refine st ?_|refine qb fun bx=>?_)
  refine A0t rfl (fun h=>?_) (fun h=>?_)
  · replace h:=fa h
    have hlt:j<l.length:=oM
    have hdj:d[j]! = l[j]:=hrest j hlt (Nat.le_refl _)
    have hok:WOk P l[j]:=hdj ▸ hD1.ok oM
    repeat (first|refine st ?_|refine qb fun bx=>?_)
    refine A2t tab j rfl rfl rfl rfl rfl rfl rfl hlt ?_
    refine A6v tab rfl rfl rfl ib (hD1.read oM) ?_
    rw [hdj]
    repeat (first|refine st ?_|refine qb fun bx=>?_)
    refine Q_op fun ho=>A0s ho hk rfl rfl rfl rfl (List.nil_append _) (hf l[j] (List.getElem_mem hlt) _ (Le.refl _)) ?_
    clear ho
    have hst:(l.take (j+1)).filter (fun w=>!p w)=(l.take j).filter (fun w=>!p w)++(if p l[j]then []else [l[j]]):=by
      rw [List.take_succ_eq_append_getElem hlt,List.filter_append]
      cases hq:p l[j]<;>simp [hq]
    cases hp:p l[j]with
    | true=>
      rw [hp]at hst
      repeat (first|refine st ?_|refine qb fun bx=>?_)
      refine A0c ⟨(j+1,i,d,c1),u,by simp only;omega,⟨rfl,rg,cntL⟩,Le.refl _,rfl,hD1,hs1,by simp only;omega,hlt,?_,fun m hm h=>hrest m hm (by simp only at h;omega)⟩
      simp only
      rw [hst,htk];simp
    | false=>
      rw [hp]at hst
      repeat (first|refine st ?_|refine qb fun bx=>?_)
      refine A2t tab i rfl rfl rfl rfl rfl rfl rfl (show i<l.length by omega) ?_
      refine Q_op fun ho=>A1j tab (x:=wlV l[j]) ho rfl rfl rfl rfl rfl rfl ib (hD1.off oM) sb ?_
      clear ho
      repeat (first|refine st ?_|refine qb fun bx=>?_)
      refine A0c ⟨(j+1,i+1,d.setIfInBounds i l[j],A1l c1 (0+i*2) (wlV l[j]).cells.toList),u,by simp only;omega,⟨rfl,rg,cntL⟩,Le.refl _,rfl,hD1.set oM hok,by simpa using hs1,by simp only;omega,hlt,?_,fun m hm h=>?_⟩
      · simp only
        rw [hst,←htk]
        have hi:i<d.toList.length:=by simp;omega
        rw [Array.toList_setIfInBounds,List.take_succ_eq_append_getElem (by simpa using hi)]
        simp [List.take_set_of_le]
      · simp only at h⊢
        have hm':m<d.size:=oM
        rw [getElem!_pos _ m (by simpa using hm'),Array.getElem_setIfInBounds_ne (by simpa using hm') oM,←getElem!_pos d m hm']
        exact hrest m hm oM
  · replace h:=fa h
    have hjn:j=l.length:=oM
    subst hjn
    rw [List.take_length]at htk
    have hlf:(l.filter fun w=>!p w).length=i:=by rw [←htk,List.length_take];simp;omega
    obtain⟨m,hm⟩:∃m,l.length-i=m+1:=⟨l.length-i-1,oM⟩
    have hsz:=hD1.size
    clear h
    repeat (first|refine st ?_|refine qb fun bx=>?_)
    refine Q_op fun ho=>A_slice_l tab (l':=i) ho rfl rfl rfl rfl rfl rfl oM ?_
    clear ho
    rw [if_neg (show ¬cap=i by omega),hm,Option.map_some,A5m]
    refine Q_op fun ho=>A_clear tab (b:=b) (len:=m) ho rfl rfl rfl rfl rfl ib (by show 0+i*2+(m+1)*2≤c1.size;omega) sb ?_
    clear ho
    repeat (first|refine st ?_|refine qb fun bx=>?_)
    refine Q_op fun ho=>A_slice_h tab (h':=i) ho rfl rfl rfl rfl rfl rfl oM ?_
    clear ho
    rw [if_neg (show ¬cap=0 by omega),Option.map_some,A5m]
    repeat (first|refine st ?_|refine qb fun bx=>?_)
    refine A0l tab (β':=_) (by exact .tmp rfl .nil) (Back.here (show Subm [(b,A1l c1 (0+i*2) (Builtin.zeroCells (Value.agg #[u8 0,u8 0]).cells (m+1)).toList,102)] _ from cntL)) ?_
    have hDc:=hD1.cut (c':=A1l c1 (0+i*2) (Builtin.zeroCells (Value.agg #[u8 0,u8 0]).cells (m+1)).toList) (i:=i) oM A5q (fun k hk=>by
      rw [A8h (by rw [Array.length_toList,A6o];show 0+i*2+(m+1)*2≤c1.size;omega),if_neg oM])
    have hO:=B0e (b:=b) hDc
    have he:(d.extract 0 i).toList=l.filter fun w=>!p w:=by rw [←htk];simp
    rw [he]at hO
    have hsi:(d.extract 0 i).size=(l.filter fun w=>!p w).length:=by rw [←he];simp
    rw [hsi]at hO
    refine⟨some ⟨b,0,none⟩,cap,?_,hO⟩
    rw [hlf]
    rfl
end
section
variable{mn:Who}{v:View}
theorem bestF_x{w:Wl}{m:Int}{b:Nat}{q:Bool}{e:TypeId}{f:Nat×Nat}(h1:w.1<256)(hv:v b=some (q,.cells #[.int .i64 m] e f)):Ret1 prog mn 175 [wlV w,.pointer (some ⟨b,0,none⟩)] (.bool !(((cnt w.1:Nat):Int)==m)) v:=by
  refine A0f tab func175 rfl nB (args:=[_,_]) ?_
  repeat (first|refine st ?_|refine qb fun bx=>?_)
  refine lexL A1w rfl kR ?_
  repeat (first|refine st ?_|refine qb fun bx=>?_)
  refine A3r bod85 rfl rfl rfl rfl rfl (A7q h1) ?_
  repeat (first|refine st ?_|refine qb fun bx=>?_)
  refine A9d tab rfl rfl rfl hv (x:=.int .i64 m) rfl ?_
  repeat (first|refine st ?_|refine qb fun bx=>?_)
  refine A0l tab [] (by exact .tmp rfl .nil) (Back.here cntL) ?_
  exact⟨rfl,rfl⟩
def bestL(l:List Wl):List Wl:=l.filter fun w=>!(!(((cnt w.1:Nat):Int)==((cnt (l.headD (0,0)).1:Nat):Int)))
def someL(best:Bool)(l:List Wl):List Wl:=if best then bestL l else l
end
section
variable{v:View}{wa:Option Addr}{wc:Nat}
theorem worlds_ok{P F:Nat}{ws:List Wd}(hF:F≤3):∀w∈A0g P F ws,WOk P w:=fun w hw=>by
  have h1:=(worldsL_mem.1 hw).1
  have hp2:2 ^ F≤2^3:=Nat.pow_le_pow_right dM hF
  exact⟨h1.1,oM⟩
theorem best_x{P F:Nat}{ws:List Wd}(hv:VOk P F ws)(hws:WdsAt v wa ws)(hwl:ws.length<2^30) :
    CallsB prog ⟨true,true⟩ 145 #[boV P F wa ws.length wc] (fun e β'=>if A0g P F ws=[]then e=panV 11∧β'=[]else ∃x,e = .ret x∧OwnWs β' x (bestL (A0g P F ws))) [] v:=by
  refine A0f tab func145 rfl nB (args:=[_]) ?_
  repeat (first|refine st ?_|refine qb fun bx=>?_)
  refine Q_op fun ho=>B1u ho rfl rfl rfl rfl hv hws hwl (fun h=>?_) (fun hne a cap βw hS=>?_)
  · refine pn ?_
    refine A1k tab [] (Back.here fun p=>Nat.zero_le _) ?_
    rw [if_pos h]
    exact⟨rfl,rfl⟩
  clear ho
  have hlt:0<(A0g P F ws).length:=List.length_pos_iff.2 hne
  have hlen:=A4s (ws:=ws) hv.p4 hv.f3
  rcases own_cases hS rfl (worlds_ok hv.f3)with ⟨h,_⟩|⟨b,c,rfl,rfl,hD⟩
  · exact absurd h hne
  have hw0:=A4d hv.p4 hv.f3 (List.getElem_mem hlt)
  have hg:=(hD.get 0 (by simpa using hlt)).1
  rw [getElem!_pos _ 0 (by simpa using hlt)]at hg
  simp only [List.getElem_toArray]at hg
  repeat (first|refine st ?_|refine qb fun bx=>?_)
  refine A2t tab 0 rfl rfl rfl rfl rfl rfl rfl hlt ?_
  repeat (first|refine st ?_|refine qb fun bx=>?_)
  refine A6v tab rfl rfl rfl ib (A1b tab rfl rfl rfl hg) ?_
  repeat (first|refine st ?_|refine qb fun bx=>?_)
  refine Q_op fun ho=>A0s ho bod85 rfl rfl rfl rfl rfl (A7q hw0.1) ?_
  clear ho
  repeat (first|refine st ?_|refine qb fun bx=>?_)
  rename_i b1
  refine A0w (β1:=[(bx,#[Value.int .i64 ((Vo.cnt (A0g P F ws)[0].1:Nat):Int)],3)]) (β2:=[(b,c,102),(b1,(boV P F wa ws.length wc).cells,95)])
    (show ∀p,Pal.cnt p ([(bx,#[Value.int .i64 ((Vo.cnt (A0g P F ws)[0].1:Nat):Int)],3),(b,c,102),(b1,(boV P F wa ws.length wc).cells,95)])=Pal.cnt p ([(bx,#[Value.int .i64 ((Vo.cnt (A0g P F ws)[0].1:Nat):Int)],3)]++[(b,c,102),(b1,(boV P F wa ws.length wc).cells,95)])from cntA) (fun hbk=>?_)
  have hv4:=A9c hbk (b:=bx) ib
  refine Q_op fun ho=>A0i [(b,c,102)] [(b1,(boV P F wa ws.length wc).cells,95)] ho bod174 rfl rfl rfl rfl rfl cntA (deleteW_x (p:=fun w=>!(((cnt w.1:Nat):Int)==((cnt (A0g P F ws)[0].1:Nat):Int))) hD oM bod175 (fun w hw u hl=>bestF_x (A4d hv.p4 hv.f3 hw).1 (hl _ _ (A1p hv4)))) (fun x β' hR=>?_)
  clear ho
  repeat (first|refine st ?_|refine qb fun bx=>?_)
  refine A0l tab (β':=β') (by exact .tmp rfl .nil) (Back.forget hbk (Back.here cntL)) ?_
  rw [if_neg hne]
  unfold bestL
  rw [headD_get hlt]
  exact⟨_,rfl,hR⟩
end
section
variable{mn:Who}{rd:Option Nat}{n:Nat}{Q:Exit→St→View→Prop}{ds:List Deferred}{ρ:Regs}{β:A0j}{v:View}{K:St→View→Prop}
  {ops:Array Oper}{i:Nat}{d:Nat}{ty:TypeId}{pos:String}{af:Array Edge}{gu:Option (Nat×Bool)}
def WlsR(l l':List Wl):Pal.End→A0j→Prop:=fun e β'=>if l=[]then e=panV 11∧β'=[]else ∃x,e = .ret x∧OwnWs β' x l'
theorem A_wls{f:Operand}{args:Array Operand}{ats:Array TypeId}{kf:FuncId}{xs:List Value}{l l':List Wl}(ho:ops[i]?=some ⟨some d,.call {callee:=.value f,args:=args,argTypes:=ats },ty,pos,af,gu⟩)(hk:A0n prog kf)(hw:A0x ops gu ρ=some true)(hn:Nat.blt d n=true)
    (hf:ρ.val f=some (.func (.func kf) #[] #[]))(hxs:A3q ρ.val args.toList=some xs)(hc:CallsB prog mn kf xs.toArray (WlsR l l') [] (v.union (A0e β)))
    (h2:l=[]→Q (.panic (panC 11)) ⟨ds,ρ,β⟩ v)(h1:l≠[]→∀a cap βw,OwnS 102 2 βw a l'.length cap (wsC l')→K ⟨ds,(d,.slice a l'.length cap)::ρ,βw++β⟩ v):XOp prog mn rd n ops i Q K ⟨ds,ρ,β⟩ v:=by
  have hc':CallsB prog mn kf (#[]++xs.toArray++#[]) (WlsR l l') [] (v.union (A0e β)):=by
    have:(#[]++xs.toArray++#[]:Array Value)=xs.toArray:=by simp
    rw [this];exact hc
  refine A7s [] β ho hw hn hf hxs hk (fun _=>rfl) hc' (fun y β' hR=>?_) (fun ch β' hR=>?_)
  · unfold WlsR at hR
    by_cases h0:l=[]
    · rw [if_pos h0]at hR;cases hR.1
    · rw [if_neg h0]at hR
      obtain⟨x,hx,a,cap,rfl,hS⟩:=hR
      injection hx with hx
      subst hx
      exact h1 h0 a cap β' hS
  · unfold WlsR at hR
    by_cases h0:l=[]
    · rw [if_pos h0]at hR
      obtain⟨hR,rfl⟩:=hR
      injection hR with hR
      subst hR
      exact h2 h0
    · rw [if_neg h0]at hR
      obtain⟨x,hx,_⟩:=hR
      cases hx
end
section
variable{v:View}{wa:Option Addr}{wc:Nat}
theorem someL_mem{best:Bool}{l:List Wl}{w:Wl}(h:w∈someL best l):w∈l:=by
  cases best with
  | false=>exact h
  | true=>exact(List.mem_filter.1 h).1
theorem someL_len{best:Bool}{l:List Wl}:(someL best l).length≤l.length:=by
  cases best with
  | false=>exact Nat.le_refl _
  | true=>exact List.length_filter_le _ _
theorem of_x{P F:Nat}{ws:List Wd}{best:Bool}(hv:VOk P F ws)(hws:WdsAt v wa ws)(hwl:ws.length<2^30) :
    CallsB prog ⟨true,true⟩ 102 #[boV P F wa ws.length wc,.bool best] (WlsR (A0g P F ws) (someL best (A0g P F ws))) [] v:=by
  refine A0f tab func102 rfl nB (args:=[_,_]) ?_
  cases best with
  | true=>
    repeat (first|refine st ?_|refine qb fun bx=>?_)
    refine Q_op fun ho=>A_wls ho bod145 rfl rfl rfl rfl (l:=A0g P F ws) (l':=bestL (A0g P F ws)) (best_x hv (hws.le (A0b _ _)) hwl) (fun h=>?_) (fun hne a cap βw hS=>?_)
    · refine pn ?_
      refine A1k tab [] (Back.here fun p=>Nat.zero_le _) ?_
      unfold WlsR
      rw [if_pos h]
      exact⟨rfl,rfl⟩
    clear ho
    repeat (first|refine st ?_|refine qb fun bx=>?_)
    refine A0l tab βw (by exact .tmp rfl .nil) (Back.here cntL) ?_
    unfold WlsR
    rw [if_neg hne]
    exact⟨_,rfl,a,cap,rfl,hS⟩
  | false=>
    repeat (first|refine st ?_|refine qb fun bx=>?_)
    refine Q_op fun ho=>B1u ho rfl rfl rfl rfl hv hws hwl (fun h=>?_) (fun hne a cap βw hS=>?_)
    · refine pn ?_
      refine A1k tab [] (Back.here fun p=>Nat.zero_le _) ?_
      unfold WlsR
      rw [if_pos h]
      exact⟨rfl,rfl⟩
    clear ho
    repeat (first|refine st ?_|refine qb fun bx=>?_)
    refine A0l tab βw (by exact .tmp rfl .nil) (Back.here cntL) ?_
    unfold WlsR
    rw [if_neg hne]
    exact⟨_,rfl,a,cap,rfl,hS⟩
def errN(N:Int)(P F:Int)(ws:List Wd)(x:Int):Int:=if A2h P F ws=0 then(if 0≤x∧x≤N-1 then voidE (A0g P.toNat F.toNat ws)else 3)else A2h P F ws
theorem Person_x{P F:Int}{ws:List Wd}{x:Int}{best:Bool}(hws:WdsAt v wa ws)(hwl:ws.length<2^30) :
    CallsB prog ⟨true,true⟩ 41 #[boV P F wa ws.length wc,.int .i64 x,.bool best] (RetB fun r β'=>r = .tuple #[.int .i64 (if errN P P F ws x=0 then verd (someL best (A0g P.toNat F.toNat ws)) (fun w=>bit w.1 x.toNat)else 0),.int .i64 (errN P P F ws x)]∧β'=[]) [] v:=by
  refine A3m tab A4x func41 rfl nB (args:=[_,_,_]) ?_
  repeat (first|refine st ?_|refine qb fun bx=>?_)
  refine Q_op fun ho=>A6x rfl ho rfl rfl ?_
  clear ho
  repeat (first|refine st ?_|refine qb fun bx=>?_)
  refine Q_op fun ho=>A6g ho bod79 rfl rfl rfl rfl (A6u (hws.le (A0b _ _)) hwl) (fun h=>?_) (fun h=>?_)
  · have he:errN P P F ws x=A2h P F ws:=if_neg h
    rw [he,if_neg h]
    refine pn ?_
    exact A2n tab rfl ib dM sb (xs:=[_,_]) (by exact .tmp rfl (.cell rfl ib rfl .nil)) (Back.here fun p=>Nat.zero_le _) ⟨rfl,rfl⟩
  clear ho
  rw [show errN P P F ws x=if 0≤x∧x≤P-1 then voidE (A0g P.toNat F.toNat ws)else 3 from if_pos h]
  obtain⟨P,F,rfl,rfl,hv⟩:=A4w h
  simp only [Int.toNat_natCast]
  have hP4:=hv.p4
  have hF3:=hv.f3
  repeat (first|refine st ?_|refine qb fun bx=>?_)
  refine Q_op fun ho=>A_needR ho bod100 rfl rfl rfl rfl (person_x oM) (fun h=>?_) (fun h=>?_)
  · rw [if_neg (of_decide_eq_false h)]
    refine pn ?_
    exact A2n tab rfl ib dM sb (xs:=[_,_]) (by exact .tmp rfl (.cell rfl ib rfl .nil)) (Back.here fun p=>Nat.zero_le _) ⟨rfl,rfl⟩
  clear ho
  have hx:=of_decide_eq_true h
  rw [if_pos hx]
  clear h
  obtain⟨x,rfl⟩:=Int.eq_ofNat_of_zero_le hx.1
  simp only [Int.toNat_natCast]
  repeat (first|refine st ?_|refine qb fun bx=>?_)
  rename_i b3 b4 b7
  refine Q_op fun ho=>A_wls ho bod102 rfl rfl rfl rfl (l:=A0g P F ws) (l':=someL best (A0g P F ws)) (of_x hv (hws.le (A0b _ _)) hwl) (fun h=>?_) (fun hne a cap βw hS=>?_)
  · refine pn ?_
    rw [h]
    exact A2n tab rfl ib dM sb (xs:=[_,_]) (by exact .tmp rfl (.cell rfl ib rfl .nil)) (Back.here fun p=>Nat.zero_le _) ⟨rfl,rfl⟩
  clear ho
  rw [A9v hne,if_pos rfl]
  refine A0w (β1:=βw++[(b4,#[Value.int .i64 x],3)]) (β2:=[(bx,(boV P F wa ws.length wc).cells,95),(b7,#[Value.int .i64 0],34),(b3,(boV P F wa ws.length wc).cells,24)])
    (show ∀p,Pal.cnt p (βw++[(bx,(boV P F wa ws.length wc).cells,95),(b7,#[Value.int .i64 0],34),(b4,#[Value.int .i64 x],3),(b3,(boV P F wa ws.length wc).cells,24)])=Pal.cnt p ((βw++[(b4,#[Value.int .i64 x],3)])++[(bx,(boV P F wa ws.length wc).cells,95),(b7,#[Value.int .i64 0],34),(b3,(boV P F wa ws.length wc).cells,24)])from cntA) (fun hbk=>?_)
  have hrow:=RowAt.own hbk (show Subm βw (βw++[(b4,#[Value.int .i64 x],3)])from cntL) hS
  have hv4:=A9c hbk (b:=b4) ib
  have hlen:=A4s (ws:=ws) hv.p4 hv.f3
  have hlen2:=someL_len (best:=best) (l:=A0g P F ws)
  repeat (first|refine st ?_|refine qb fun bx=>?_)
  refine Q_op fun ho=>A0s ho bod101 rfl rfl rfl rfl rfl (verdict_x (p:=fun w=>bit w.1 x) hrow oM bod103 (fun w hw u hl=>personF_x (A4d hv.p4 hv.f3 (someL_mem hw)).1 oM (hl _ _ hv4))) ?_
  clear ho
  repeat (first|refine st ?_|refine qb fun bx=>?_)
  exact A6e tab rfl (β':=[]) (xs:=[_,_]) (by exact .tmp rfl (.cell rfl ib rfl .nil)) (Back.forget hbk (Back.here fun p=>Nat.zero_le _)) ⟨rfl,rfl⟩
end
section
variable{v:View}{wa:Option Addr}{wc:Nat}
theorem find_idx{l:List Wl}{p:Wl→Bool}:(idxL p l 0 = -1∧l.find? p=none)∨∃i,∃h:i<l.length,idxL p l 0=(i:Int)∧l.find? p=some l[i]:=by
  rcases B0l p l 0 with ⟨h1,h2⟩|⟨i,hi,h1,h2,h3⟩
  · exact .inl ⟨h1,List.find?_eq_none.2 fun x hx=>by rw [h2 x hx];decide⟩
  · refine .inr ⟨i,hi,by rw [h1,Nat.zero_add],?_⟩
    rw [List.find?_eq_some_iff_getElem]
    refine⟨h2,i,hi,rfl,fun j hj=>?_⟩
    have:=h3 l[j] (List.mem_take_iff_getElem.2 ⟨j,oM,rfl⟩)
    simp [this]
def noneE(o:Option Wl):Int:=match o with
  | some _=>0
  | none=>11
def ifO(P F:Int)(ws:List Wd)(x:Int):Option Wl:=if A2h P F ws=0 then(if 0≤x∧x≤P-1 then(A0g P.toNat F.toNat ws).find? (fun w=>bit w.1 x.toNat)else none)else none
def errI(P F:Int)(ws:List Wd)(x:Int):Int:=if A2h P F ws=0 then(if 0≤x∧x≤P-1 then noneE ((A0g P.toNat F.toNat ws).find? (fun w=>bit w.1 x.toNat))else 3)else A2h P F ws
theorem If_x{P F:Int}{ws:List Wd}{x:Int}(hws:WdsAt v wa ws)(hwl:ws.length<2^30) :
    CallsB prog ⟨true,true⟩ 61 #[boV P F wa ws.length wc,.int .i64 x] (RetB fun r β'=>∃t,r = .tuple #[t,.int .i64 (errI P F ws x)]∧OwnT β' t ((ifO P F ws x).getD (0,0))) [] v:=by
  refine A3m tab A4x func61 rfl nB (args:=[_,_]) ?_
  unfold errI ifO
  repeat (first|refine st ?_|refine qb fun bx=>?_)
  refine Q_op fun ho=>A6x rfl ho rfl rfl ?_
  clear ho
  repeat (first|refine st ?_|refine qb fun bx=>?_)
  refine Q_op fun ho=>A6g ho bod79 rfl rfl rfl rfl (A6u (hws.le (A0b _ _)) hwl) (fun h=>?_) (fun h=>?_)
  · refine pn ?_
    exact A2n tab rfl ib dM sb (xs:=[_,_]) (by exact .cell rfl ib rfl (.cell rfl ib rfl .nil)) (Back.here fun p=>Nat.zero_le _) ⟨_,by rw [if_neg h];rfl,by rw [if_neg h];exact OwnT.zero⟩
  clear ho
  rw [if_pos h,if_pos h]
  obtain⟨P,F,rfl,rfl,hv⟩:=A4w h
  simp only [Int.toNat_natCast]
  have hP4:=hv.p4
  have hF3:=hv.f3
  repeat (first|refine st ?_|refine qb fun bx=>?_)
  refine Q_op fun ho=>A_needR ho bod100 rfl rfl rfl rfl (person_x oM) (fun h=>?_) (fun h=>?_)
  · rw [if_neg (of_decide_eq_false h),if_neg (of_decide_eq_false h)]
    refine pn ?_
    exact A2n tab rfl ib dM sb (xs:=[_,_]) (by exact .cell rfl ib rfl (.cell rfl ib rfl .nil)) (Back.here fun p=>Nat.zero_le _) ⟨_,rfl,OwnT.zero⟩
  clear ho
  have hx:=of_decide_eq_true h
  rw [if_pos hx,if_pos hx]
  clear h
  obtain⟨x,rfl⟩:=Int.eq_ofNat_of_zero_le hx.1
  simp only [Int.toNat_natCast]
  repeat (first|refine st ?_|refine qb fun bx=>?_)
  rename_i b2 b3 b4 b5
  refine Q_op fun ho=>B1u ho rfl rfl rfl rfl hv hws hwl (fun h=>?_) (fun hne a cap βw hS=>?_)
  · refine pn ?_
    rw [h]
    exact A2n tab rfl ib dM sb (xs:=[_,_]) (by exact .cell rfl ib rfl (.cell rfl ib rfl .nil)) (Back.here fun p=>Nat.zero_le _) ⟨_,rfl,OwnT.zero⟩
  clear ho
  refine A0w (β1:=βw++[(b3,#[Value.int .i64 x],3)]) (β2:=[(bx,(boV P F wa ws.length wc).cells,95),(b5,#[Value.int .i64 0],34),(b4,#[Value.slice none 0 0,Value.slice none 0 0],38),(b2,(boV P F wa ws.length wc).cells,24)])
    (show ∀p,Pal.cnt p (βw++[(bx,(boV P F wa ws.length wc).cells,95),(b5,#[Value.int .i64 0],34),(b4,#[Value.slice none 0 0,Value.slice none 0 0],38),(b3,#[Value.int .i64 x],3),(b2,(boV P F wa ws.length wc).cells,24)])=Pal.cnt p ((βw++[(b3,#[Value.int .i64 x],3)])++[(bx,(boV P F wa ws.length wc).cells,95),(b5,#[Value.int .i64 0],34),(b4,#[Value.slice none 0 0,Value.slice none 0 0],38),(b2,(boV P F wa ws.length wc).cells,24)])from cntA) (fun hbk=>?_)
  have hrow:=RowAt.own hbk (show Subm βw (βw++[(b3,#[Value.int .i64 x],3)])from cntL) hS
  have hv3:=A9c hbk (b:=b3) ib
  have hlen:=A4s (ws:=ws) hv.p4 hv.f3
  repeat (first|refine st ?_|refine qb fun bx=>?_)
  refine Q_op fun ho=>A0s ho bod120 rfl rfl rfl rfl rfl (indexW_x (p:=fun w=>bit w.1 x) hrow oM bod121 (fun w hw u hl=>ifF_x (A4d hv.p4 hv.f3 hw).1 oM (hl _ _ hv3))) ?_
  clear ho
  rcases find_idx (l:=A0g P F ws) (p:=fun w=>bit w.1 x)with ⟨h1,h2⟩|⟨i,hi,h1,h2⟩
  · rw [h1,h2]
    repeat (first|refine st ?_|refine qb fun bx=>?_)
    refine Q_op fun ho=>A3d ho rfl rfl rfl rfl (fun _=>?_) (fun h=>absurd h dM)
    refine pn ?_
    exact A2n tab rfl ib dM sb (xs:=[_,_]) (by exact .cell rfl ib rfl (.cell rfl ib rfl .nil)) (Back.forget hbk (Back.here fun p=>Nat.zero_le _)) ⟨_,rfl,OwnT.zero⟩
  · rw [h1,h2]
    repeat (first|refine st ?_|refine qb fun bx=>?_)
    refine Q_op fun ho=>A3d ho rfl rfl rfl rfl (fun h=>absurd (of_decide_eq_false h) oM) (fun _=>?_)
    clear ho
    obtain⟨b,off,q,c,e,f,rfl,hv',hc⟩:=A9r hrow hi
    repeat (first|refine st ?_|refine qb fun bx=>?_)
    refine A2t tab i rfl rfl rfl rfl rfl rfl rfl hi ?_
    refine A2p tab rfl rfl rfl hv' (A2d tab rfl rfl rfl (hc i hi)) ?_
    have hwlt:=A4d hv.p4 hv.f3 (List.getElem_mem hi)
    refine Q_op fun ho=>A0i [] _ ho bod82 rfl rfl rfl rfl rfl A1n (told_x hwlt.1 hwlt.2) (fun x β' hR=>?_)
    clear ho
    obtain⟨β1,β2,x1,x2,rfl,⟨a1,c1,rfl,hx1⟩,⟨a2,c2,rfl,hx2⟩,rfl⟩:=hR
    repeat (first|refine st ?_|refine qb fun bx=>?_)
    exact A6e tab rfl (β':=β1++β2) (xs:=[_,_]) (by exact .cell rfl ib rfl (.cell rfl ib rfl .nil)) (Back.forget hbk (Back.here cntL)) ⟨_,rfl,β1,β2,_,_,rfl,⟨a1,c1,rfl,hx1⟩,⟨a2,c2,rfl,hx2⟩,rfl⟩
end
section
variable{mn:Who}{v:View}{a:Option Addr}{cap:Nat}
def numE(L:Nat):Option Int→List Int→Int
  | _,[]=>0
  | pr,x::xs=>if ¬(0≤x∧x≤(L:Int)-1)then 3 else match pr with
    | some p=>if x > p then numE L (some x) xs else 5
    | none=>numE L (some x) xs
theorem numE_cons{L:Nat}{pr:Option Int}{x:Int}{xs:List Int}:numE L pr (x::xs)=if ¬(0≤x∧x≤(L:Int)-1)then 3 else match pr with
    | some p=>if x > p then numE L (some x) xs else 5
    | none=>numE L (some x) xs:=by cases pr<;>rfl
def prevI(l:List Int)(i:Nat):Option Int:=if i=0 then none else l[i-1]?
theorem numbers_x{l:List Int}{L:Nat}(hrow:RowAt v a (l.map (.int .i64)))(hlen:l.length<2^30)(hL:L≤8) :
    CallsB prog mn 116 #[.slice a l.length cap,.int .i64 L] (fun e β'=>β'=[]∧e=if numE L none l=0 then .ret (u8 (orG (l.map Int.toNat)))else panV (numE L none l)) [] v:=by
  refine A0f tab func116 rfl nB (args:=[_,_]) ?_
  repeat (first|refine st ?_|refine qb fun bx=>?_)
  refine A1o (α:=Nat) (fun i=>⟨[],[(9,.int .i64 i),(8,.int .i64 l.length),(7,.slice a l.length cap),(0,.slice a l.length cap),(1,.int .i64 L)],[]⟩)
    (fun i u=>u=v∧i≤l.length∧numE L none l=numE L (prevI l i) (l.drop i)∧∀x∈l.take i,0≤x∧x≤(L:Int)-1) (fun i=>l.length-i) 0 ⟨rfl,rg,cntL⟩ (Le.refl _) ⟨rfl,Nat.zero_le _,rfl,by simp⟩ ?_
  rintro i u ⟨rfl,hi,hE,hall⟩
  repeat (first|refine st ?_|refine qb fun bx=>?_)
  refine A0t rfl (fun h=>?_) (fun h=>?_)
  · replace h:=fa h
    have hlt:i<l.length:=oM
    obtain⟨b,off,q,c,e,f,rfl,hv,hc⟩:=hrow.ints hlt
    rw [List.drop_eq_getElem_cons hlt]at hE
    rw [numE_cons]at hE
    repeat (first|refine st ?_|refine qb fun bx=>?_)
    refine A2t tab i rfl rfl rfl rfl rfl rfl rfl hlt ?_
    refine A2p tab rfl rfl rfl hv (A1b tab rfl rfl rfl (by rw [Nat.mul_one];exact hc _ hlt)) ?_
    repeat (first|refine st ?_|refine qb fun bx=>?_)
    refine Q_op fun ho=>A0s ho A6b rfl rfl rfl rfl rfl A3k ?_
    clear ho
    refine Q_op fun ho=>A7s [] _ ho rfl rfl rfl rfl bod92 (fun _=>rfl) B3d (fun y β' hR=>?_) (fun ch β' hR=>?_)
    rotate_left
    · obtain⟨rfl,hR⟩:=hR
      refine pn ?_
      refine A1k tab [] (Back.here fun p=>Nat.zero_le _) ⟨rfl,?_⟩
      have hn:¬(0≤l[i]∧l[i]≤(L:Int)-1):=fun hn=>by rw [if_pos (by simpa using hn)]at hR;cases hR
      rw [if_pos hn]at hE
      rw [hE,if_neg dM,hR,if_neg (by simpa using hn)]
    clear ho
    obtain⟨rfl,hR⟩:=hR
    have hn:0≤l[i]∧l[i]≤(L:Int)-1:=Classical.byContradiction fun hn=>by rw [if_neg (by simpa using hn)]at hR;cases hR
    rw [if_neg (not_not_intro hn)]at hE
    have hall':∀x∈l.take (i+1),0≤x∧x≤(L:Int)-1:=fun x hx=>by
      rw [List.take_succ_eq_append_getElem hlt,List.mem_append,List.mem_singleton]at hx
      rcases hx with hx|rfl
      · exact hall x hx
      · exact hn
    have hnext:prevI l (i+1)=some l[i]:=by
      unfold prevI
      rw [if_neg oM]
      show l[i]?=_
      exact List.getElem?_eq_getElem hlt
    repeat (first|refine st ?_|refine qb fun bx=>?_)
    refine A6d rfl rfl (fun h=>?_) (fun h=>?_)
    · replace h:=fa h
      have hi0:i=0:=oM
      subst hi0
      repeat (first|refine st ?_|refine qb fun bx=>?_)
      refine Q_op fun ho=>A7s [] _ ho rfl rfl rfl rfl bod92 (fun _=>rfl) B3d (fun y2 β' hR2=>?_) (fun ch β' hR2=>absurd hR2.2 sM)
      clear ho
      obtain⟨rfl,hR2⟩:=hR2
      repeat (first|refine st ?_|refine qb fun bx=>?_)
      refine A0c ⟨1,u,(by have:=hlt;omega),⟨rfl,rg,cntL⟩,Le.refl _,rfl,hlt,?_,hall'⟩
      rw [hE,hnext];rfl
    · replace h:=fa h
      have hi0:¬i=0:=oM
      have hlt1:i-1<l.length:=oM
      have hpr:prevI l i=some l[i-1]:=by
        unfold prevI
        rw [if_neg hi0,List.getElem?_eq_getElem hlt1]
      rw [hpr]at hE
      simp only at hE
      repeat (first|refine st ?_|refine qb fun bx=>?_)
      refine A2t tab (i-1) rfl rfl rfl rfl oM rfl rfl hlt1 ?_
      refine A2p tab rfl rfl rfl hv (A1b tab rfl rfl rfl (by rw [Nat.mul_one];exact hc _ hlt1)) ?_
      repeat (first|refine st ?_|refine qb fun bx=>?_)
      refine Q_op fun ho=>A7s [] _ ho rfl rfl rfl rfl bod92 (fun _=>rfl) B3d (fun y2 β' hR2=>?_) (fun ch β' hR2=>?_)
      · clear ho
        obtain⟨rfl,hR2⟩:=hR2
        have hgt:l[i] > l[i-1]:=Classical.byContradiction fun hn'=>by rw [if_neg (by simpa using hn')]at hR2;cases hR2
        rw [if_pos hgt]at hE
        repeat (first|refine st ?_|refine qb fun bx=>?_)
        refine A0c ⟨i+1,u,(by have:=hlt;omega),⟨rfl,rg,cntL⟩,Le.refl _,rfl,hlt,?_,hall'⟩
        rw [hE,hnext]
      · obtain⟨rfl,hR2⟩:=hR2
        refine pn ?_
        refine A1k tab [] (Back.here fun p=>Nat.zero_le _) ⟨rfl,?_⟩
        have hgt:¬l[i] > l[i-1]:=fun hn'=>by rw [if_pos (by simpa using hn')]at hR2;cases hR2
        rw [if_neg hgt]at hE
        rw [hE,if_neg dM,hR2,if_neg (by simpa using hgt)]
  · replace h:=fa h
    have hin:i=l.length:=oM
    subst hin
    rw [List.drop_length]at hE
    rw [List.take_length]at hall
    have hE0:numE L none l=0:=hE.trans (by cases prevI l l.length<;>rfl)
    repeat (first|refine st ?_|refine qb fun bx=>?_)
    have hmap:(l.map Int.toNat).map (fun(n:Nat)=>Value.int .i64 n)=l.map (.int .i64):=by
      rw [List.map_map]
      refine List.map_congr_left fun x hx=>?_
      show Value.int .i64 ((x.toNat:Nat):Int)=_
      rw [Int.toNat_of_nonneg (hall x hx).1]
    refine Q_op fun ho=>A0s ho bod96 rfl rfl rfl rfl rfl (by
      have hg:=B3m (mn:=mn) (v:=u) (a:=a) (cap:=cap) (l:=l.map Int.toNat) (by rw [hmap];exact hrow) (fun m hm=>by
        obtain⟨x,hx,rfl⟩:=List.mem_map.1 hm
        have:=hall x hx;omega) (by rw [List.length_map];omega)
      rw [List.length_map]at hg
      exact hg) ?_
    clear ho
    repeat (first|refine st ?_|refine qb fun bx=>?_)
    refine A0l tab [] (by exact .tmp rfl .nil) (Back.here cntL) ?_
    rw [if_pos hE0]
    exact⟨rfl,rfl⟩
end
section
variable{mn:Who}{v:View}{a:Option Addr}{cap:Nat}
def whereI(x:Int):List Int→Nat→Int
  | [],_=>-1
  | y::l,i=>if y=x then i else whereI x l (i+1)
theorem B2p{l:List Int}{x:Int}(hrow:RowAt v a (l.map (.int .i64)))(hlen:l.length<2^30) :
    Ret1 prog mn 99 [.slice a l.length cap,.int .i64 x] (.int .i64 (whereI x l 0)) v:=by
  refine A0f tab func99 rfl nB (args:=[_,_]) ?_
  repeat (first|refine st ?_|refine qb fun bx=>?_)
  refine A1o (α:=Nat) (fun i=>⟨[],[(5,.int .i64 i),(0,.slice a l.length cap),(1,.int .i64 x)],[]⟩)
    (fun i u=>u=v∧i≤l.length∧whereI x l 0=whereI x (l.drop i) i) (fun i=>l.length-i) 0 ⟨rfl,rg,cntL⟩ (Le.refl _) ⟨rfl,Nat.zero_le _,rfl⟩ ?_
  rintro i u ⟨rfl,hi,hE⟩
  repeat (first|refine st ?_|refine qb fun bx=>?_)
  refine A0t rfl (fun h=>?_) (fun h=>?_)
  · replace h:=fa h
    have hlt:i<l.length:=oM
    obtain⟨b,off,q,c,e,f,rfl,hv,hc⟩:=hrow.ints hlt
    rw [List.drop_eq_getElem_cons hlt,whereI]at hE
    repeat (first|refine st ?_|refine qb fun bx=>?_)
    refine A2t tab i rfl rfl rfl rfl rfl rfl rfl hlt ?_
    refine A2p tab rfl rfl rfl hv (A1b tab rfl rfl rfl (by rw [Nat.mul_one];exact hc _ hlt)) ?_
    clear h
    repeat (first|refine st ?_|refine qb fun bx=>?_)
    refine A0t rfl (fun h=>?_) (fun h=>?_)
    · replace h:=fa h
      rw [if_pos h]at hE
      repeat (first|refine st ?_|refine qb fun bx=>?_)
      refine A0l tab [] (by exact .tmp rfl .nil) (Back.here cntL) ?_
      rw [hE];exact⟨rfl,rfl⟩
    · replace h:=fa h
      rw [if_neg h]at hE
      repeat (first|refine st ?_|refine qb fun bx=>?_)
      refine A0c ⟨i+1,u,(by have:=hlt;omega),⟨rfl,rg,cntL⟩,Le.refl _,rfl,hlt,hE⟩
  · replace h:=fa h
    have hin:i=l.length:=oM
    subst hin
    rw [List.drop_length]at hE
    repeat (first|refine st ?_|refine qb fun bx=>?_)
    refine A0l tab [] (by exact .tmp rfl .nil) (Back.here cntL) ?_
    rw [hE];exact⟨rfl,rfl⟩
end
end Go.Proofs.YtiolobmgibdfmaaGreat
end
