/- Part 27 of the way to: the laws of the vouchers -/
import Derived.Test.YtiolobmgibdfmaaGreatPaz
set_option linter.unusedVariables false
set_option linter.unusedSimpArgs false
section
namespace Go.Pal
open Go Go.Conc View
theorem le_new{v:View}{m:Nat}{p:Bool}{o:Obj}(h:v m=none):v.Le (v.set m p o):=fun b x hx=>by
  by_cases e:b=m
  · subst e;rw [h]at hx;cases hx
  · unfold View.set;rw [if_neg e];exact hx
theorem Back.more{v u:View}{β:A0j}(hl:v.Le u):Back v [] u β:=fun _=>⟨⟨List.nodup_nil,fun _=>.inr rfl⟩,by rw [A2r];exact hl.trans (A0b _ _)⟩
end Go.Pal
namespace Go.Proofs.YtiolobmgibdfmaaGreat
open Go Go.Pal Go.Pal.Vo Go.Conc View
open Go.Proofs.Tryz
set_option maxHeartbeats 4000000
section
variable{mn:Who}{v:View}
theorem proofF_x{W:List Wl}{l:List Nat}{f:Nat}{ai wa:Option Addr}{ci cap b1 b2:Nat}{q1 q2:Bool}{e1 e2:TypeId}{f1 f2:Nat×Nat}(hrow:RowAt v ai (l.map natV))(h8:∀x∈l,x<8)(hll:l.length<2^30)(hf:f<8)(hW:∀w∈W,w.1<256∧w.2<256)(hWl:W.length<2^30)(hwr:RowAt v wa (wsC W))
    (hv1:v b1=some (q1,.cells #[.slice wa W.length cap] e1 f1))(hv2:v b2=some (q2,.cells #[.int .i64 f] e2 f2)) :
    Ret1 prog mn 95 [.slice ai l.length ci,.pointer (some ⟨b1,0,none⟩),.pointer (some ⟨b2,0,none⟩)] (.bool (A9j W (orG l) f)) v:=by
  refine A0f tab func95 rfl nB (args:=[_,_,_]) ?_
  have ho256:=orG_lt h8
  repeat (first|refine st ?_|refine qb fun bx=>?_)
  refine Q_op fun ho=>A0s ho bod96 rfl rfl rfl rfl rfl (B3m hrow h8 oM) ?_
  clear ho
  repeat (first|refine st ?_|refine qb fun bx=>?_)
  refine Q_op fun ho=>A_makeMap (fun(g:Nat)=>u8 g) ho rfl rfl (fun m hm0=>?_)
  clear ho
  have hle:∀es ck,v.Le (v.set m true (mapO (fun(g:Nat)=>u8 g) es ck)):=fun es ck=>le_new hm0
  repeat (first|refine st ?_|refine qb fun bx=>?_)
  refine A2p tab rfl rfl rfl (hle _ _ _ _ hv1) (x:=.slice wa W.length cap) rfl ?_
  repeat (first|refine st ?_|refine qb fun bx=>?_)
  refine A1o (α:=Nat×Ents Nat×Nat) (fun z=>⟨[],[(16,.int .i64 z.1),(15,.int .i64 W.length),(14,.slice wa W.length cap),(6,.map (some m)),(5,u8 (orG l)),(2,.pointer (some ⟨b2,0,none⟩))],[]⟩)
    (fun z u=>u=v.set m true (mapO (fun(g:Nat)=>u8 g) z.2.1 z.2.2)∧z.1≤W.length∧MapI (orG l) f (W.take z.1) z.2.1) (fun z=>W.length-z.1) (0,[],0) ⟨rfl,rg,cntL⟩ (Le.refl _) ⟨rfl,Nat.zero_le _,MapI.nil⟩ ?_
  rintro⟨i,es,ck⟩ u ⟨rfl,hi,hM⟩
  simp only at hi hM
  dsimp only
  repeat (first|refine st ?_|refine qb fun bx=>?_)
  refine A0t rfl (fun h=>?_) (fun h=>?_)
  · replace h:=fa h
    have hlt:i<W.length:=oM
    obtain⟨b,off,q,c,e,fz,rfl,hv',hc⟩:=A9r hwr hlt
    have hw:=hW _ (List.getElem_mem hlt)
    have htake:W.take (i+1)=W.take i++[W[i]]:=List.take_succ_eq_append_getElem hlt
    have hmem:W[i]∈W:=List.getElem_mem hlt
    have hcell:=hc i hlt
    generalize W[i]=w at hcell hw htake hmem
    obtain⟨hand,_⟩:=and_val hw.1 ho256
    clear h
    repeat (first|refine st ?_|refine qb fun bx=>?_)
    refine A2t tab i rfl rfl rfl rfl rfl rfl rfl hlt ?_
    refine A2p tab rfl rfl rfl (hle _ _ _ _ hv') (x:=wlV w) (A2d tab rfl rfl rfl hcell) ?_
    repeat (first|refine st ?_|refine qb fun bx=>?_)
    rw [hand]
    refine Q_op fun ho=>A_lookup tab g_key (k:=w.1 &&& orG l) ho rfl rfl rfl rfl rfl rfl A5g ?_
    clear ho
    cases hfe:A3l (w.1 &&& orG l) es 0 with
    | none=>
      dsimp only
      repeat (first|refine st ?_|refine qb fun bx=>?_)
      refine S_start0 (v0:=v) [8,9] [0,1,2,3,4,5,6,7,8,9] rfl A1w kR (hle _ _) ?_
      repeat (first|refine st ?_|refine qb fun bx=>?_)
      rw [hand]
      repeat (first|refine st ?_|refine qb fun bx=>?_)
      refine A8d tab rfl rfl rfl kR rfl hv2 (x:=.int .i64 f) rfl ?_
      refine S_do kR (A0i [] _ rfl A9n rfl rfl rfl rfl rfl A1n (A9l hw.2 hf) (fun x β' hR=>⟨Le.refl _,?_,?_⟩))
      · exact kp
      obtain⟨rfl,rfl⟩:=hR
      refine S_do0 kR (A_mapNew tab g_key (k:=w.1 &&& orG l) rfl rfl rfl rfl rfl rfl A5g hfe ⟨?_,?_,?_⟩)
      · rw [A6p];exact hle _ _
      · exact kp
      rw [A6p]
      repeat (first|refine st ?_|refine qb fun bx=>?_)
      exact A0c ⟨(i+1,es++[(w.1 &&& orG l,.bool (bit w.2 f),ck)],ck+1),_,(show W.length-(i+1)<W.length-i by omega),⟨rfl,rg,cntL⟩,Le.refl _,rfl,hlt,by simp only;rw [htake];exact hM.new hfe⟩
    | some p=>
      obtain⟨j,y⟩:=p
      obtain⟨w',hw',hk',rfl⟩:=hM.all _ _ _ hfe
      dsimp only
      repeat (first|refine st ?_|refine qb fun bx=>?_)
      refine A2p tab rfl rfl rfl (hle _ _ _ _ hv2) (x:=.int .i64 f) rfl ?_
      refine Q_op fun ho=>A0s ho A9n rfl rfl rfl rfl rfl (A9l hw.2 hf) ?_
      clear ho
      repeat (first|refine st ?_|refine qb fun bx=>?_)
      by_cases hbb:bit w'.2 f=bit w.2 f
      · rw [show(!(bit w'.2 f==bit w.2 f))=false from by simp [hbb]]
        rw [hbb]at hfe
        obtain⟨_,bn,hjb⟩:=A8o hfe
        rw [Nat.sub_zero]at hjb
        have hset:es.set j (w.1 &&& orG l,.bool (bit w.2 f),bn)=es:=by
          refine List.ext_getElem? fun n=>?_
          rw [List.getElem?_set]
          by_cases e:j=n
          · subst e
            rw [if_pos rfl,hjb,if_pos (List.getElem?_eq_some_iff.1 hjb).1]
          · rw [if_neg e]
        repeat (first|refine st ?_|refine qb fun bx=>?_)
        refine S_start0 (v0:=v) [8,9] [0,1,2,3,4,5,6,7,8,9] rfl A1w kR (hle _ _) ?_
        repeat (first|refine st ?_|refine qb fun bx=>?_)
        rw [hand]
        repeat (first|refine st ?_|refine qb fun bx=>?_)
        refine A8d tab rfl rfl rfl kR rfl hv2 (x:=.int .i64 f) rfl ?_
        refine S_do kR (A0i [] _ rfl A9n rfl rfl rfl rfl rfl A1n (A9l hw.2 hf) (fun x β' hR=>⟨Le.refl _,?_,?_⟩))
        · exact kp
        obtain⟨rfl,rfl⟩:=hR
        refine S_do0 kR (A_mapOld tab g_key (k:=w.1 &&& orG l) rfl rfl rfl rfl rfl rfl A5g hfe hjb ⟨?_,?_,?_⟩)
        · rw [A6p];exact hle _ _
        · exact kp
        rw [A6p,hset]
        repeat (first|refine st ?_|refine qb fun bx=>?_)
        exact A0c ⟨(i+1,es,ck),_,(show W.length-(i+1)<W.length-i by omega),⟨rfl,rg,cntL⟩,Le.refl _,rfl,hlt,by simp only;rw [htake];exact hM.old hfe⟩
      · rw [show(!(bit w'.2 f==bit w.2 f))=true from by simp [hbb]]
        repeat (first|refine st ?_|refine qb fun bx=>?_)
        refine A0l tab [] (by exact .tmp rfl .nil) (Back.more (hle _ _)) ?_
        rw [proves_not (List.mem_of_mem_take hw') hmem hk' hbb]
        exact⟨rfl,rfl⟩
  · replace h:=fa h
    have hin:i=W.length:=oM
    subst hin
    rw [List.take_length]at hM
    clear h
    repeat (first|refine st ?_|refine qb fun bx=>?_)
    refine A0l tab [] (by exact .tmp rfl .nil) (Back.more (hle _ _)) ?_
    rw [hM.proves]
    exact⟨rfl,rfl⟩
end
end Go.Proofs.YtiolobmgibdfmaaGreat
end
section
namespace Go.Proofs.YtiolobmgibdfmaaGreat
open Go Go.Pal Go.Pal.Vo Go.Conc View
open Go.Proofs.Tryz
set_option maxHeartbeats 4000000
section
variable{v:View}{wa:Option Addr}{wc:Nat}
def proofL(P:Nat)(l:List Wl)(f:Nat):Option (List Nat):=(A2e P).find? fun x=>A9j l (orG x) f
def lackE(l:List Wl)(o:Option (List Nat)):Int:=if l.isEmpty then 11 else match o with
  | some _=>0
  | none=>11
theorem lackE_ne{l:List Wl}{o:Option (List Nat)}(h:l≠[]):lackE l o=match o with
  | some _=>0
  | none=>11:=by cases l with
  | nil=>exact absurd rfl h
  | cons x l=>rfl
def errPr(P F:Int)(ws:List Wd)(x:Int):Int:=if A2h P F ws=0 then(if 0≤x∧x≤F-1 then lackE (A0g P.toNat F.toNat ws) (proofL P.toNat (A0g P.toNat F.toNat ws) x.toNat)else 3)else A2h P F ws
def proofA(P F:Int)(ws:List Wd)(x:Int):List Nat:=if errPr P F ws x=0 then(proofL P.toNat (A0g P.toNat F.toNat ws) x.toNat).getD []else []
theorem Proof_x{P F:Int}{ws:List Wd}{x:Int}(hws:WdsAt v wa ws)(hwl:ws.length<2^30) :
    CallsB prog ⟨true,true⟩ 38 #[boV P F wa ws.length wc,.int .i64 x] (RetB fun r β'=>∃t,r = .tuple #[t,.int .i64 (errPr P F ws x)]∧ReadL v β' t (proofA P F ws x)) [] v:=by
  refine A3m tab A4x func38 rfl nB (args:=[_,_]) ?_
  unfold proofA
  repeat (first|refine st ?_|refine qb fun bx=>?_)
  refine Q_op fun ho=>A6x rfl ho rfl rfl ?_
  clear ho
  repeat (first|refine st ?_|refine qb fun bx=>?_)
  refine Q_op fun ho=>A6g ho bod79 rfl rfl rfl rfl (A6u (hws.le (A0b _ _)) hwl) (fun h=>?_) (fun h=>?_)
  · rw [show errPr P F ws x=A2h P F ws from if_neg h,if_neg h]
    refine pn ?_
    exact A2n tab rfl ib dM sb (xs:=[_,_]) (by exact .tmp rfl (.cell rfl ib rfl .nil)) (β':=[]) (Back.here fun p=>Nat.zero_le _) ⟨_,rfl,ReadL.nil⟩
  clear ho
  rw [show errPr P F ws x=if 0≤x∧x≤F-1 then lackE (A0g P.toNat F.toNat ws) (proofL P.toNat (A0g P.toNat F.toNat ws) x.toNat)else 3 from if_pos h]
  obtain⟨P,F,rfl,rfl,hv⟩:=A4w h
  simp only [Int.toNat_natCast]
  have hP4:=hv.p4
  have hF3:=hv.f3
  clear h
  repeat (first|refine st ?_|refine qb fun bx=>?_)
  refine Q_op fun ho=>A_needR ho bod94 rfl rfl rfl rfl (fact_x oM) (fun h=>?_) (fun h=>?_)
  · rw [if_neg (of_decide_eq_false h)]
    refine pn ?_
    exact A2n tab rfl ib dM sb (xs:=[_,_]) (by exact .tmp rfl (.cell rfl ib rfl .nil)) (β':=[]) (Back.here fun p=>Nat.zero_le _) ⟨_,rfl,ReadL.nil⟩
  clear ho
  have hx:=of_decide_eq_true h
  rw [if_pos hx]
  clear h
  obtain⟨f,rfl⟩:=Int.eq_ofNat_of_zero_le hx.1
  simp only [Int.toNat_natCast]
  repeat (first|refine st ?_|refine qb fun bx=>?_)
  rename_i b2 b3 b5
  refine Q_op fun ho=>B1u ho rfl rfl rfl rfl hv hws hwl (fun h=>?_) (fun hne a cap βw hS=>?_)
  · rw [h]
    refine pn ?_
    exact A2n tab rfl ib dM sb (xs:=[_,_]) (by exact .tmp rfl (.cell rfl ib rfl .nil)) (β':=[]) (Back.here fun p=>Nat.zero_le _) ⟨_,rfl,ReadL.nil⟩
  clear ho
  rw [lackE_ne hne]
  have hlen:=A4s (ws:=ws) hv.p4 hv.f3
  have hwlt:∀w∈A0g P F ws,w.1<256∧w.2<256:=fun w hw=>A4d hv.p4 hv.f3 hw
  generalize A0g P F ws=W at *
  repeat (first|refine st ?_|refine qb fun bx=>?_)
  rename_i b6
  rename A0j=>βw
  refine Q_op fun ho=>A0i [] _ ho bod87 rfl rfl rfl rfl rfl A1n (lists_x (n:=P) oM) (fun x β' hR=>?_)
  clear ho
  rename A0j=>βL
  refine A0w (β1:=βL++(βw++[(bx,#[Value.slice a W.length cap],93),(b3,#[Value.int .i64 f],3)])) (β2:=[(b6,(boV P F wa ws.length wc).cells,95),(b5,#[Value.int .i64 0],34),(b2,(boV P F wa ws.length wc).cells,24)])
    (show ∀p,Pal.cnt p (βL++(bx,#[Value.slice a W.length cap],93)::(βw++[(b6,(boV P F wa ws.length wc).cells,95),(b5,#[Value.int .i64 0],34),(b3,#[Value.int .i64 f],3),(b2,(boV P F wa ws.length wc).cells,24)]))=Pal.cnt p ((βL++(βw++[(bx,#[Value.slice a W.length cap],93),(b3,#[Value.int .i64 f],3)]))++[(b6,(boV P F wa ws.length wc).cells,95),(b5,#[Value.int .i64 0],34),(b2,(boV P F wa ws.length wc).cells,24)])from cntA) (fun hbk=>?_)
  have hv3:=A9c hbk (b:=b3) ib
  have hv7:=A9c hbk (b:=bx) ib
  have hrow:=RowAt.own hbk (show Subm βw (βL++(βw++[(bx,#[Value.slice a W.length cap],93),(b3,#[Value.int .i64 f],3)]))from cntL) hS
  obtain⟨aL,capL,rows,rfl,hrowL,hRL⟩:=hR.read hbk (show Subm βL (βL++(βw++[(bx,#[Value.slice a W.length cap],93),(b3,#[Value.int .i64 f],3)]))from cntL)
  have hlenL:=B3h (n:=P) oM
  repeat (first|refine st ?_|refine qb fun bx=>?_)
  refine Q_op fun ho=>A0i [] _ ho bod86 rfl rfl rfl rfl rfl A1n (first_x (p:=fun x=>A9j W (orG x) f) (A0b _ _) hrowL hRL oM bod95 (fun l hl ai ci u hle hrl=>proofF_x hrl (fun y hy=>by have:=(A7y (n:=P) oM hl).2.2 y hy;omega) (by have:=(A7y (n:=P) oM hl).1;omega) oM hwlt oM (RowAt.le hrow ((A0b _ _).trans hle)) (hle _ _ (A1p hv7)) (hle _ _ (A1p hv3)))) (fun x β' hR=>?_)
  clear ho
  obtain⟨hR,rfl⟩:=hR
  unfold proofL
  cases hfo:(A2e P).find? (fun x=>A9j W (orG x) f)with
  | none=>
    rw [hfo]at hR
    subst hR
    repeat (first|refine st ?_|refine qb fun bx=>?_)
    refine Q_op fun ho=>A3d ho rfl rfl rfl rfl (fun _=>?_) (fun h=>by cases h)
    refine pn ?_
    exact A2n tab rfl ib dM sb (xs:=[_,_]) (by exact .tmp rfl (.cell rfl ib rfl .nil)) (β':=[]) (Back.forget hbk (Back.here fun p=>Nat.zero_le _)) ⟨_,rfl,ReadL.nil⟩
  | some l=>
    rw [hfo]at hR
    obtain⟨ai,ci,rfl,hrl⟩:=hR
    repeat (first|refine st ?_|refine qb fun bx=>?_)
    refine Q_op fun ho=>A3d ho rfl rfl rfl rfl (fun h=>by cases h) (fun _=>?_)
    clear ho
    repeat (first|refine st ?_|refine qb fun bx=>?_)
    exact A6e tab rfl (β':=[]++(βL++(βw++[(bx,#[Value.slice a W.length cap],93),(b3,#[Value.int .i64 f],3)]))) (xs:=[_,_]) (by exact .tmp rfl (.cell rfl ib rfl .nil)) (Back.retired hbk (Back.here fun p=>Nat.zero_le _)) ⟨_,rfl,ai,ci,rfl,hrl⟩
end
end Go.Proofs.YtiolobmgibdfmaaGreat
end
section
namespace Go.Pal
open Go Go.Conc View
section
variable{P:Program}{mn:Who}(T:Tab P){rd:Option Nat}{n:Nat}{Q:Exit→St→View→Prop}{ds:List Deferred}{ρ:Regs}{β:A0j}{v:View}
  {ops:Array Oper}{i k:Nat}{S:List Rec}{done:List Nat}{ms:List Nat}{v0:View}{todo:List Nat}
def twoB(ops:Array Oper)(ms done:List Nat)(i k:Nat):Bool:=(Region.ready .any ops (mkL ops done)).contains i&&(Region.ready .any ops (mkL ops done)).all (fun j=>Nat.beq j i||Nat.beq j k)&&ms.contains i&&ms.contains k
theorem S_two(k:Nat)(hB:twoB ops ms done i k=true)(h1:XOp P mn (some 4294967295) n ops i (fun _ _ _=>False) (fun σ' u=>v.Le u∧KeepS ops i S σ'.β∧XS P mn n ops ms v0 Q (k::todo) S (i::done) σ' u) ⟨ds,ρ,β⟩ v)
    (h2:XOp P mn (some 4294967295) n ops k (fun _ _ _=>False) (fun σ' u=>v.Le u∧KeepS ops k S σ'.β∧XS P mn n ops ms v0 Q (i::todo) S (k::done) σ' u) ⟨ds,ρ,β⟩ v):XS P mn n ops ms v0 Q (i::k::todo) S done ⟨ds,ρ,β⟩ v:=fun a hf hb hv hc=>by
  simp only [twoB,Bool.and_eq_true]at hB
  obtain⟨⟨⟨hb1,hb2⟩,hb3⟩,hb4⟩:=hB
  have hri:i∈Region.ready .any ops (mkL ops done):=by simpa using hb1
  show AnyS P mn ops ms v0 (fun a u=>Post n Q .normal a u) (todo.length+1+1) (SV S) (mkL ops done) a (v.union (A0e β))
  refine⟨fun e=>(by rw [e]at hri;cases hri),fun j hj=>?_⟩
  have hr:=hj
  have hx:ms.contains j=true∧XOp P mn (some 4294967295) n ops j (fun _ _ _=>False) (fun σ' u=>v.Le u∧KeepS ops j S σ'.β∧XS P mn n ops ms v0 Q (k::todo) S (j::done) σ' u) ⟨ds,ρ,β⟩ v:=by
    have hji:=List.all_eq_true.1 hb2 j hj
    rw [Bool.or_eq_true]at hji
    rcases hji with hji|hji
    · have:=Nat.eq_of_beq_eq_true hji;subst this;exact⟨hb3,h1⟩
    · have:=Nat.eq_of_beq_eq_true hji;subst this;exact⟨hb4,h2⟩
  obtain⟨h3,h⟩:=hx
  obtain⟨o,ho,hw,hd,hs⟩:=h a hf hb
  unfold OpS
  simp only [ho,hw,if_true]
  have key:∀{a' w},KP n (fun σ' u=>v.Le u∧KeepS ops j S σ'.β∧XS P mn n ops ms v0 Q (k::todo) S (j::done) σ' u) a' w→Keeps ops ms v0 (SV S) j (v.union (A0e β)) w∧AnyS P mn ops ms v0 (fun a u=>Post n Q .normal a u) (todo.length+1) (SV S) ((mkL ops done).setIfInBounds j true) a' w:=by
    rintro a' w ⟨σ',u,⟨hl,hk,hx⟩,hf',hb',hw'⟩
    refine⟨?_,?_⟩
    · unfold Keeps
      rw [if_pos h3]
      refine⟨((hv.trans hl).trans (A0b _ _)).trans hw',fun p hp hdp=>?_⟩
      obtain⟨b,c,t,he,hin⟩:=A8l hk p hp hdp
      rw [he]
      intro j' x e
      simp only [A0e]at e
      split at e
      · rename_i hj';subst hj';cases e;exact hw' _ _ (A1f hb' hin)
      · cases e
    · exact A6c (K:=fun a u=>Post n Q .normal a u) (fun a u v hl hp=>post_le hl hp) _ _ _ _ _ _ hw' (hx _ hf' hb' (hv.trans hl) (A7f hc hr B0g))
  refine A2c _ (fun nx w hK=>?_) (fun x w hE=>?_) hs
  · cases nx with
    | value x=>exact key hK
    | skip=>exact key hK
    | defer d=>exact absurd hK.1 sM
    | enter f args=>exact CallsX.mono hK fun e w' hR=>⟨w',Le.refl _,by
        cases e with
        | ret x=>exact key hR
        | pan ch=>obtain⟨_,_,hq,_⟩:=hR;exact hq⟩
    | round l f tmps assign body=>exact absurd rfl hK.1
    | _=>exact hK.elim
  · obtain⟨_,_,hq,_⟩:=hE;exact hq
end
end Go.Pal
end
section
namespace Go.Proofs.YtiolobmgibdfmaaGreat
open Go Go.Pal Go.Pal.Vo Go.Conc View
open Go.Proofs.Tryz
set_option maxHeartbeats 4000000
section
variable{mn:Who}{v:View}
theorem sameInts_x{l m:List Int}{a b:Option Addr}{c1 c2:Nat}(hl:RowAt v a (l.map (.int .i64)))(hm:RowAt v b (m.map (.int .i64)))(h1:l.length<2^30)(h2:m.length<2^30):Ret1 prog mn 35 [.slice a l.length c1,.slice b m.length c2] (.bool (decide (l=m))) v:=by
  refine A0f tab func35 rfl nB (args:=[_,_]) ?_
  repeat (first|refine st ?_|refine qb fun bx=>?_)
  refine A1o (α:=Nat) (fun i=>⟨[],[(5,.int .i64 i),(0,.slice a l.length c1),(1,.slice b m.length c2)],[]⟩)
    (fun i u=>u=v∧i≤l.length∧i≤m.length∧l.take i=m.take i) (fun i=>l.length-i) 0 ⟨rfl,rg,cntL⟩ (Le.refl _) ⟨rfl,Nat.zero_le _,Nat.zero_le _,rfl⟩ ?_
  rintro i u ⟨rfl,hi,hi',hp⟩
  have hend:¬(i<l.length∧i<m.length)→Value.bool (((l.length:Nat):Int)==((m.length:Nat):Int))=Value.bool (decide (l=m)):=fun hn=>by
    congr 1
    rw [Bool.eq_iff_iff,beq_iff_eq,decide_eq_true_eq]
    constructor
    · intro e
      have e':l.length=m.length:=oM
      have h3:l.take i=l:=List.take_of_length_le oM
      have h4:m.take i=m:=List.take_of_length_le oM
      rw [←h3,←h4,hp]
    · intro e;rw [e]
  repeat (first|refine st ?_|refine qb fun bx=>?_)
  refine A6d rfl rfl (fun h=>?_) (fun h=>?_)
  · replace h:=fa h
    have hlt:i<l.length:=oM
    clear h
    repeat (first|refine st ?_|refine qb fun bx=>?_)
    refine A0t rfl (fun h=>?_) (fun h=>?_)
    · replace h:=fa h
      have hlt':i<m.length:=oM
      obtain⟨b1,o1,p1,k1,e1,f1,rfl,hv1,hc1⟩:=hl.ints hlt
      obtain⟨b2,o2,p2,k2,e2,f2,rfl,hv2,hc2⟩:=hm.ints hlt'
      clear h
      repeat (first|refine st ?_|refine qb fun bx=>?_)
      refine A2i tab i rfl rfl rfl rfl rfl rfl rfl hlt ?_
      refine A9d tab rfl rfl rfl hv1 (A1b tab rfl rfl rfl (by rw [Nat.mul_one];exact hc1 i hlt)) ?_
      repeat (first|refine st ?_|refine qb fun bx=>?_)
      refine A2i tab i rfl rfl rfl rfl rfl rfl rfl hlt' ?_
      refine A9d tab rfl rfl rfl hv2 (A1b tab rfl rfl rfl (by rw [Nat.mul_one];exact hc2 i hlt')) ?_
      repeat (first|refine st ?_|refine qb fun bx=>?_)
      refine A0t rfl (fun h=>?_) (fun h=>?_)
      · have h:l[i]≠m[i]:=by simpa using h
        repeat (first|refine st ?_|refine qb fun bx=>?_)
        refine A0l tab [] (by exact .tmp rfl .nil) (Back.here cntL) ?_
        have:decide (l=m)=false:=decide_eq_false fun e=>h (by subst e;rfl)
        rw [this];exact⟨rfl,rfl⟩
      · have h:l[i]=m[i]:=by simpa using h
        repeat (first|refine st ?_|refine qb fun bx=>?_)
        refine A0c ⟨i+1,_,(by have:=hlt;omega),⟨rfl,rg,cntL⟩,Le.refl _,rfl,hlt,hlt',?_⟩
        rw [List.take_succ_eq_append_getElem hlt,List.take_succ_eq_append_getElem hlt',hp,h]
    · replace h:=fa h
      have hge:¬(i<l.length∧i<m.length):=oM
      clear h
      repeat (first|refine st ?_|refine qb fun bx=>?_)
      refine A0l tab [] (by exact .tmp rfl .nil) (Back.here cntL) ?_
      exact⟨hend hge,rfl⟩
  · replace h:=fa h
    have hge:¬(i<l.length∧i<m.length):=oM
    clear h
    repeat (first|refine st ?_|refine qb fun bx=>?_)
    refine A0l tab [] (by exact .tmp rfl .nil) (Back.here cntL) ?_
    exact⟨hend hge,rfl⟩
theorem nat_row{a:Option Addr}{l:List Nat}(h:RowAt v a (l.map natV)):RowAt v a ((l.map Int.ofNat).map (.int .i64)):=by
  rw [List.map_map];exact h
theorem nat_inj{l m:List Nat}:(l.map Int.ofNat=m.map Int.ofNat)↔l=m:=⟨fun h=>(List.map_inj_right fun _ _ h=>Int.ofNat.inj h).1 h,fun h=>by rw [h]⟩
theorem A7c{l m:List Nat}{a b:Option Addr}{c1 c2:Nat}(hl:RowAt v a (l.map natV))(hm:RowAt v b (m.map natV))(h1:l.length<2^30)(h2:m.length<2^30):Ret1 prog mn 35 [.slice a l.length c1,.slice b m.length c2] (.bool (decide (l=m))) v:=by
  have:=sameInts_x (mn:=mn) (c1:=c1) (c2:=c2) (nat_row hl) (nat_row hm) (by simpa using h1) (by simpa using h2)
  simp only [List.length_map,nat_inj]at this
  exact this
theorem sameWorlds_x{l1 l2 m1 m2:List Nat}{a1 a2 b1 b2:Option Addr}{c1 c2 d1 d2:Nat}(h1:RowAt v a1 (l1.map natV))(h2:RowAt v a2 (l2.map natV))(k1:RowAt v b1 (m1.map natV))(k2:RowAt v b2 (m2.map natV))(hl1:l1.length<2^30)(hl2:l2.length<2^30)(hm1:m1.length<2^30)(hm2:m2.length<2^30) :
    Ret1 prog mn 31 [wldV a1 l1.length c1 a2 l2.length c2,wldV b1 m1.length d1 b2 m2.length d2] (.bool (decide (l1=m1)&&decide (l2=m2))) v:=by
  refine A0f tab func31 rfl nB (args:=[_,_]) ?_
  repeat (first|refine st ?_|refine qb fun bx=>?_)
  refine Q_op fun ho=>A0s ho bod35 rfl rfl rfl rfl rfl (A7c h1 k1 hl1 hm1) ?_
  clear ho
  cases hd:decide (l1=m1)with
  | true=>
    repeat (first|refine st ?_|refine qb fun bx=>?_)
    refine Q_op fun ho=>A0s ho bod35 rfl rfl rfl rfl rfl (A7c h2 k2 hl2 hm2) ?_
    clear ho
    repeat (first|refine st ?_|refine qb fun bx=>?_)
    refine A0l tab [] (by exact .tmp rfl .nil) (Back.here cntL) ?_
    exact⟨rfl,rfl⟩
  | false=>
    repeat (first|refine st ?_|refine qb fun bx=>?_)
    refine A0l tab [] (by exact .tmp rfl .nil) (Back.here cntL) ?_
    exact⟨rfl,rfl⟩
theorem B1o{a b c d:Int}:Ret1 prog mn 74 [.int .i64 a,.int .i64 b,.int .i64 c,.int .i64 d] (wdV ⟨a,b,c,d⟩) v:=by
  refine A0f tab func74 rfl nB (args:=[_,_,_,_]) ?_
  repeat (first|refine st ?_|refine qb fun bx=>?_)
  refine A0l tab (xs:=[wdV ⟨a,b,c,d⟩]) [] (by exact .cell rfl ib rfl .nil) (Back.here fun p=>Nat.zero_le _) ⟨rfl,rfl⟩
def OwnV(β:A0j)(r:Value)(P F:Int)(ws:List Wd):Prop:=∃a cap,r=boV P F a ws.length cap∧OwnS 26 4 β a ws.length cap (ws.map wdC).flatten
theorem wds_one(ws:List Wd):(ws.map wdC).flatten.all A3z=true:=by
  induction ws with
  | nil=>rfl
  | cons x l ih=>rw [List.map_cons,List.flatten_cons,List.all_append,ih];rfl
theorem with_x{P F:Int}{wa:Option Addr}{wc:Nat}{ws:List Wd}{x:Wd}(hws:WdsAt v wa ws)(hwl:ws.length<2^20):CallsB prog mn 64 #[boV P F wa ws.length wc,wdV x] (RetB fun r β'=>OwnV β' r P F (ws++[x])) [] v:=by
  refine A0f tab func64 rfl nB (args:=[_,_]) ?_
  repeat (first|refine st ?_|refine qb fun bx=>?_)
  rename_i bx2 bx3
  refine A2u [0,3,5,6,8] [1,2,4,0,5,3,6,7,8] A1w rfl kR ?_
  repeat (first|refine st ?_|refine qb fun bx=>?_)
  refine S_two 5 kR (A3x tab rfl rfl rfl rfl rfl rfl rfl rfl rfl rfl (fun b3 c3 hL=>⟨Le.refl _,kp,?_⟩)) (A3x tab rfl rfl rfl rfl rfl rfl rfl rfl rfl rfl (fun b5 c5 hL5=>⟨Le.refl _,kp,?_⟩))
  · refine S_two 3 kR (A3x tab rfl rfl rfl rfl rfl rfl rfl rfl rfl rfl (fun b5 c5 hL5=>⟨Le.refl _,kp,?_⟩)) (A2w tab (xs:=(ws.map wdC).flatten) [(b3,c3,26)] [] ([(bx,(Value.agg #[Value.int .i64 0,Value.int .i64 0,Value.slice none 0 0]).cells,24),(bx3,(wdV x).cells,26),(bx2,(boV P F wa ws.length wc).cells,24)]) rfl rfl rfl rfl rfl rfl rfl rfl rfl rfl rfl cntA hL (fun hb=>RowAt.le hws (A0b _ _)) (A4m ws) (wds_one ws) (by show(2*(0+ws.length)+768)*32≤2^48;omega) oM (fun seg2 a2 cap2 hS2=>⟨Le.refl _,kp,?_⟩))
    · refine S_do kR (A2w tab (xs:=(ws.map wdC).flatten) [(b3,c3,26)] [] ((b5,c5,26)::[(bx,(Value.agg #[Value.int .i64 0,Value.int .i64 0,Value.slice none 0 0]).cells,24),(bx3,(wdV x).cells,26),(bx2,(boV P F wa ws.length wc).cells,24)]) rfl rfl rfl rfl rfl rfl rfl rfl rfl rfl rfl cntA hL (fun hb=>RowAt.le hws (A0b _ _)) (A4m ws) (wds_one ws) (by show(2*(0+ws.length)+768)*32≤2^48;omega) oM (fun seg2 a2 cap2 hS2=>⟨Le.refl _,kp,?_⟩))
      repeat (refine ss ?_)
      rw [Nat.zero_add]at hS2
      have e0:(0+ws.length)=ws.length:=Nat.zero_add _
      refine S_do kR (A2w tab (len:=0+ws.length) (xs:=wdC x) seg2 [(b5,c5,26)] [(bx,(Value.agg #[Value.int .i64 0,Value.int .i64 0,Value.slice none 0 0]).cells,24),(bx3,(wdV x).cells,26),(bx2,(boV P F wa ws.length wc).cells,24)] rfl rfl rfl rfl rfl rfl rfl rfl rfl rfl rfl cntA (by rw [e0];exact hS2) (fun hb=>RowAt.own hb cntL hL5) rfl rfl (by show(2*(0+ws.length+1)+768)*32≤2^48;omega) oM (fun seg6 a6 cap6 hS6=>⟨Le.refl _,kp,?_⟩))
      rw [e0]at hS6⊢
      repeat (first|refine st ?_|refine qb fun bx=>?_)
      refine A0l tab (xs:=[boV P F a6 (ws.length+1) cap6]) seg6 (by exact .cell rfl ib rfl .nil) (Back.here cntL) ?_
      exact⟨a6,cap6,by rw [List.length_append];rfl,by rw [List.length_append,List.map_append,List.flatten_append];exact hS6⟩
    · refine S_do kR (A3x tab rfl rfl rfl rfl rfl rfl rfl rfl rfl rfl (fun b5 c5 hL5=>⟨Le.refl _,kp,?_⟩))
      repeat (refine ss ?_)
      rw [Nat.zero_add]at hS2
      have e0:(0+ws.length)=ws.length:=Nat.zero_add _
      refine S_do kR (A2w tab (len:=0+ws.length) (xs:=wdC x) seg2 [(b5,c5,26)] [(bx,(Value.agg #[Value.int .i64 0,Value.int .i64 0,Value.slice none 0 0]).cells,24),(bx3,(wdV x).cells,26),(bx2,(boV P F wa ws.length wc).cells,24)] rfl rfl rfl rfl rfl rfl rfl rfl rfl rfl rfl cntA (by rw [e0];exact hS2) (fun hb=>RowAt.own hb cntL hL5) rfl rfl (by show(2*(0+ws.length+1)+768)*32≤2^48;omega) oM (fun seg6 a6 cap6 hS6=>⟨Le.refl _,kp,?_⟩))
      rw [e0]at hS6⊢
      repeat (first|refine st ?_|refine qb fun bx=>?_)
      refine A0l tab (xs:=[boV P F a6 (ws.length+1) cap6]) seg6 (by exact .cell rfl ib rfl .nil) (Back.here cntL) ?_
      exact⟨a6,cap6,by rw [List.length_append];rfl,by rw [List.length_append,List.map_append,List.flatten_append];exact hS6⟩
  · refine S_do kR (A3x tab rfl rfl rfl rfl rfl rfl rfl rfl rfl rfl (fun b3 c3 hL=>⟨Le.refl _,kp,?_⟩))
    refine S_do kR (A2w tab (xs:=(ws.map wdC).flatten) [(b3,c3,26)] [] ((b5,c5,26)::[(bx,(Value.agg #[Value.int .i64 0,Value.int .i64 0,Value.slice none 0 0]).cells,24),(bx3,(wdV x).cells,26),(bx2,(boV P F wa ws.length wc).cells,24)]) rfl rfl rfl rfl rfl rfl rfl rfl rfl rfl rfl cntA hL (fun hb=>RowAt.le hws (A0b _ _)) (A4m ws) (wds_one ws) (by show(2*(0+ws.length)+768)*32≤2^48;omega) oM (fun seg2 a2 cap2 hS2=>⟨Le.refl _,kp,?_⟩))
    repeat (refine ss ?_)
    rw [Nat.zero_add]at hS2
    have e0:(0+ws.length)=ws.length:=Nat.zero_add _
    refine S_do kR (A2w tab (len:=0+ws.length) (xs:=wdC x) seg2 [(b5,c5,26)] [(bx,(Value.agg #[Value.int .i64 0,Value.int .i64 0,Value.slice none 0 0]).cells,24),(bx3,(wdV x).cells,26),(bx2,(boV P F wa ws.length wc).cells,24)] rfl rfl rfl rfl rfl rfl rfl rfl rfl rfl rfl cntA (by rw [e0];exact hS2) (fun hb=>RowAt.own hb cntL hL5) rfl rfl (by show(2*(0+ws.length+1)+768)*32≤2^48;omega) oM (fun seg6 a6 cap6 hS6=>⟨Le.refl _,kp,?_⟩))
    rw [e0]at hS6⊢
    repeat (first|refine st ?_|refine qb fun bx=>?_)
    refine A0l tab (xs:=[boV P F a6 (ws.length+1) cap6]) seg6 (by exact .cell rfl ib rfl .nil) (Back.here cntL) ?_
    exact⟨a6,cap6,by rw [List.length_append];rfl,by rw [List.length_append,List.map_append,List.flatten_append];exact hS6⟩
end
end Go.Proofs.YtiolobmgibdfmaaGreat
end
section
namespace Go.Proofs.YtiolobmgibdfmaaGreat
open Go Go.Pal Go.Pal.Vo Go.Conc View
open Go.Proofs.Tryz
set_option maxHeartbeats 4000000
set_option maxRecDepth 20000
def mareW:List Wd:=[⟨0,2,1,0⟩,⟨1,0,0,0⟩,⟨2,5,0,1⟩]
def moreW:List Wd:=[⟨0,2,1,0⟩,⟨1,0,0,0⟩,⟨2,5,0,1⟩,⟨0,0,0,0⟩]
def itselfW:List Wd:=[⟨0,2,0,0⟩]
def eachW:List Wd:=[⟨0,3,1,0⟩,⟨1,3,0,0⟩]
section
variable{mn:Who}{v:View}
theorem mare_x:CallsB prog mn 73 #[] (RetB fun r β'=>OwnV β' r 3 1 mareW) [] v:=by
  refine A0f tab func73 rfl nB (args:=[]) ?_
  repeat (first|refine st ?_|refine qb fun bx=>?_)
  refine Q_op fun ho=>A0s ho bod74 rfl rfl rfl rfl rfl B1o ?_
  clear ho
  refine Q_op fun ho=>A0s ho bod74 rfl rfl rfl rfl rfl B1o ?_
  clear ho
  refine Q_op fun ho=>A0s ho bod74 rfl rfl rfl rfl rfl B1o ?_
  clear ho
  refine Q_op fun ho=>A3x tab ho rfl rfl rfl rfl rfl rfl rfl rfl rfl (fun b c hS=>?_)
  clear ho
  repeat (first|refine st ?_|refine qb fun bx=>?_)
  refine A0l tab (xs:=[boV 3 1 (some ⟨b,0,none⟩) 3 3]) [(b,c,26)] (by exact .cell rfl ib rfl .nil) (Back.here cntL) ?_
  exact⟨_,_,rfl,hS⟩
theorem itself_x:CallsB prog mn 76 #[] (RetB fun r β'=>OwnV β' r 1 0 itselfW) [] v:=by
  refine A0f tab func76 rfl nB (args:=[]) ?_
  repeat (first|refine st ?_|refine qb fun bx=>?_)
  refine Q_op fun ho=>A0s ho bod74 rfl rfl rfl rfl rfl B1o ?_
  clear ho
  refine Q_op fun ho=>A3x tab ho rfl rfl rfl rfl rfl rfl rfl rfl rfl (fun b c hS=>?_)
  clear ho
  repeat (first|refine st ?_|refine qb fun bx=>?_)
  refine A0l tab (xs:=[boV 1 0 (some ⟨b,0,none⟩) 1 1]) [(b,c,26)] (by exact .cell rfl ib rfl .nil) (Back.here cntL) ?_
  exact⟨_,_,rfl,hS⟩
theorem each_x:CallsB prog mn 77 #[] (RetB fun r β'=>OwnV β' r 2 0 eachW) [] v:=by
  refine A0f tab func77 rfl nB (args:=[]) ?_
  repeat (first|refine st ?_|refine qb fun bx=>?_)
  refine Q_op fun ho=>A0s ho bod74 rfl rfl rfl rfl rfl B1o ?_
  clear ho
  refine Q_op fun ho=>A0s ho bod74 rfl rfl rfl rfl rfl B1o ?_
  clear ho
  refine Q_op fun ho=>A3x tab ho rfl rfl rfl rfl rfl rfl rfl rfl rfl (fun b c hS=>?_)
  clear ho
  repeat (first|refine st ?_|refine qb fun bx=>?_)
  refine A0l tab (xs:=[boV 2 0 (some ⟨b,0,none⟩) 2 2]) [(b,c,26)] (by exact .cell rfl ib rfl .nil) (Back.here cntL) ?_
  exact⟨_,_,rfl,hS⟩
theorem more_x:CallsB prog mn 75 #[] (RetB fun r β'=>OwnV β' r 3 1 moreW) [] v:=by
  refine A0f tab func75 rfl nB (args:=[]) ?_
  repeat (first|refine st ?_|refine qb fun bx=>?_)
  refine Q_op fun ho=>A0i [] _ ho bod73 rfl rfl rfl rfl rfl A1n (mare_x) (fun x β' hR=>?_)
  clear ho
  obtain⟨a,cap,rfl,hS⟩:=hR
  refine A0w (β1:=β') (β2:=_) (fun _=>rfl) (fun hb=>?_)
  have hws:WdsAt (v.union (A0e β')) a mareW:=A2m hb hS
  refine Q_op fun ho=>A0s ho bod74 rfl rfl rfl rfl rfl B1o ?_
  clear ho
  rename A0j=>βm
  refine Q_op fun ho=>A0i [] _ ho bod64 rfl rfl rfl rfl rfl A1n (with_x (x:=⟨0,0,0,0⟩) (hws.le (A0b _ _)) dM) (fun x β' hR=>?_)
  clear ho
  obtain⟨a',cap',rfl,hS'⟩:=hR
  repeat (first|refine st ?_|refine qb fun bx=>?_)
  refine A0l tab (xs:=[boV 3 1 a' 4 cap']) β' (by exact .cell rfl ib rfl .nil) (Back.forget hb (Back.here cntL)) ?_
  exact⟨_,_,rfl,hS'⟩
abbrev A5u(a b:Int):Value:=.agg #[.int .i64 a,.int .i64 b]
theorem i64_eq{d:Nat}{x y:Int}{K:Bool→View→Prop}{E:Value→View→Prop}(h:K (x==y) v):SemX prog (Op.equalIn (d+1) 3 (.int .i64 x) (.int .i64 y)) K E v:=by
  unfold Op.equalIn
  rw [A0d,A1r tab (t:=3) rfl]
  simp only [if_true]
  exact h
theorem B2b{cs:Array Value}{off:Nat}{x:Value}{K:Value→View→Prop}{E:Value→View→Prop}(hx:cs[off]?=some x)(h:K x v):SemX prog (part 3 cs off) K E v:=by
  unfold part
  simp only [A0d]
  rw [B1y (tab.und_ok 3 _ rfl)]
  simp only [aggOf,Bool.false_eq_true,if_false,hx]
  exact h
theorem range_eq{a b c d:Int}{K:Bool→View→Prop}{E:Value→View→Prop}(h:K (decide (a=c∧b=d)) v):SemX prog (Op.equal 42 (A5u a b) (A5u c d)) K E v:=by
  have hs:prog.stoodInHeld 42=false:=by kernel_rfl
  show SemX prog (Op.equalIn (9998+1+1) 42 _ _) K E v
  unfold Op.equalIn
  rw [A0d,A1r tab (t:=42) rfl]
  simp only [A0d,A3v,hs,Bool.false_eq_true,if_false,List.forIn_toArray,List.forIn_cons,List.forIn_nil]
  rw [if_pos dM]
  simp only [A0d]
  refine B2b (x:=.int .i64 a) rfl ?_
  refine B2b (x:=.int .i64 c) rfl ?_
  refine i64_eq ?_
  by_cases h1:a=c
  · rw [show(a==c)=true from by simp [h1]]
    simp only [Bool.not_true,Bool.false_eq_true,if_false,A0m,A0d]
    rw [if_pos dM]
    simp only [A0d]
    refine B2b (x:=.int .i64 b) rfl ?_
    refine B2b (x:=.int .i64 d) rfl ?_
    refine i64_eq ?_
    by_cases h2:b=d
    · rw [show(b==d)=true from by simp [h2]]
      rw [show decide (a=c∧b=d)=true from decide_eq_true ⟨h1,h2⟩]at h
      exact h
    · rw [show(b==d)=false from by simp [h2]]
      rw [show decide (a=c∧b=d)=false from decide_eq_false fun e=>h2 e.2]at h
      exact h
  · rw [show(a==c)=false from by simp [h1]]
    rw [show decide (a=c∧b=d)=false from decide_eq_false fun e=>h1 e.1]at h
    exact h
end
section
variable{mn:Who}{rd:Option Nat}{n:Nat}{Q:Exit→St→View→Prop}{ds:List Deferred}{ρ:Regs}{β:A0j}{v:View}{K:St→View→Prop}
  {ops:Array Oper}{i:Nat}{d:Nat}{ty:TypeId}{pos:String}{af:Array Edge}{gu:Option (Nat×Bool)}
theorem A_eqlR{y z:Operand}{t2:TypeId}{a b c e:Int}(ho:ops[i]?=some ⟨some d,.binOp .eql 42 y z t2,ty,pos,af,gu⟩)(hw:A0x ops gu ρ=some true)(hn:Nat.blt d n=true)(hy:ρ.val y=some (A5u a b))(hz:ρ.val z=some (A5u c e))
    (h:K ⟨ds,(d,.bool (decide (a=c∧b=e)))::ρ,β⟩ v):XOp prog mn rd n ops i Q K ⟨ds,ρ,β⟩ v:=by
  refine A2x ho (A0p hw) (.inr rfl) hn fun ev hev hbk=>?_
  have hg:prog.eqGuardType prog.depth 42=false:=by kernel_rfl
  simp only [execOp,A0d,hev _ _ hy,hev _ _ hz,eqGuard,binOp,A3v,hg]
  simp only [Bool.not_true,Bool.false_eq_true,if_false,A0d]
  rw [A3v,A3v,hg]
  simp only [Bool.not_true,Bool.not_false,Bool.false_eq_true,if_false,if_true,A0m,A0d]
  refine range_eq ?_
  exact⟨β,v,⟨hbk,Le.refl _⟩,h⟩
end
theorem mare_known:A2h 3 1 mareW=0∧(A0g 3 1 mareW).length=2∧errF 3 1 mareW ⟨0,6,2,0⟩=0∧verd (A0g 3 1 mareW) (A4h 3 ⟨0,6,2,0⟩)=1∧errWr 3 1 mareW [0,1] [0]=0∧wrongL 3 mareW [0,1] [0]=[0,2]:=by decide +kernel
theorem more_known:errS 3 1 moreW=0∧(wlsE 3 1 moreW).headD (0,0)=(4,0)∧errA 3 1 moreW=0∧(askS (A0g 3 1 moreW) 3).v=1∧(askS (A0g 3 1 moreW) 3).n=1∧errPr 3 1 moreW 0=0∧proofA 3 1 moreW 0=[1]:=by decide +kernel
theorem each_known:errS 2 0 eachW=0∧wlsE 2 0 eachW=[(3,0),(0,0)]∧errN 2 2 0 eachW 0=0∧verd (someL true (A0g 2 0 eachW)) (fun w=>bit w.1 0)=1:=by decide +kernel
theorem itself_known:A2h 1 0 itselfW=0∧B2w 1 0 itselfW=[0]:=by decide +kernel
end Go.Proofs.YtiolobmgibdfmaaGreat
end
section
namespace Go.Proofs.YtiolobmgibdfmaaGreat
open Go Go.Pal Go.Pal.Vo Go.Conc View
open Go.Proofs.Tryz
set_option maxHeartbeats 4000000
section
variable{v:View}{wa:Option Addr}{wc:Nat}
def ReadV(v:View)(β:A0j)(r:Value)(P F:Int)(ws:List Wd):Prop:=∃a cap,r=boV P F a ws.length cap∧ws.length≤cap∧WdsAt (v.union (A0e β)) a ws
theorem ReadV.zero{β:A0j}:ReadV v β (.agg #[.int .i64 0,.int .i64 0,.slice none 0 0]) 0 0 []:=⟨none,0,rfl,Nat.le_refl _,.inl rfl⟩
end
structure Bg where
  b:Nat
  a:Option Addr
  cap:Nat
  ns:List Int
def Bg.On(g:Bg)(n:Nat)(β:A0j):Prop:=∃(t:Nat) (sx:Int),t≤n∧β=[(g.b,#[.slice g.a g.ns.length g.cap,.int .i64 t,.int .u64 sx],90)]
def Bg.ok(g:Bg)(v:View):Prop:=RowAt v g.a (g.ns.map (.int .i64))
def Bg.ptr(g:Bg):Value:=.pointer (some ⟨g.b,0,none⟩)
theorem Bg.ok.le{g:Bg}{u v:View}(h:g.ok u)(hl:u.Le v):g.ok v:=RowAt.le h hl
theorem Bg.On.le{g:Bg}{n m:Nat}{β:A0j}(h:g.On n β)(hl:n≤m):g.On m β:=by
  obtain⟨t,sx,ht,he⟩:=h
  exact⟨t,sx,Nat.le_trans ht hl,he⟩
theorem wrapu_nonneg(x:Int):0≤IntKind.u64.wrap x∧IntKind.u64.wrap x<2^64:=by
  simp only [IntKind.wrap,IntKind.signed,IntKind.bits]
  simp
  omega
theorem fdiv_range{x:Int}(h:0≤x∧x<2^64)(k:Nat):0≤x.fdiv (2 ^ k)∧x.fdiv (2 ^ k)<2^64:=by
  have hp:(0:Int)<2 ^ k:=Int.pow_pos dM
  rw [Int.fdiv_eq_ediv_of_nonneg _ (Int.le_of_lt hp)]
  refine⟨Int.ediv_nonneg h.1 (Int.le_of_lt hp),Int.lt_of_le_of_lt ?_ h.2⟩
  exact Int.ediv_le_self _ h.1
theorem wrapu{x:Int}(h0:0≤x)(h1:x<2^64):IntKind.u64.wrap x=x:=by
  simp only [IntKind.wrap,IntKind.signed,IntKind.bits]
  simp
  omega
theorem A0k{bin rest:A0j}:∀p,Pal.cnt p (bin++rest)=Pal.cnt p (bin++rest):=fun _=>rfl
theorem A0u{bin rest:A0j}:∀p,Pal.cnt p (List.append bin rest)=Pal.cnt p (bin++rest):=fun _=>rfl
theorem A1e{bin:A0j}:∀p,Pal.cnt p bin=Pal.cnt p (bin++[]):=fun p=>by rw [List.append_nil]
theorem A0y{x:Nat×Array Value×TypeId}{β bin rest:A0j}(h:∀p,Pal.cnt p β=Pal.cnt p (bin++rest)):∀p,Pal.cnt p (x::β)=Pal.cnt p (bin++x::rest):=fun p=>by
  have:=h p
  simp only [A2g,B2f]at this⊢
  omega
section
variable{P:Program}{mn:Who}{rd:Option Nat}{n:Nat}{ops:Array Oper}{i:Nat}{l:List Oper}{c:Code}{Q:Exit→St→View→Prop}{ds:List Deferred}{ρ:Regs}{β:A0j}{v:View}
theorem A2f{bin rest:A0j}(hp:∀p,Pal.cnt p β=Pal.cnt p (bin++rest))(h:XR P mn rd n ops i l Q ⟨ds,ρ,bin++rest⟩ v):XR P mn rd n ops i l Q ⟨ds,ρ,β⟩ v:=fun hd a hf hb=>by
  obtain⟨hb1,he⟩:=A8s (A4u hp) hb
  rw [←he]
  exact h hd a ⟨hf.size,hf.defers,hf.get⟩ hb1
theorem XC_front{bin rest:A0j}(hp:∀p,Pal.cnt p β=Pal.cnt p (bin++rest))(h:XC P mn rd n c Q ⟨ds,ρ,bin++rest⟩ v):XC P mn rd n c Q ⟨ds,ρ,β⟩ v:=fun a hf hb=>by
  obtain⟨hb1,he⟩:=A8s (A4u hp) hb
  rw [←he]
  exact h a ⟨hf.size,hf.defers,hf.get⟩ hb1
end
section
variable{mn:Who}{v:View}
theorem draw_x{g:Bg}{N:Nat}{β:A0j}(hr:g.ok v)(hB:g.On N β)(hN:N<2^62) :
    CallsB prog mn 108 #[g.ptr] (RetB fun r β'=>(∃x,r = .int .u64 x∧0≤x∧x<2^64)∧g.On (N+1) β') β v:=by
  obtain⟨b,a,cap,ns⟩:=g
  obtain⟨t,sx,ht,rfl⟩:=hB
  simp only [Bg.ok]at hr
  refine A0f tab func108 rfl nB (args:=[_]) ?_
  repeat (first|refine sr ?_|refine qb fun bx=>?_)
  refine A6f (fun σ u=>u=v∧∃x,σ=⟨[],[(3,.int .u64 x),(0,.pointer (some ⟨b,0,none⟩))],[(b,#[.slice a ns.length cap,.int .i64 (t+1:Nat),.int .u64 sx],90)]⟩) ?_ ?_
  · rintro σ u ⟨rfl,x,rfl⟩
    repeat (first|refine sr ?_|refine qb fun bx=>?_)
    refine A2u [13] [0,1,2,3,4,5,6,7,8,9,10,11,12,13] A1w rfl kR ?_
    repeat (first|refine sr ?_|refine qb fun bx=>?_)
    refine A0l tab _ (by exact .tmp rfl .nil) (Back.here fun p=>Nat.le_refl _) ?_
    refine⟨⟨_,rfl,?_⟩,_,_,Nat.succ_le_succ ht,rfl⟩
    exact fdiv_range (wrapu_nonneg _) 11
  · repeat (first|refine st ?_|refine qb fun bx=>?_)
    refine A0t rfl (fun h=>?_) (fun h=>?_)
    · have h':t<ns.length:=by have:=of_decide_eq_true h;simp only at this;omega
      obtain⟨bb,off,p,c,e,f,rfl,hv,hc⟩:=hr.ints h'
      repeat (first|refine st ?_|refine qb fun bx=>?_)
      refine A2i tab t rfl rfl rfl rfl oM rfl rfl h' ?_
      refine A9d tab rfl rfl rfl hv (A1b tab rfl rfl rfl (by rw [Nat.mul_one];exact hc _ h')) ?_
      repeat (first|refine st ?_|refine qb fun bx=>?_)
      exact A0c ⟨_,_,⟨rfl,_,rfl⟩,⟨rfl,⟨rfl,rfl,trivial⟩,fun p=>Nat.le_refl _⟩,Le.refl _⟩
    · repeat (first|refine st ?_|refine qb fun bx=>?_)
      exact A0c ⟨_,_,⟨rfl,_,rfl⟩,⟨rfl,⟨rfl,rfl,trivial⟩,fun p=>Nat.le_refl _⟩,Le.refl _⟩
theorem A4y{g:Bg}{N:Nat}{β:A0j}(hr:g.ok v)(hB:g.On N β)(hN:N<2^62)(n:Nat)(hn:n<2^62) :
    CallsB prog mn 43 #[g.ptr,.int .i64 n] (RetB fun r β'=>(∃x:Nat,r = .int .i64 x∧x≤n)∧g.On (N+1) β') β v:=by
  refine A0f tab func43 rfl nB (args:=[_,_]) ?_
  repeat (first|refine st ?_|refine qb fun bx=>?_)
  refine Q_op fun ho=>A0i β [] ho bod108 rfl rfl rfl rfl rfl cntA (draw_x (hr.le (A0b _ _)) hB hN) (fun x β' hR=>?_)
  obtain⟨⟨x,rfl,hx0,hx1⟩,hB⟩:=hR
  repeat (first|refine st ?_|refine qb fun bx=>?_)
  refine A0t rfl (fun h=>?_) (fun h=>?_)
  · repeat (first|refine st ?_|refine qb fun bx=>?_)
    refine A0l tab β' (by exact .tmp rfl .nil) (Back.here cntL) ?_
    exact⟨⟨0,rfl,Nat.zero_le _⟩,hB⟩
  · repeat (first|refine st ?_|refine qb fun bx=>?_)
    have h0:IntKind.u64.wrap (n:Int)=n:=wrapu oM oM
    have hnn:IntKind.u64.wrap (IntKind.u64.wrap (n:Int)+1)=n+1:=by rw [h0,wrapu oM oM]
    refine Q_bin tab (.int .u64 (x.tmod (n+1))) rfl rfl rfl rfl (by simp only [A6l,hnn,if_true];rw [if_neg oM]) ?_
    repeat (first|refine st ?_|refine qb fun bx=>?_)
    refine A0l tab β' (by exact .tmp rfl .nil) (Back.here cntL) ?_
    have h1:=Int.tmod_lt_of_pos x (show(0:Int)<n+1 by omega)
    have h2:=Int.tmod_nonneg (n+1:Int) hx0
    refine⟨⟨(x.tmod (n+1)).toNat,?_,oM⟩,hB⟩
    show Value.int .i64 (IntKind.i64.wrap _)=_
    rw [A4k oM oM]
    congr 1
    omega
theorem among_n{g:Bg}{N:Nat}{β:A0j}(hr:g.ok v)(hB:g.On N β)(hN:N<2^62)(n m:Nat)(hnm:n≤m)(hn:m<2^62) :
    CallsB prog mn 44 #[g.ptr,.int .i64 n,.int .i64 m] (RetB fun r β'=>(∃x:Nat,r = .int .i64 x∧n≤x∧x≤m)∧g.On (N+1) β') β v:=by
  refine A0f tab func44 rfl nB (args:=[_,_,_]) ?_
  repeat (first|refine st ?_|refine qb fun bx=>?_)
  refine Q_op fun ho=>A0i β [] ho A8c rfl rfl rfl rfl rfl cntA (by rw [show(m:Int)-n=((m-n:Nat):Int) by omega];exact A4y (hr.le (A0b _ _)) hB hN (m-n) oM) (fun x β' hR=>?_)
  obtain⟨⟨x,rfl,hx⟩,hB⟩:=hR
  repeat (first|refine st ?_|refine qb fun bx=>?_)
  refine A0l tab β' (by exact .tmp rfl .nil) (Back.here cntL) ?_
  exact⟨⟨n+x,rfl,oM,oM⟩,hB⟩
theorem B3b{g:Bg}{N:Nat}{β:A0j}(hr:g.ok v)(hB:g.On N β)(hN:N<2^62)(n:Nat)(hn:1≤n∧n<2^62) :
    CallsB prog mn 45 #[g.ptr,.int .i64 n] (RetB fun r β'=>(∃x:Bool,r = .bool x)∧g.On (N+1) β') β v:=by
  refine A0f tab func45 rfl nB (args:=[_,_]) ?_
  repeat (first|refine st ?_|refine qb fun bx=>?_)
  refine Q_op fun ho=>A0i β [] ho A8c rfl rfl rfl rfl rfl cntA (by rw [show(n:Int)-1=((n-1:Nat):Int) by omega];exact A4y (hr.le (A0b _ _)) hB hN (n-1) oM) (fun x β' hR=>?_)
  obtain⟨⟨x,rfl,hx⟩,hB⟩:=hR
  repeat (first|refine st ?_|refine qb fun bx=>?_)
  refine A0l tab β' (by exact .tmp rfl .nil) (Back.here cntL) ?_
  exact⟨⟨_,rfl⟩,hB⟩
theorem pick_x{g:Bg}{N:Nat}{β:A0j}(hr:g.ok v)(hB:g.On N β)(hN:N<2^62){a:Option Addr}{cap:Nat}{xs:List Int}(hx:RowAt v a (xs.map (.int .i64)))(hxs:xs.length<2^62)(hne:xs≠[]) :
    CallsB prog mn 115 #[g.ptr,.slice a xs.length cap] (RetB fun r β'=>(∃x,x∈xs∧r = .int .i64 x)∧g.On (N+1) β') β v:=by
  refine A0f tab func115 rfl nB (args:=[_,_]) ?_
  have hpos:0<xs.length:=List.length_pos_iff.2 hne
  obtain⟨bb,off,p,c,e,f,rfl,hv,hc⟩:=hx.ints hpos
  repeat (first|refine st ?_|refine qb fun bx=>?_)
  refine Q_op fun ho=>A0i β [] ho A8c rfl rfl rfl rfl rfl cntA (by rw [show(xs.length:Int)-1=((xs.length-1:Nat):Int) by omega];exact A4y (hr.le (A0b _ _)) hB hN (xs.length-1) oM) (fun x β' hR=>?_)
  obtain⟨⟨x,rfl,hx'⟩,hB⟩:=hR
  repeat (first|refine st ?_|refine qb fun bx=>?_)
  have hlt:x<xs.length:=oM
  refine A2t tab x rfl rfl rfl rfl rfl rfl rfl hlt ?_
  refine A2p tab rfl rfl rfl hv (A1b tab rfl rfl rfl (by rw [Nat.mul_one];exact hc _ hlt)) ?_
  repeat (first|refine st ?_|refine qb fun bx=>?_)
  refine A0l tab β' (by exact .tmp rfl .nil) (Back.here cntL) ?_
  exact⟨⟨_,List.getElem_mem _,rfl⟩,hB⟩
theorem newBag_x{a:Option Addr}{cap:Nat}{ns:List Int} :
    CallsB prog mn 23 #[.slice a ns.length cap] (RetB fun r β'=>∃b,r=(Bg.mk b a cap ns).ptr∧(Bg.mk b a cap ns).On 0 β') [] v:=by
  refine A0f tab func23 rfl nB (args:=[_]) ?_
  repeat (first|refine st ?_|refine qb fun bx=>?_)
  refine A0l tab _ (by exact .tmp rfl .nil) (Back.here fun p=>Nat.le_refl _) ?_
  exact⟨_,rfl,_,_,Nat.le_refl _,rfl⟩
end
end Go.Proofs.YtiolobmgibdfmaaGreat
end
