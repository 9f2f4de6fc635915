/- Part 27 of the way to: 'palfreylaw06.VouchKnown' returns true whatever the start and whatever its goroutines do, as its row says it. No condition. -/
import Derived.Test.YtiolobmgibdfmaaGreatPaz
set_option linter.unusedVariables false
set_option linter.unusedSimpArgs false
section
namespace Go.Pal
open Go Go.Conc View
theorem le_new{v:View}{m:Nat}{p:Bool}{o:Obj}(h:v m=none):v.Le (v.set m p o):=fun b x hx=>by
  by_cases e:b=m
  · subst e;rw [h]at hx;cases hx
  · unfold View.set;rw [if_neg e];exact hx
theorem Back.more{v u:View}{β:A0l}(hl:v.Le u):Back v [] u β:=fun _=>⟨⟨List.nodup_nil,fun _=>.inr rfl⟩,by rw [A2b];exact hl.trans (A0a _ _)⟩
end Go.Pal
namespace Go.Proofs.YtiolobmgibdfmaaGreat
open Go Go.Pal Go.Pal.Vo Go.Conc View
open Go.Proofs.Tryz
set_option maxHeartbeats 4000000
section
variable{mn:Who}{v:View}
theorem proofF_x{W:List Wl}{l:List Nat}{f:Nat}{ai wa:Option Addr}{ci cap b1 b2:Nat}{q1 q2:Bool}{e1 e2:TypeId}{f1 f2:Nat×Nat}(hrow:RowAt v ai (l.map natV))(h8:∀x∈l,x<8)(hll:l.length<2^30)(hf:f<8)(hW:∀w∈W,w.1<256∧w.2<256)(hWl:W.length<2^30)(hwr:RowAt v wa (wsC W))
    (hv1:v b1=some (q1,.cells #[.slice wa W.length cap] e1 f1))(hv2:v b2=some (q2,.cells #[.int .i64 f] e2 f2)) :
    Ret1 prog mn 95 [.slice ai l.length ci,.pointer (some ⟨b1,0,none⟩),.pointer (some ⟨b2,0,none⟩)] (.bool (A9f W (orG l) f)) v:=by
  refine A0g tab func95 rfl nB (args:=[_,_,_]) ?_
  have ho256:=orG_lt h8
  repeat (first|refine st ?_|refine qb fun bx=>?_)
  refine Q_op fun ho=>A0q ho bod96 rfl rfl rfl rfl rfl (B3e hrow h8 oM) ?_
  clear ho
  repeat (first|refine st ?_|refine qb fun bx=>?_)
  refine Q_op fun ho=>A_makeMap (fun(g:Nat)=>u8 g) ho rfl rfl (fun m hm0=>?_)
  clear ho
  have hle:∀es ck,v.Le (v.set m true (mapO (fun(g:Nat)=>u8 g) es ck)):=fun es ck=>le_new hm0
  repeat (first|refine st ?_|refine qb fun bx=>?_)
  refine A2v tab rfl rfl rfl (hle _ _ _ _ hv1) (x:=.slice wa W.length cap) rfl ?_
  repeat (first|refine st ?_|refine qb fun bx=>?_)
  refine A1u (α:=Nat×Ents Nat×Nat) (fun z=>⟨[],[(16,.int .i64 z.1),(15,.int .i64 W.length),(14,.slice wa W.length cap),(6,.map (some m)),(5,u8 (orG l)),(2,.pointer (some ⟨b2,0,none⟩))],[]⟩)
    (fun z u=>u=v.set m true (mapO (fun(g:Nat)=>u8 g) z.2.1 z.2.2)∧z.1≤W.length∧MapI (orG l) f (W.take z.1) z.2.1) (fun z=>W.length-z.1) (0,[],0) ⟨rfl,rg,cntL⟩ (Le.refl _) ⟨rfl,Nat.zero_le _,MapI.nil⟩ ?_
  rintro⟨i,es,ck⟩ u ⟨rfl,hi,hM⟩
  simp only at hi hM
  dsimp only
  repeat (first|refine st ?_|refine qb fun bx=>?_)
  refine A0x rfl (fun h=>?_) (fun h=>?_)
  · replace h:=fa h
    have hlt:i<W.length:=oM
    obtain⟨b,off,q,c,e,fz,rfl,hv',hc⟩:=A9k hwr hlt
    have hw:=hW _ (List.getElem_mem hlt)
    have htake:W.take (i+1)=W.take i++[W[i]]:=List.take_succ_eq_append_getElem hlt
    have hmem:W[i]∈W:=List.getElem_mem hlt
    have hcell:=hc i hlt
    generalize W[i]=w at hcell hw htake hmem
    obtain⟨hand,_⟩:=and_val hw.1 ho256
    clear h
    repeat (first|refine st ?_|refine qb fun bx=>?_)
    refine A3c tab i rfl rfl rfl rfl rfl rfl rfl hlt ?_
    refine A2v tab rfl rfl rfl (hle _ _ _ _ hv') (x:=wlV w) (A1z tab rfl rfl rfl hcell) ?_
    repeat (first|refine st ?_|refine qb fun bx=>?_)
    rw [hand]
    refine Q_op fun ho=>A_lookup tab g_key (k:=w.1 &&& orG l) ho rfl rfl rfl rfl rfl rfl A5j ?_
    clear ho
    cases hfe:A3g (w.1 &&& orG l) es 0 with
    | none=>
      dsimp only
      repeat (first|refine st ?_|refine qb fun bx=>?_)
      refine S_start0 (v0:=v) [8,9] [0,1,2,3,4,5,6,7,8,9] rfl A1w kR (hle _ _) ?_
      repeat (first|refine st ?_|refine qb fun bx=>?_)
      rw [hand]
      repeat (first|refine st ?_|refine qb fun bx=>?_)
      refine A6m tab rfl rfl rfl kR rfl hv2 (x:=.int .i64 f) rfl ?_
      refine S_do kR (A0h [] _ rfl A8v rfl rfl rfl rfl rfl A0t (A8u hw.2 hf) (fun x β' hR=>⟨Le.refl _,?_,?_⟩))
      · exact kp
      obtain⟨rfl,rfl⟩:=hR
      refine S_do0 kR (A_mapNew tab g_key (k:=w.1 &&& orG l) rfl rfl rfl rfl rfl rfl A5j hfe ⟨?_,?_,?_⟩)
      · rw [A6o];exact hle _ _
      · exact kp
      rw [A6o]
      repeat (first|refine st ?_|refine qb fun bx=>?_)
      exact A0e ⟨(i+1,es++[(w.1 &&& orG l,.bool (bit w.2 f),ck)],ck+1),_,(show W.length-(i+1)<W.length-i by omega),⟨rfl,rg,cntL⟩,Le.refl _,rfl,hlt,by simp only;rw [htake];exact hM.new hfe⟩
    | some p=>
      obtain⟨j,y⟩:=p
      obtain⟨w',hw',hk',rfl⟩:=hM.all _ _ _ hfe
      dsimp only
      repeat (first|refine st ?_|refine qb fun bx=>?_)
      refine A2v tab rfl rfl rfl (hle _ _ _ _ hv2) (x:=.int .i64 f) rfl ?_
      refine Q_op fun ho=>A0q ho A8v rfl rfl rfl rfl rfl (A8u hw.2 hf) ?_
      clear ho
      repeat (first|refine st ?_|refine qb fun bx=>?_)
      by_cases hbb:bit w'.2 f=bit w.2 f
      · rw [show(!(bit w'.2 f==bit w.2 f))=false from by simp [hbb]]
        rw [hbb]at hfe
        obtain⟨_,bn,hjb⟩:=A8j hfe
        rw [Nat.sub_zero]at hjb
        have hset:es.set j (w.1 &&& orG l,.bool (bit w.2 f),bn)=es:=by
          refine List.ext_getElem? fun n=>?_
          rw [List.getElem?_set]
          by_cases e:j=n
          · subst e
            rw [if_pos rfl,hjb,if_pos (List.getElem?_eq_some_iff.1 hjb).1]
          · rw [if_neg e]
        repeat (first|refine st ?_|refine qb fun bx=>?_)
        refine S_start0 (v0:=v) [8,9] [0,1,2,3,4,5,6,7,8,9] rfl A1w kR (hle _ _) ?_
        repeat (first|refine st ?_|refine qb fun bx=>?_)
        rw [hand]
        repeat (first|refine st ?_|refine qb fun bx=>?_)
        refine A6m tab rfl rfl rfl kR rfl hv2 (x:=.int .i64 f) rfl ?_
        refine S_do kR (A0h [] _ rfl A8v rfl rfl rfl rfl rfl A0t (A8u hw.2 hf) (fun x β' hR=>⟨Le.refl _,?_,?_⟩))
        · exact kp
        obtain⟨rfl,rfl⟩:=hR
        refine S_do0 kR (A_mapOld tab g_key (k:=w.1 &&& orG l) rfl rfl rfl rfl rfl rfl A5j hfe hjb ⟨?_,?_,?_⟩)
        · rw [A6o];exact hle _ _
        · exact kp
        rw [A6o,hset]
        repeat (first|refine st ?_|refine qb fun bx=>?_)
        exact A0e ⟨(i+1,es,ck),_,(show W.length-(i+1)<W.length-i by omega),⟨rfl,rg,cntL⟩,Le.refl _,rfl,hlt,by simp only;rw [htake];exact hM.old hfe⟩
      · rw [show(!(bit w'.2 f==bit w.2 f))=true from by simp [hbb]]
        repeat (first|refine st ?_|refine qb fun bx=>?_)
        refine A0m tab [] (by exact .tmp rfl .nil) (Back.more (hle _ _)) ?_
        rw [proves_not (List.mem_of_mem_take hw') hmem hk' hbb]
        exact⟨rfl,rfl⟩
  · replace h:=fa h
    have hin:i=W.length:=oM
    subst hin
    rw [List.take_length]at hM
    clear h
    repeat (first|refine st ?_|refine qb fun bx=>?_)
    refine A0m tab [] (by exact .tmp rfl .nil) (Back.more (hle _ _)) ?_
    rw [hM.proves]
    exact⟨rfl,rfl⟩
end
end Go.Proofs.YtiolobmgibdfmaaGreat
end
section
namespace Go.Proofs.YtiolobmgibdfmaaGreat
open Go Go.Pal Go.Pal.Vo Go.Conc View
open Go.Proofs.Tryz
set_option maxHeartbeats 4000000
section
variable{v:View}{wa:Option Addr}{wc:Nat}
def proofL(P:Nat)(l:List Wl)(f:Nat):Option (List Nat):=(A2d P).find? fun x=>A9f l (orG x) f
def lackE(l:List Wl)(o:Option (List Nat)):Int:=if l.isEmpty then 11 else match o with
  | some _=>0
  | none=>11
theorem lackE_ne{l:List Wl}{o:Option (List Nat)}(h:l≠[]):lackE l o=match o with
  | some _=>0
  | none=>11:=by cases l with
  | nil=>exact absurd rfl h
  | cons x l=>rfl
def errPr(P F:Int)(ws:List Wd)(x:Int):Int:=if A1s P F ws=0 then(if 0≤x∧x≤F-1 then lackE (A0i P.toNat F.toNat ws) (proofL P.toNat (A0i P.toNat F.toNat ws) x.toNat)else 3)else A1s P F ws
def proofA(P F:Int)(ws:List Wd)(x:Int):List Nat:=if errPr P F ws x=0 then(proofL P.toNat (A0i P.toNat F.toNat ws) x.toNat).getD []else []
theorem Proof_x{P F:Int}{ws:List Wd}{x:Int}(hws:WdsAt v wa ws)(hwl:ws.length<2^30) :
    CallsB prog ⟨true,true⟩ 38 #[boV P F wa ws.length wc,.int .i64 x] (RetB fun r β'=>∃t,r = .tuple #[t,.int .i64 (errPr P F ws x)]∧ReadL v β' t (proofA P F ws x)) [] v:=by
  refine A2k tab A3l func38 rfl nB (args:=[_,_]) ?_
  unfold proofA
  repeat (first|refine st ?_|refine qb fun bx=>?_)
  refine Q_op fun ho=>A4u rfl ho rfl rfl ?_
  clear ho
  repeat (first|refine st ?_|refine qb fun bx=>?_)
  refine Q_op fun ho=>A4e ho B1o rfl rfl rfl rfl (A5h (hws.le (A0a _ _)) hwl) (fun h=>?_) (fun h=>?_)
  · rw [show errPr P F ws x=A1s P F ws from if_neg h,if_neg h]
    refine pn ?_
    exact A1n tab rfl ib dM sb (xs:=[_,_]) (by exact .tmp rfl (.cell rfl ib rfl .nil)) (β':=[]) (Back.here fun p=>Nat.zero_le _) ⟨_,rfl,ReadL.nil⟩
  clear ho
  rw [show errPr P F ws x=if 0≤x∧x≤F-1 then lackE (A0i P.toNat F.toNat ws) (proofL P.toNat (A0i P.toNat F.toNat ws) x.toNat)else 3 from if_pos h]
  obtain⟨P,F,rfl,rfl,hv⟩:=A3w h
  simp only [Int.toNat_natCast]
  have hP4:=hv.p4
  have hF3:=hv.f3
  clear h
  repeat (first|refine st ?_|refine qb fun bx=>?_)
  refine Q_op fun ho=>A_needR ho bod94 rfl rfl rfl rfl (fact_x oM) (fun h=>?_) (fun h=>?_)
  · rw [if_neg (of_decide_eq_false h)]
    refine pn ?_
    exact A1n tab rfl ib dM sb (xs:=[_,_]) (by exact .tmp rfl (.cell rfl ib rfl .nil)) (β':=[]) (Back.here fun p=>Nat.zero_le _) ⟨_,rfl,ReadL.nil⟩
  clear ho
  have hx:=of_decide_eq_true h
  rw [if_pos hx]
  clear h
  obtain⟨f,rfl⟩:=Int.eq_ofNat_of_zero_le hx.1
  simp only [Int.toNat_natCast]
  repeat (first|refine st ?_|refine qb fun bx=>?_)
  rename_i b2 b3 b5
  refine Q_op fun ho=>B1m ho rfl rfl rfl rfl hv hws hwl (fun h=>?_) (fun hne a cap βw hS=>?_)
  · rw [h]
    refine pn ?_
    exact A1n tab rfl ib dM sb (xs:=[_,_]) (by exact .tmp rfl (.cell rfl ib rfl .nil)) (β':=[]) (Back.here fun p=>Nat.zero_le _) ⟨_,rfl,ReadL.nil⟩
  clear ho
  rw [lackE_ne hne]
  have hlen:=A4n (ws:=ws) hv.p4 hv.f3
  have hwlt:∀w∈A0i P F ws,w.1<256∧w.2<256:=fun w hw=>A3u hv.p4 hv.f3 hw
  generalize A0i P F ws=W at *
  repeat (first|refine st ?_|refine qb fun bx=>?_)
  rename_i b6
  rename A0l=>βw
  refine Q_op fun ho=>A0h [] _ ho bod87 rfl rfl rfl rfl rfl A0t (lists_x (n:=P) oM) (fun x β' hR=>?_)
  clear ho
  rename A0l=>βL
  refine A0j (β1:=βL++(βw++[(bx,#[Value.slice a W.length cap],93),(b3,#[Value.int .i64 f],3)])) (β2:=[(b6,(boV P F wa ws.length wc).cells,95),(b5,#[Value.int .i64 0],34),(b2,(boV P F wa ws.length wc).cells,24)])
    (show ∀p,Pal.cnt p (βL++(bx,#[Value.slice a W.length cap],93)::(βw++[(b6,(boV P F wa ws.length wc).cells,95),(b5,#[Value.int .i64 0],34),(b3,#[Value.int .i64 f],3),(b2,(boV P F wa ws.length wc).cells,24)]))=Pal.cnt p ((βL++(βw++[(bx,#[Value.slice a W.length cap],93),(b3,#[Value.int .i64 f],3)]))++[(b6,(boV P F wa ws.length wc).cells,95),(b5,#[Value.int .i64 0],34),(b2,(boV P F wa ws.length wc).cells,24)])from cntA) (fun hbk=>?_)
  have hv3:=A7x hbk (b:=b3) ib
  have hv7:=A7x hbk (b:=bx) ib
  have hrow:=RowAt.own hbk (show Subm βw (βL++(βw++[(bx,#[Value.slice a W.length cap],93),(b3,#[Value.int .i64 f],3)]))from cntL) hS
  obtain⟨aL,capL,rows,rfl,hrowL,hRL⟩:=hR.read hbk (show Subm βL (βL++(βw++[(bx,#[Value.slice a W.length cap],93),(b3,#[Value.int .i64 f],3)]))from cntL)
  have hlenL:=B2z (n:=P) oM
  repeat (first|refine st ?_|refine qb fun bx=>?_)
  refine Q_op fun ho=>A0h [] _ ho bod86 rfl rfl rfl rfl rfl A0t (first_x (p:=fun x=>A9f W (orG x) f) (A0a _ _) hrowL hRL oM bod95 (fun l hl ai ci u hle hrl=>proofF_x hrl (fun y hy=>by have:=(A7t (n:=P) oM hl).2.2 y hy;omega) (by have:=(A7t (n:=P) oM hl).1;omega) oM hwlt oM (RowAt.le hrow ((A0a _ _).trans hle)) (hle _ _ (A1k hv7)) (hle _ _ (A1k hv3)))) (fun x β' hR=>?_)
  clear ho
  obtain⟨hR,rfl⟩:=hR
  unfold proofL
  cases hfo:(A2d P).find? (fun x=>A9f W (orG x) f)with
  | none=>
    rw [hfo]at hR
    subst hR
    repeat (first|refine st ?_|refine qb fun bx=>?_)
    refine Q_op fun ho=>A2q ho rfl rfl rfl rfl (fun _=>?_) (fun h=>by cases h)
    refine pn ?_
    exact A1n tab rfl ib dM sb (xs:=[_,_]) (by exact .tmp rfl (.cell rfl ib rfl .nil)) (β':=[]) (Back.forget hbk (Back.here fun p=>Nat.zero_le _)) ⟨_,rfl,ReadL.nil⟩
  | some l=>
    rw [hfo]at hR
    obtain⟨ai,ci,rfl,hrl⟩:=hR
    repeat (first|refine st ?_|refine qb fun bx=>?_)
    refine Q_op fun ho=>A2q ho rfl rfl rfl rfl (fun h=>by cases h) (fun _=>?_)
    clear ho
    repeat (first|refine st ?_|refine qb fun bx=>?_)
    exact A4a tab rfl (β':=[]++(βL++(βw++[(bx,#[Value.slice a W.length cap],93),(b3,#[Value.int .i64 f],3)]))) (xs:=[_,_]) (by exact .tmp rfl (.cell rfl ib rfl .nil)) (Back.retired hbk (Back.here fun p=>Nat.zero_le _)) ⟨_,rfl,ai,ci,rfl,hrl⟩
end
end Go.Proofs.YtiolobmgibdfmaaGreat
end
section
namespace Go.Pal
open Go Go.Conc View
section
variable{P:Program}{mn:Who}(T:Tab P){rd:Option Nat}{n:Nat}{Q:Exit→St→View→Prop}{ds:List Deferred}{ρ:Regs}{β:A0l}{v:View}
  {ops:Array Oper}{i k:Nat}{S:List Rec}{done:List Nat}{ms:List Nat}{v0:View}{todo:List Nat}
def twoB(ops:Array Oper)(ms done:List Nat)(i k:Nat):Bool:=(Region.ready .any ops (mkL ops done)).contains i&&(Region.ready .any ops (mkL ops done)).all (fun j=>Nat.beq j i||Nat.beq j k)&&ms.contains i&&ms.contains k
theorem S_two(k:Nat)(hB:twoB ops ms done i k=true)(h1:XOp P mn (some 4294967295) n ops i (fun _ _ _=>False) (fun σ' u=>v.Le u∧KeepS ops i S σ'.β∧XS P mn n ops ms v0 Q (k::todo) S (i::done) σ' u) ⟨ds,ρ,β⟩ v)
    (h2:XOp P mn (some 4294967295) n ops k (fun _ _ _=>False) (fun σ' u=>v.Le u∧KeepS ops k S σ'.β∧XS P mn n ops ms v0 Q (i::todo) S (k::done) σ' u) ⟨ds,ρ,β⟩ v):XS P mn n ops ms v0 Q (i::k::todo) S done ⟨ds,ρ,β⟩ v:=fun a hf hb hv hc=>by
  simp only [twoB,Bool.and_eq_true]at hB
  obtain⟨⟨⟨hb1,hb2⟩,hb3⟩,hb4⟩:=hB
  have hri:i∈Region.ready .any ops (mkL ops done):=by simpa using hb1
  show AnyS P mn ops ms v0 (fun a u=>Post n Q .normal a u) (todo.length+1+1) (SV S) (mkL ops done) a (v.union (A0c β))
  refine⟨fun e=>(by rw [e]at hri;cases hri),fun j hj=>?_⟩
  have hr:=hj
  have hx:ms.contains j=true∧XOp P mn (some 4294967295) n ops j (fun _ _ _=>False) (fun σ' u=>v.Le u∧KeepS ops j S σ'.β∧XS P mn n ops ms v0 Q (k::todo) S (j::done) σ' u) ⟨ds,ρ,β⟩ v:=by
    have hji:=List.all_eq_true.1 hb2 j hj
    rw [Bool.or_eq_true]at hji
    rcases hji with hji|hji
    · have:=Nat.eq_of_beq_eq_true hji;subst this;exact⟨hb3,h1⟩
    · have:=Nat.eq_of_beq_eq_true hji;subst this;exact⟨hb4,h2⟩
  obtain⟨h3,h⟩:=hx
  obtain⟨o,ho,hw,hd,hs⟩:=h a hf hb
  unfold OpS
  simp only [ho,hw,if_true]
  have key:∀{a' w},KP n (fun σ' u=>v.Le u∧KeepS ops j S σ'.β∧XS P mn n ops ms v0 Q (k::todo) S (j::done) σ' u) a' w→Keeps ops ms v0 (SV S) j (v.union (A0c β)) w∧AnyS P mn ops ms v0 (fun a u=>Post n Q .normal a u) (todo.length+1) (SV S) ((mkL ops done).setIfInBounds j true) a' w:=by
    rintro a' w ⟨σ',u,⟨hl,hk,hx⟩,hf',hb',hw'⟩
    refine⟨?_,?_⟩
    · unfold Keeps
      rw [if_pos h3]
      refine⟨((hv.trans hl).trans (A0a _ _)).trans hw',fun p hp hdp=>?_⟩
      obtain⟨b,c,t,he,hin⟩:=A8g hk p hp hdp
      rw [he]
      intro j' x e
      simp only [A0c]at e
      split at e
      · rename_i hj';subst hj';cases e;exact hw' _ _ (A1c hb' hin)
      · cases e
    · exact A6e (K:=fun a u=>Post n Q .normal a u) (fun a u v hl hp=>post_le hl hp) _ _ _ _ _ _ hw' (hx _ hf' hb' (hv.trans hl) (A6z hc hr A9y))
  refine A2c _ (fun nx w hK=>?_) (fun x w hE=>?_) hs
  · cases nx with
    | value x=>exact key hK
    | skip=>exact key hK
    | defer d=>exact absurd hK.1 sM
    | enter f args=>exact CallsX.mono hK fun e w' hR=>⟨w',Le.refl _,by
        cases e with
        | ret x=>exact key hR
        | pan ch=>obtain⟨_,_,hq,_⟩:=hR;exact hq⟩
    | round l f tmps assign body=>exact absurd rfl hK.1
    | _=>exact hK.elim
  · obtain⟨_,_,hq,_⟩:=hE;exact hq
end
end Go.Pal
end
section
namespace Go.Proofs.YtiolobmgibdfmaaGreat
open Go Go.Pal Go.Pal.Vo Go.Conc View
open Go.Proofs.Tryz
set_option maxHeartbeats 4000000
section
variable{mn:Who}{v:View}
theorem sameInts_x{l m:List Int}{a b:Option Addr}{c1 c2:Nat}(hl:RowAt v a (l.map (.int .i64)))(hm:RowAt v b (m.map (.int .i64)))(h1:l.length<2^30)(h2:m.length<2^30):Ret1 prog mn 35 [.slice a l.length c1,.slice b m.length c2] (.bool (decide (l=m))) v:=by
  refine A0g tab func35 rfl nB (args:=[_,_]) ?_
  repeat (first|refine st ?_|refine qb fun bx=>?_)
  refine A1u (α:=Nat) (fun i=>⟨[],[(5,.int .i64 i),(0,.slice a l.length c1),(1,.slice b m.length c2)],[]⟩)
    (fun i u=>u=v∧i≤l.length∧i≤m.length∧l.take i=m.take i) (fun i=>l.length-i) 0 ⟨rfl,rg,cntL⟩ (Le.refl _) ⟨rfl,Nat.zero_le _,Nat.zero_le _,rfl⟩ ?_
  rintro i u ⟨rfl,hi,hi',hp⟩
  have hend:¬(i<l.length∧i<m.length)→Value.bool (((l.length:Nat):Int)==((m.length:Nat):Int))=Value.bool (decide (l=m)):=fun hn=>by
    congr 1
    rw [Bool.eq_iff_iff,beq_iff_eq,decide_eq_true_eq]
    constructor
    · intro e
      have e':l.length=m.length:=oM
      have h3:l.take i=l:=List.take_of_length_le oM
      have h4:m.take i=m:=List.take_of_length_le oM
      rw [←h3,←h4,hp]
    · intro e;rw [e]
  repeat (first|refine st ?_|refine qb fun bx=>?_)
  refine B3u rfl rfl (fun h=>?_) (fun h=>?_)
  · replace h:=fa h
    have hlt:i<l.length:=oM
    clear h
    repeat (first|refine st ?_|refine qb fun bx=>?_)
    refine A0x rfl (fun h=>?_) (fun h=>?_)
    · replace h:=fa h
      have hlt':i<m.length:=oM
      obtain⟨b1,o1,p1,k1,e1,f1,rfl,hv1,hc1⟩:=hl.ints hlt
      obtain⟨b2,o2,p2,k2,e2,f2,rfl,hv2,hc2⟩:=hm.ints hlt'
      clear h
      repeat (first|refine st ?_|refine qb fun bx=>?_)
      refine A2f tab i rfl rfl rfl rfl rfl rfl rfl hlt ?_
      refine A8z tab rfl rfl rfl hv1 (A1a tab rfl rfl rfl (by rw [Nat.mul_one];exact hc1 i hlt)) ?_
      repeat (first|refine st ?_|refine qb fun bx=>?_)
      refine A2f tab i rfl rfl rfl rfl rfl rfl rfl hlt' ?_
      refine A8z tab rfl rfl rfl hv2 (A1a tab rfl rfl rfl (by rw [Nat.mul_one];exact hc2 i hlt')) ?_
      repeat (first|refine st ?_|refine qb fun bx=>?_)
      refine A0x rfl (fun h=>?_) (fun h=>?_)
      · have h:l[i]≠m[i]:=by simpa using h
        repeat (first|refine st ?_|refine qb fun bx=>?_)
        refine A0m tab [] (by exact .tmp rfl .nil) (Back.here cntL) ?_
        have:decide (l=m)=false:=decide_eq_false fun e=>h (by subst e;rfl)
        rw [this];exact⟨rfl,rfl⟩
      · have h:l[i]=m[i]:=by simpa using h
        repeat (first|refine st ?_|refine qb fun bx=>?_)
        refine A0e ⟨i+1,_,(by have:=hlt;omega),⟨rfl,rg,cntL⟩,Le.refl _,rfl,hlt,hlt',?_⟩
        rw [List.take_succ_eq_append_getElem hlt,List.take_succ_eq_append_getElem hlt',hp,h]
    · replace h:=fa h
      have hge:¬(i<l.length∧i<m.length):=oM
      clear h
      repeat (first|refine st ?_|refine qb fun bx=>?_)
      refine A0m tab [] (by exact .tmp rfl .nil) (Back.here cntL) ?_
      exact⟨hend hge,rfl⟩
  · replace h:=fa h
    have hge:¬(i<l.length∧i<m.length):=oM
    clear h
    repeat (first|refine st ?_|refine qb fun bx=>?_)
    refine A0m tab [] (by exact .tmp rfl .nil) (Back.here cntL) ?_
    exact⟨hend hge,rfl⟩
theorem nat_row{a:Option Addr}{l:List Nat}(h:RowAt v a (l.map natV)):RowAt v a ((l.map Int.ofNat).map (.int .i64)):=by
  rw [List.map_map];exact h
theorem nat_inj{l m:List Nat}:(l.map Int.ofNat=m.map Int.ofNat)↔l=m:=⟨fun h=>(List.map_inj_right fun _ _ h=>Int.ofNat.inj h).1 h,fun h=>by rw [h]⟩
theorem A4v{l m:List Nat}{a b:Option Addr}{c1 c2:Nat}(hl:RowAt v a (l.map natV))(hm:RowAt v b (m.map natV))(h1:l.length<2^30)(h2:m.length<2^30):Ret1 prog mn 35 [.slice a l.length c1,.slice b m.length c2] (.bool (decide (l=m))) v:=by
  have:=sameInts_x (mn:=mn) (c1:=c1) (c2:=c2) (nat_row hl) (nat_row hm) (by simpa using h1) (by simpa using h2)
  simp only [List.length_map,nat_inj]at this
  exact this
theorem A5a{l1 l2 m1 m2:List Nat}{a1 a2 b1 b2:Option Addr}{c1 c2 d1 d2:Nat}(h1:RowAt v a1 (l1.map natV))(h2:RowAt v a2 (l2.map natV))(k1:RowAt v b1 (m1.map natV))(k2:RowAt v b2 (m2.map natV))(hl1:l1.length<2^30)(hl2:l2.length<2^30)(hm1:m1.length<2^30)(hm2:m2.length<2^30) :
    Ret1 prog mn 31 [wldV a1 l1.length c1 a2 l2.length c2,wldV b1 m1.length d1 b2 m2.length d2] (.bool (decide (l1=m1)&&decide (l2=m2))) v:=by
  refine A0g tab func31 rfl nB (args:=[_,_]) ?_
  repeat (first|refine st ?_|refine qb fun bx=>?_)
  refine Q_op fun ho=>A0q ho bod35 rfl rfl rfl rfl rfl (A4v h1 k1 hl1 hm1) ?_
  clear ho
  cases hd:decide (l1=m1)with
  | true=>
    repeat (first|refine st ?_|refine qb fun bx=>?_)
    refine Q_op fun ho=>A0q ho bod35 rfl rfl rfl rfl rfl (A4v h2 k2 hl2 hm2) ?_
    clear ho
    repeat (first|refine st ?_|refine qb fun bx=>?_)
    refine A0m tab [] (by exact .tmp rfl .nil) (Back.here cntL) ?_
    exact⟨rfl,rfl⟩
  | false=>
    repeat (first|refine st ?_|refine qb fun bx=>?_)
    refine A0m tab [] (by exact .tmp rfl .nil) (Back.here cntL) ?_
    exact⟨rfl,rfl⟩
theorem A4z{a b c d:Int}:Ret1 prog mn 74 [.int .i64 a,.int .i64 b,.int .i64 c,.int .i64 d] (wdV ⟨a,b,c,d⟩) v:=by
  refine A0g tab func74 rfl nB (args:=[_,_,_,_]) ?_
  repeat (first|refine st ?_|refine qb fun bx=>?_)
  refine A0m tab (xs:=[wdV ⟨a,b,c,d⟩]) [] (by exact .cell rfl ib rfl .nil) (Back.here fun p=>Nat.zero_le _) ⟨rfl,rfl⟩
def OwnV(β:A0l)(r:Value)(P F:Int)(ws:List Wd):Prop:=∃a cap,r=boV P F a ws.length cap∧OwnS 26 4 β a ws.length cap (ws.map wdC).flatten
theorem wds_one(ws:List Wd):(ws.map wdC).flatten.all A3z=true:=by
  induction ws with
  | nil=>rfl
  | cons x l ih=>rw [List.map_cons,List.flatten_cons,List.all_append,ih];rfl
theorem with_x{P F:Int}{wa:Option Addr}{wc:Nat}{ws:List Wd}{x:Wd}(hws:WdsAt v wa ws)(hwl:ws.length<2^20):CallsB prog mn 64 #[boV P F wa ws.length wc,wdV x] (RetB fun r β'=>OwnV β' r P F (ws++[x])) [] v:=by
  refine A0g tab func64 rfl nB (args:=[_,_]) ?_
  repeat (first|refine st ?_|refine qb fun bx=>?_)
  rename_i bx2 bx3
  refine A2p [0,3,5,6,8] [1,2,4,0,5,3,6,7,8] A1w rfl kR ?_
  repeat (first|refine st ?_|refine qb fun bx=>?_)
  refine S_two 5 kR (A3i tab rfl rfl rfl rfl rfl rfl rfl rfl rfl rfl (fun b3 c3 hL=>⟨Le.refl _,kp,?_⟩)) (A3i tab rfl rfl rfl rfl rfl rfl rfl rfl rfl rfl (fun b5 c5 hL5=>⟨Le.refl _,kp,?_⟩))
  · refine S_two 3 kR (A3i tab rfl rfl rfl rfl rfl rfl rfl rfl rfl rfl (fun b5 c5 hL5=>⟨Le.refl _,kp,?_⟩)) (A4h tab (xs:=(ws.map wdC).flatten) [(b3,c3,26)] [] ([(bx,(Value.agg #[Value.int .i64 0,Value.int .i64 0,Value.slice none 0 0]).cells,24),(bx3,(wdV x).cells,26),(bx2,(boV P F wa ws.length wc).cells,24)]) rfl rfl rfl rfl rfl rfl rfl rfl rfl rfl rfl cntA hL (fun hb=>RowAt.le hws (A0a _ _)) (A3q ws) (wds_one ws) (by show(2*(0+ws.length)+768)*32≤2^48;omega) oM (fun seg2 a2 cap2 hS2=>⟨Le.refl _,kp,?_⟩))
    · refine S_do kR (A4h tab (xs:=(ws.map wdC).flatten) [(b3,c3,26)] [] ((b5,c5,26)::[(bx,(Value.agg #[Value.int .i64 0,Value.int .i64 0,Value.slice none 0 0]).cells,24),(bx3,(wdV x).cells,26),(bx2,(boV P F wa ws.length wc).cells,24)]) rfl rfl rfl rfl rfl rfl rfl rfl rfl rfl rfl cntA hL (fun hb=>RowAt.le hws (A0a _ _)) (A3q ws) (wds_one ws) (by show(2*(0+ws.length)+768)*32≤2^48;omega) oM (fun seg2 a2 cap2 hS2=>⟨Le.refl _,kp,?_⟩))
      repeat (refine ss ?_)
      rw [Nat.zero_add]at hS2
      have e0:(0+ws.length)=ws.length:=Nat.zero_add _
      refine S_do kR (A4h tab (len:=0+ws.length) (xs:=wdC x) seg2 [(b5,c5,26)] [(bx,(Value.agg #[Value.int .i64 0,Value.int .i64 0,Value.slice none 0 0]).cells,24),(bx3,(wdV x).cells,26),(bx2,(boV P F wa ws.length wc).cells,24)] rfl rfl rfl rfl rfl rfl rfl rfl rfl rfl rfl cntA (by rw [e0];exact hS2) (fun hb=>RowAt.own hb cntL hL5) rfl rfl (by show(2*(0+ws.length+1)+768)*32≤2^48;omega) oM (fun seg6 a6 cap6 hS6=>⟨Le.refl _,kp,?_⟩))
      rw [e0]at hS6⊢
      repeat (first|refine st ?_|refine qb fun bx=>?_)
      refine A0m tab (xs:=[boV P F a6 (ws.length+1) cap6]) seg6 (by exact .cell rfl ib rfl .nil) (Back.here cntL) ?_
      exact⟨a6,cap6,by rw [List.length_append];rfl,by rw [List.length_append,List.map_append,List.flatten_append];exact hS6⟩
    · refine S_do kR (A3i tab rfl rfl rfl rfl rfl rfl rfl rfl rfl rfl (fun b5 c5 hL5=>⟨Le.refl _,kp,?_⟩))
      repeat (refine ss ?_)
      rw [Nat.zero_add]at hS2
      have e0:(0+ws.length)=ws.length:=Nat.zero_add _
      refine S_do kR (A4h tab (len:=0+ws.length) (xs:=wdC x) seg2 [(b5,c5,26)] [(bx,(Value.agg #[Value.int .i64 0,Value.int .i64 0,Value.slice none 0 0]).cells,24),(bx3,(wdV x).cells,26),(bx2,(boV P F wa ws.length wc).cells,24)] rfl rfl rfl rfl rfl rfl rfl rfl rfl rfl rfl cntA (by rw [e0];exact hS2) (fun hb=>RowAt.own hb cntL hL5) rfl rfl (by show(2*(0+ws.length+1)+768)*32≤2^48;omega) oM (fun seg6 a6 cap6 hS6=>⟨Le.refl _,kp,?_⟩))
      rw [e0]at hS6⊢
      repeat (first|refine st ?_|refine qb fun bx=>?_)
      refine A0m tab (xs:=[boV P F a6 (ws.length+1) cap6]) seg6 (by exact .cell rfl ib rfl .nil) (Back.here cntL) ?_
      exact⟨a6,cap6,by rw [List.length_append];rfl,by rw [List.length_append,List.map_append,List.flatten_append];exact hS6⟩
  · refine S_do kR (A3i tab rfl rfl rfl rfl rfl rfl rfl rfl rfl rfl (fun b3 c3 hL=>⟨Le.refl _,kp,?_⟩))
    refine S_do kR (A4h tab (xs:=(ws.map wdC).flatten) [(b3,c3,26)] [] ((b5,c5,26)::[(bx,(Value.agg #[Value.int .i64 0,Value.int .i64 0,Value.slice none 0 0]).cells,24),(bx3,(wdV x).cells,26),(bx2,(boV P F wa ws.length wc).cells,24)]) rfl rfl rfl rfl rfl rfl rfl rfl rfl rfl rfl cntA hL (fun hb=>RowAt.le hws (A0a _ _)) (A3q ws) (wds_one ws) (by show(2*(0+ws.length)+768)*32≤2^48;omega) oM (fun seg2 a2 cap2 hS2=>⟨Le.refl _,kp,?_⟩))
    repeat (refine ss ?_)
    rw [Nat.zero_add]at hS2
    have e0:(0+ws.length)=ws.length:=Nat.zero_add _
    refine S_do kR (A4h tab (len:=0+ws.length) (xs:=wdC x) seg2 [(b5,c5,26)] [(bx,(Value.agg #[Value.int .i64 0,Value.int .i64 0,Value.slice none 0 0]).cells,24),(bx3,(wdV x).cells,26),(bx2,(boV P F wa ws.length wc).cells,24)] rfl rfl rfl rfl rfl rfl rfl rfl rfl rfl rfl cntA (by rw [e0];exact hS2) (fun hb=>RowAt.own hb cntL hL5) rfl rfl (by show(2*(0+ws.length+1)+768)*32≤2^48;omega) oM (fun seg6 a6 cap6 hS6=>⟨Le.refl _,kp,?_⟩))
    rw [e0]at hS6⊢
    repeat (first|refine st ?_|refine qb fun bx=>?_)
    refine A0m tab (xs:=[boV P F a6 (ws.length+1) cap6]) seg6 (by exact .cell rfl ib rfl .nil) (Back.here cntL) ?_
    exact⟨a6,cap6,by rw [List.length_append];rfl,by rw [List.length_append,List.map_append,List.flatten_append];exact hS6⟩
end
end Go.Proofs.YtiolobmgibdfmaaGreat
end
section
namespace Go.Proofs.YtiolobmgibdfmaaGreat
open Go Go.Pal Go.Pal.Vo Go.Conc View
open Go.Proofs.Tryz
set_option maxHeartbeats 4000000
set_option maxRecDepth 20000
def mareW:List Wd:=[⟨0,2,1,0⟩,⟨1,0,0,0⟩,⟨2,5,0,1⟩]
def moreW:List Wd:=[⟨0,2,1,0⟩,⟨1,0,0,0⟩,⟨2,5,0,1⟩,⟨0,0,0,0⟩]
def itselfW:List Wd:=[⟨0,2,0,0⟩]
def eachW:List Wd:=[⟨0,3,1,0⟩,⟨1,3,0,0⟩]
section
variable{mn:Who}{v:View}
theorem A3k:CallsB prog mn 73 #[] (RetB fun r β'=>OwnV β' r 3 1 mareW) [] v:=by
  refine A0g tab func73 rfl nB (args:=[]) ?_
  repeat (first|refine st ?_|refine qb fun bx=>?_)
  refine Q_op fun ho=>A0q ho A7y rfl rfl rfl rfl rfl A4z ?_
  clear ho
  refine Q_op fun ho=>A0q ho A7y rfl rfl rfl rfl rfl A4z ?_
  clear ho
  refine Q_op fun ho=>A0q ho A7y rfl rfl rfl rfl rfl A4z ?_
  clear ho
  refine Q_op fun ho=>A3i tab ho rfl rfl rfl rfl rfl rfl rfl rfl rfl (fun b c hS=>?_)
  clear ho
  repeat (first|refine st ?_|refine qb fun bx=>?_)
  refine A0m tab (xs:=[boV 3 1 (some ⟨b,0,none⟩) 3 3]) [(b,c,26)] (by exact .cell rfl ib rfl .nil) (Back.here cntL) ?_
  exact⟨_,_,rfl,hS⟩
theorem itself_x:CallsB prog mn 76 #[] (RetB fun r β'=>OwnV β' r 1 0 itselfW) [] v:=by
  refine A0g tab func76 rfl nB (args:=[]) ?_
  repeat (first|refine st ?_|refine qb fun bx=>?_)
  refine Q_op fun ho=>A0q ho A7y rfl rfl rfl rfl rfl A4z ?_
  clear ho
  refine Q_op fun ho=>A3i tab ho rfl rfl rfl rfl rfl rfl rfl rfl rfl (fun b c hS=>?_)
  clear ho
  repeat (first|refine st ?_|refine qb fun bx=>?_)
  refine A0m tab (xs:=[boV 1 0 (some ⟨b,0,none⟩) 1 1]) [(b,c,26)] (by exact .cell rfl ib rfl .nil) (Back.here cntL) ?_
  exact⟨_,_,rfl,hS⟩
theorem each_x:CallsB prog mn 77 #[] (RetB fun r β'=>OwnV β' r 2 0 eachW) [] v:=by
  refine A0g tab func77 rfl nB (args:=[]) ?_
  repeat (first|refine st ?_|refine qb fun bx=>?_)
  refine Q_op fun ho=>A0q ho A7y rfl rfl rfl rfl rfl A4z ?_
  clear ho
  refine Q_op fun ho=>A0q ho A7y rfl rfl rfl rfl rfl A4z ?_
  clear ho
  refine Q_op fun ho=>A3i tab ho rfl rfl rfl rfl rfl rfl rfl rfl rfl (fun b c hS=>?_)
  clear ho
  repeat (first|refine st ?_|refine qb fun bx=>?_)
  refine A0m tab (xs:=[boV 2 0 (some ⟨b,0,none⟩) 2 2]) [(b,c,26)] (by exact .cell rfl ib rfl .nil) (Back.here cntL) ?_
  exact⟨_,_,rfl,hS⟩
theorem A9x:CallsB prog mn 75 #[] (RetB fun r β'=>OwnV β' r 3 1 moreW) [] v:=by
  refine A0g tab func75 rfl nB (args:=[]) ?_
  repeat (first|refine st ?_|refine qb fun bx=>?_)
  refine Q_op fun ho=>A0h [] _ ho A5p rfl rfl rfl rfl rfl A0t (A3k) (fun x β' hR=>?_)
  clear ho
  obtain⟨a,cap,rfl,hS⟩:=hR
  refine A0j (β1:=β') (β2:=_) (fun _=>rfl) (fun hb=>?_)
  have hws:WdsAt (v.union (A0c β')) a mareW:=A0y hb hS
  refine Q_op fun ho=>A0q ho A7y rfl rfl rfl rfl rfl A4z ?_
  clear ho
  rename A0l=>βm
  refine Q_op fun ho=>A0h [] _ ho bod64 rfl rfl rfl rfl rfl A0t (with_x (x:=⟨0,0,0,0⟩) (hws.le (A0a _ _)) dM) (fun x β' hR=>?_)
  clear ho
  obtain⟨a',cap',rfl,hS'⟩:=hR
  repeat (first|refine st ?_|refine qb fun bx=>?_)
  refine A0m tab (xs:=[boV 3 1 a' 4 cap']) β' (by exact .cell rfl ib rfl .nil) (Back.forget hb (Back.here cntL)) ?_
  exact⟨_,_,rfl,hS'⟩
abbrev A3x(a b:Int):Value:=.agg #[.int .i64 a,.int .i64 b]
theorem i64_eq{d:Nat}{x y:Int}{K:Bool→View→Prop}{E:Value→View→Prop}(h:K (x==y) v):SemX prog (Op.equalIn (d+1) 3 (.int .i64 x) (.int .i64 y)) K E v:=by
  unfold Op.equalIn
  rw [A0d,A1l tab (t:=3) rfl]
  simp only [if_true]
  exact h
theorem A4f{cs:Array Value}{off:Nat}{x:Value}{K:Value→View→Prop}{E:Value→View→Prop}(hx:cs[off]?=some x)(h:K x v):SemX prog (part 3 cs off) K E v:=by
  unfold part
  simp only [A0d]
  rw [B1r (tab.und_ok 3 _ rfl)]
  simp only [aggOf,Bool.false_eq_true,if_false,hx]
  exact h
theorem range_eq{a b c d:Int}{K:Bool→View→Prop}{E:Value→View→Prop}(h:K (decide (a=c∧b=d)) v):SemX prog (Op.equal 42 (A3x a b) (A3x c d)) K E v:=by
  have hs:prog.stoodInHeld 42=false:=by kernel_rfl
  show SemX prog (Op.equalIn (9998+1+1) 42 _ _) K E v
  unfold Op.equalIn
  rw [A0d,A1l tab (t:=42) rfl]
  simp only [A0d,A2e,hs,Bool.false_eq_true,if_false,List.forIn_toArray,List.forIn_cons,List.forIn_nil]
  rw [if_pos dM]
  simp only [A0d]
  refine A4f (x:=.int .i64 a) rfl ?_
  refine A4f (x:=.int .i64 c) rfl ?_
  refine i64_eq ?_
  by_cases h1:a=c
  · rw [show(a==c)=true from by simp [h1]]
    simp only [Bool.not_true,Bool.false_eq_true,if_false,A0k,A0d]
    rw [if_pos dM]
    simp only [A0d]
    refine A4f (x:=.int .i64 b) rfl ?_
    refine A4f (x:=.int .i64 d) rfl ?_
    refine i64_eq ?_
    by_cases h2:b=d
    · rw [show(b==d)=true from by simp [h2]]
      rw [show decide (a=c∧b=d)=true from decide_eq_true ⟨h1,h2⟩]at h
      exact h
    · rw [show(b==d)=false from by simp [h2]]
      rw [show decide (a=c∧b=d)=false from decide_eq_false fun e=>h2 e.2]at h
      exact h
  · rw [show(a==c)=false from by simp [h1]]
    rw [show decide (a=c∧b=d)=false from decide_eq_false fun e=>h1 e.1]at h
    exact h
end
section
variable{mn:Who}{rd:Option Nat}{n:Nat}{Q:Exit→St→View→Prop}{ds:List Deferred}{ρ:Regs}{β:A0l}{v:View}{K:St→View→Prop}
  {ops:Array Oper}{i:Nat}{d:Nat}{ty:TypeId}{pos:String}{af:Array Edge}{gu:Option (Nat×Bool)}
theorem A_eqlR{y z:Operand}{t2:TypeId}{a b c e:Int}(ho:ops[i]?=some ⟨some d,.binOp .eql 42 y z t2,ty,pos,af,gu⟩)(hw:A0v ops gu ρ=some true)(hn:Nat.blt d n=true)(hy:ρ.val y=some (A3x a b))(hz:ρ.val z=some (A3x c e))
    (h:K ⟨ds,(d,.bool (decide (a=c∧b=e)))::ρ,β⟩ v):XOp prog mn rd n ops i Q K ⟨ds,ρ,β⟩ v:=by
  refine A2l ho (A0n hw) (.inr rfl) hn fun ev hev hbk=>?_
  have hg:prog.eqGuardType prog.depth 42=false:=by kernel_rfl
  simp only [execOp,A0d,hev _ _ hy,hev _ _ hz,eqGuard,binOp,A2e,hg]
  simp only [Bool.not_true,Bool.false_eq_true,if_false,A0d]
  rw [A2e,A2e,hg]
  simp only [Bool.not_true,Bool.not_false,Bool.false_eq_true,if_false,if_true,A0k,A0d]
  refine range_eq ?_
  exact⟨β,v,⟨hbk,Le.refl _⟩,h⟩
end
theorem mare_known:A1s 3 1 mareW=0∧(A0i 3 1 mareW).length=2∧errF 3 1 mareW ⟨0,6,2,0⟩=0∧verd (A0i 3 1 mareW) (A8t 3 ⟨0,6,2,0⟩)=1∧errWr 3 1 mareW [0,1] [0]=0∧wrongL 3 mareW [0,1] [0]=[0,2]:=by decide +kernel
theorem more_known:errS 3 1 moreW=0∧(wlsE 3 1 moreW).headD (0,0)=(4,0)∧errA 3 1 moreW=0∧(askS (A0i 3 1 moreW) 3).v=1∧(askS (A0i 3 1 moreW) 3).n=1∧errPr 3 1 moreW 0=0∧proofA 3 1 moreW 0=[1]:=by decide +kernel
theorem each_known:errS 2 0 eachW=0∧wlsE 2 0 eachW=[(3,0),(0,0)]∧errN 2 2 0 eachW 0=0∧verd (someL true (A0i 2 0 eachW)) (fun w=>bit w.1 0)=1:=by decide +kernel
theorem itself_known:A1s 1 0 itselfW=0∧B0v 1 0 itselfW=[0]:=by decide +kernel
end Go.Proofs.YtiolobmgibdfmaaGreat
end
