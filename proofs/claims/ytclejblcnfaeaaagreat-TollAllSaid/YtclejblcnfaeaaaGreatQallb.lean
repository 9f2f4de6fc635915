/- Part 44. -/
import Derived.Test.YtclejblcnfaeaaaGreatQalla
set_option linter.all false
section
namespace Go.Pal.To
open Go
theorem W.mem{a b:List MA}{os dk:List Int}{ms:List Nat}{bk:List MA}(h:W a b os ms bk dk){y:MA}(hy:y∈bk):y∈a∨y∈b:=by
 induction h with
 | nil=>cases hy
 | step g1 g2 _ _ ih=>
  rcases stepM_cases g1 g2 with ⟨rfl,rfl,rfl⟩|⟨rfl,rfl,rfl⟩|⟨rfl,rfl,rfl⟩<;>rcases List.mem_cons.1 hy with rfl|hy
  ·exact .inl sM
  ·rcases ih hy with h|h
   ·exact .inl (by simp [h])
   ·exact .inr (by simp [h])
  ·exact .inl sM
  ·rcases ih hy with h|h
   ·exact .inl (by simp [h])
   ·exact .inr h
  ·exact .inr sM
  ·rcases ih hy with h|h
   ·exact .inl h
   ·exact .inr (by simp [h])
structure BestW(P:Int)(d:List Int)(a b:List MA)(u:Wy):Prop where
 w:∃ms,W a b d ms u.book u.dusk∧u.marks=ms.map fun k:Nat=>(k:Int)
 ok:HOk P d u.book
 len:u.dusk.length=d.length
 all:∀x∈u.dusk,0≤x∧x<P
theorem best_w{P:Int}{d:List Int}{a b:List MA}(hL:LOk P d a b){u:Wy}(hu:u∈A6k a b d):BestW P d a b u:=by
 obtain⟨ms,bk,dk,hW,rfl⟩:=mem_ways0.1 (mem_bests.1 hu).1
 have hge:=hW.ge
 have hlb:=hW.book_len
 have h1:=hL.la
 have h2:=hL.lb
 have hacts:∀x∈bk,Ok P d.length x:=fun x hx=>by
  rcases hW.mem hx with h|h
  ·exact hL.a x h
  ·exact hL.b x h
 have hd:=hW.dusk
 refine⟨⟨ms,hW,Y⟩,⟨hL.m,by show bk.length≤8;omega,hacts⟩,?_,?_⟩
 ·show dk.length=d.length
  rw [hd,A9w]
 ·show ∀x∈dk,0≤x∧x<P
  rw [hd]
  exact duskOf_in (N:=d.length) hL.m.all hacts
theorem best_ow{P:Int}{d:List Int}{a b:List MA}(hL:LOk P d a b){u:Wy}(hu:u∈A6k a b d){h:Nat}(hh:h<d.length):0≤ow u.dusk h∧ow u.dusk h<P:=by
 have hb:=best_w hL hu
 have hl:=hb.len
 have hlt:h<u.dusk.length:=oM
 rw [ow_get hlt]
 exact hb.all _ (List.getElem_mem hlt)
theorem asc_one:∀{l m:List Int},l.Pairwise (· < ·)→m.Pairwise (· < ·)→(∀x,x∈l↔x∈m)→l=m
 | [],[],_,_,_=>rfl
 | [],y::m,_,_,h=>by have:=(h y).2 sM;cases this
 | x::l,[],_,_,h=>by have:=(h x).1 sM;cases this
 | x::l,y::m,hl,hm,h=>by
  rw [List.pairwise_cons]at hl hm
  have hxy:x=y:=by
   rcases List.mem_cons.1 ((h x).1 sM)with e|h1
   ·exact e
   ·rcases List.mem_cons.1 ((h y).2 sM)with e|h2
    ·exact e.symm
    ·have:=hm.1 x h1;have:=hl.1 y h2;omega
  subst hxy
  have:l=m:=asc_one hl.2 hm.2 fun z=>by
   constructor
   ·intro hz
    rcases List.mem_cons.1 ((h z).1 (by simp [hz]))with e|h1
    ·subst e;have:=hl.1 z hz;omega
    ·exact h1
   ·intro hz
    rcases List.mem_cons.1 ((h z).2 (by simp [hz]))with e|h1
    ·subst e;have:=hm.1 z hz;omega
    ·exact h1
  rw [this]
theorem countR_ok{P:Int}{d:List Int}{a b:List MA}(hL:LOk P d a b):countR P d a b=if A6k a b d=[]then(0,0,11)else((A6k a b d).length,bestN a b d,0):=by
 unfold countR A5y
 rw [if_neg (by simpa using layE_ok.2 hL),if_neg dM]
 by_cases h:A6k a b d=[]
 ·rw [if_pos h,if_pos h,bestN_nil h];rfl
 ·rw [if_neg h,if_neg h]
theorem laidR_e{P:Int}{d:List Int}{a b:List MA}(hL:LOk P d a b){h:Nat}(hh:h<d.length):(A5y P d a b (knows h d.length)).1=if A6k a b d=[]then 11 else 0:=by
 have hk:knows h d.length=true:=by
  unfold knows
  have:¬outZ (h:Int) 0 ((d.length:Int)-1):=by unfold outZ;omega
  simp [this]
 unfold A5y
 rw [if_neg (by simpa using layE_ok.2 hL),hk,if_neg dM]
 by_cases h:A6k a b d=[]
 ·rw [if_pos h,if_pos h]
 ·rw [if_neg h,if_neg h]
theorem bestN_mem{a b:List MA}{os:List Int}{u:Wy}(h:u∈A6k a b os):lenW u=bestN a b os:=(A9v h).2
end Go.Pal.To
end
section
namespace Go.Proofs.YtclejblcnfaeaaaGreat
open Go Go.Pal Go.Pal.To Go.Conc View
open Go.Proofs.Tryz
set_option maxHeartbeats 4000000
set_option maxRecDepth 20000
section
variable{mn:Who}{v:View}
theorem own_box{e:TypeId}{k:Nat}{seg:A0e}{a:Option Addr}{len cap:Nat}{xs:List Value}(h:OwnS e k seg a len cap xs)(hl:0<len):∃b c,seg=[(b,c,e)]∧a=some ⟨b,0,none⟩∧len≤cap∧c.size=cap*k∧∀(i:Nat) (x:Value),xs[i]?=some x→c[i]?=some x:=by
 cases h with
 | nil=>cases hl
 | @box b c _ _ _ h1 h2 h3 h4=>exact⟨b,c,rfl,rfl,h2,h3,h4⟩
theorem ownActs_x{a:Option Addr}{cap:Nat}{xs:List MA}(hx:ActsAt v a xs)(hl:xs.length<2^20) :
  CallsB prog mn 33 #[.slice a xs.length cap] (RetB fun r β'=>∃a' cap',r = .slice a' xs.length cap'∧OwnS 26 4 β' a' xs.length cap' (xs.map MA.cells).flatten) [] v:=by
 refine A0d tab func33 Y nB (args:=[_]) ?_
 refine su ?_
 refine Q_op fun ho=>A3w tab ho Y Y Y Y Y Y Y Y Y (fun b2 c2 hS=>?_)
 refine su ?_
 refine Q_op fun ho=>A3x tab (xs:=(xs.map MA.cells).flatten) [(b2,c2,26)] [] [] ho Y Y Y Y Y Y Y Y Y Y (fun _=>rfl) hS
  (fun _=>RowAt.le hx (A0g _ _)) (by rw [rowsR_len (SZ:=4) (fun _=>rfl)]) (by simp [List.all_eq_true,MA.cells,A2k]) oM oM (fun seg a' cap' hS'=>?_)
 refine su ?_
 refine A0f tab seg (by exact .tmp rfl .nil) (Back.here cntL) ?_
 rw [Nat.zero_add]at hS'
 exact⟨a',cap',by show Value.slice a' (0+xs.length) cap'=_;rw [Nat.zero_add],hS'⟩
end
end Go.Proofs.YtclejblcnfaeaaaGreat
end
section
namespace Go.Pal
open Go Go.Conc View
section
variable{P:Program}{mn:Who}{rd:Option Nat}{n:Nat}{Q:Exit→St→View→Prop}{ds:List Deferred}{ρ:Regs}{β:A0e}{v:View}
 {ops:Array Oper}{i:Nat}{S:List Rec}{done done':List Nat}{ms:List Nat}{v0:View}{todo todo':List Nat}
theorem xop_moreC{ρτ ρσ:Regs}{βτ βσ βr βk:A0e}{d:Nat}{M:Value→A0e→Prop}{K:St→View→Prop}(hr:∀t x,ρτ.get t=some x→ρσ.get t=some x)(hβ:∀p,cnt p βσ=cnt p (βr++βτ))(hdst:∀o,ops[i]?=some o→o.dst=some d)(hdn:Nat.blt d n=true)
  (h:∀u,v.Le u→XOp P mn rd n ops i (fun _ _ _=>False) (fun σ' u'=>u'=u∧∃x βi,M x βi∧σ'=⟨ds,(d,x)::ρτ,βi++βk⟩) ⟨ds,ρτ,βτ⟩ u)
  (hK:∀x βi,M x βi→K ⟨ds,(d,x)::ρσ,(βi++βk)++βr⟩ v):XOp P mn rd n ops i (fun _ _ _=>False) K ⟨ds,ρσ,βσ⟩ v:=fun a hf hb=>by
 obtain⟨hb1,he⟩:=A3v (A2e (l:=βσ) (m:=βτ++βr) fun p=>by rw [hβ p,A0n,A0n];omega) hb
 obtain⟨hb2,hb3⟩:=bok_append.1 hb1
 obtain⟨o,ho,hw,hd,hs⟩:=h _ (A0g v (A0c βr)) a ⟨hf.size,hf.defers,fun t x e=>hf.get t x (hr t x e)⟩ hb3
 have hod:=hdst o ho
 have hdn':A2p n (some d)=true:=hdn
 refine⟨o,ho,hw,hd,?_⟩
 have key:∀{x0 w},KP n (fun σ' u'=>u'=v.union (A0c βr)∧∃x βi,M x βi∧σ'=⟨ds,(d,x)::ρτ,βi++βk⟩) (a.put o.dst x0) w→KP n K (a.put o.dst x0) w:=by
  rintro x0 w ⟨σ',u',⟨rfl,x,βi,hM,rfl⟩,hf',hb',hw'⟩
  have hg:∀(y:Value) (l:Regs),Regs.get ((d,y)::l) d=some y:=fun y l=>by simp [Regs.get]
  have hx:x0=x:=by
   have h1:=hf'.get d x (hg _ _)
   have h2:=(A0x (x:=x0) hf hdn').get d x0 (hg _ _)
   rw [hod]at h1
   exact Option.some.inj (h2.symm.trans h1)
  subst hx
  have hb4:Bok ((βi++βk)++βr) v:=bok_append.2 ⟨hb2,hb'⟩
  refine⟨⟨ds,(d,x0)::ρσ,(βi++βk)++βr⟩,v,hK _ _ hM,?_,hb4,?_⟩
  ·have:=A0x (x:=x0) hf hdn'
   rw [hod]
   exact⟨this.size,this.defers,this.get⟩
  ·show(v.union (A0c ((βi++βk)++βr))).Le w
   rw [A0v hb4]
   exact hw'
 show SemX P _ _ _ (v.union (A0c βσ))
 rw [←he,A0v hb1]
 refine A1y _ (fun nx w hK=>?_) (fun x w hE=>hE.elim fun _ h=>h.elim fun _ h=>h.1.elim) hs
 cases nx with
 | value x=>exact key hK
 | skip=>exact key hK
 | defer d'=>
  obtain⟨_,σ',u',⟨rfl,x,βi,hM,rfl⟩,hf',_⟩:=hK
  exfalso
  have h1:=hf'.defers
  have h2:=hf.defers
  simp only [Act.put]at h1
  rw [hod]at h1
  simp only at h1 h2
  rw [h2]at h1
  exact absurd (congrArg List.length h1) sM
 | enter f args=>exact CallsX.mono hK fun e w' hR=>⟨w',Le.refl _,by
   cases e with
   | ret x=>exact key hR
   | pan ch=>obtain⟨_,_,h,_⟩:=hR;exact h.elim⟩
 | round l f tmps assign body=>exact⟨hK.1,RoundX.mono hK.2 fun e w' hR=>⟨w',Le.refl _,by
   cases e with
   | ret x=>exact key hR
   | pan ch=>obtain⟨_,_,h,_⟩:=hR;exact h.elim⟩⟩
 | _=>exact hK.elim
variable{dst:Nat→Nat}{c:NetC}{W:List Nat}{ρ0:Regs}{β0:A0e}{j:Nat}{q:Value×A0e}
theorem netR_vals{c c':NetC}:∀{W:List Nat},(∀i∈W,(c i).map (·.1)=(c' i).map (·.1))→netR dst c ρ0 W=netR dst c' ρ0 W
 | [],_=>rfl
 | i::W,h=>by
  have h1:=h i (List.mem_cons_self ..)
  have ih:=netR_vals (c:=c) (c':=c') (W:=W) fun k hk=>h k (List.mem_cons_of_mem _ hk)
  simp only [netR]
  cases hc:c i<;>cases hc':c' i<;>rw [hc,hc']at h1<;>simp_all
theorem netβ_gone{c:NetC}:∀{W:List Nat},(∀i∈W,∀q,c i=some q→q.2=[])→netβ c β0 W=β0
 | [],_=>rfl
 | i::W,h=>by
  have ih:=netβ_gone (c:=c) (W:=W) fun k hk=>h k (List.mem_cons_of_mem _ hk)
  simp only [netβ]
  cases hc:c i with
  | none=>exact ih
  | some q=>simp only [h i (List.mem_cons_self ..) q hc,List.nil_append];exact ih
theorem inb_left{b:Nat}{cc:Array Value}{t:TypeId}{l r:A0e}(h:InB b cc t l):InB b cc t (l++r):=by
 induction h with
 | head=>exact .head
 | tail _ ih=>exact .tail ih
def netE(c:NetC)(l:List Nat):NetC:=fun i=>if i∈l then(c i).map fun q=>(q.1,[])else c i
theorem S_tree{Sp:Nat→Value→A0e→Prop}{pre:Nat→List Nat}(W:List Nat)(dst:Nat→Nat)(hW:W.Nodup)(hd:∀i∈W,∀k∈W,dst i=dst k→i=k)(h0:∀i∈W,ρ0.get (dst i)=none)(hpre:∀j∈W,pre j=W.filter fun i=>(pre j).contains i)
    (huq:∀j∈W,∀k∈W,∀i∈pre j,i∈pre k→j=k)
    (hop:∀i∈W,(∀o,ops[i]?=some o→o.dst=some (dst i))∧Nat.blt (dst i) n=true)(hS:KeepA S β0)(hB:netB ops ms W pre done W.length []=true)
    (hstep:∀j∈W,∀c:Nat→Value×A0e,(∀i∈pre j,Sp i (c i).1 (c i).2)→∀u,v.Le u→XOp P mn (some 4294967295) n ops j (fun _ _ _=>False) (fun σ' u'=>u'=u∧∃x βi,Sp j x βi∧σ'=⟨ds,(dst j,x)::netR dst (fun i=>some (c i)) ρ0 (pre j),βi++β0⟩) ⟨ds,netR dst (fun i=>some (c i)) ρ0 (pre j),netβ (fun i=>some (c i)) β0 (pre j)⟩ u)
    (hfin:∀c:Nat→Value×A0e,(∀i∈W,(W.all fun j=>!(pre j).contains i)=true→Sp i (c i).1 (c i).2)→(∀i∈W,(W.all fun j=>!(pre j).contains i)=false→(c i).2=[])→XS P mn n ops ms v0 Q todo S (W++done) ⟨ds,netR dst (fun i=>some (c i)) ρ0 W,netβ (fun i=>some (c i)) β0 W⟩ v) :
    XS P mn n ops ms v0 Q (W++todo) S done ⟨ds,ρ0,β0⟩ v:=by
  let tot:NetC→Nat→Value×A0e:=fun c i=>(c i).getD default
  have go:∀(k:Nat) (c:NetC),(∀i∈W,∀q,c i=some q→(∀k∈pre i,(c k).isSome=true)∧((∀j∈W,i∈pre j→c j=none)→Sp i q.1 q.2)∧((∃j∈W,i∈pre j∧(c j).isSome=true)→q.2=[]))→netB ops ms W pre done k (netS W c)=true→XS P mn n ops ms v0 Q (List.replicate k 0++todo) S (netS W c++done) ⟨ds,netR dst c ρ0 W,netβ c β0 W⟩ v:=by
    intro k
    induction k with
    | zero=>
      intro c hc hb
      have e:netS W c=W:=by simpa [netB]using hb
      have hsm:∀i∈W,(c i).isSome=true:=fun i hi=>(mem_netS.1 (e.symm ▸ hi:i∈netS W c)).2
      have hs:∀i∈W,c i=some (tot c i):=fun i hi=>by
        have:=hsm i hi
        cases hci:c i with
        | none=>rw [hci]at this;cases this
        | some q=>simp [tot,hci]
      have:=hfin (tot c) (fun i hi ha=>(hc i hi _ (hs i hi)).2.1 fun j hj hij=>by
          have:=List.all_eq_true.1 ha j hj
          simp [hij]at this) (fun i hi ha=>(hc i hi _ (hs i hi)).2.2 (by
          rw [List.all_eq_false]at ha
          obtain⟨j,hj,h⟩:=ha
          exact⟨j,hj,by simpa using h,hsm j hj⟩))
      rw [e,A9s hs,A9r hs]
      exact this
    | succ k ih=>
      intro c hc hb
      simp only [netB,Bool.and_eq_true]at hb
      obtain⟨hb1,hb2⟩:=hb
      have hall:∀j∈Region.ready .any ops (mkL ops (netS W c++done)),j∈W∧c j=none∧ms.contains j=true∧(∀i∈pre j,i∈netS W c)∧netB ops ms W pre done k (W.filter fun i=>Nat.beq i j||(netS W c).contains i)=true:=fun j hj=>by
        have h:=List.all_eq_true.1 hb2 j hj
        simp only [Bool.and_eq_true]at h
        obtain⟨⟨⟨⟨h1,h2⟩,h3⟩,h4⟩,h5⟩:=h
        have hjW:j∈W:=by simpa using h1
        have hjn:j∉netS W c:=by simpa using h2
        refine⟨hjW,?_,h3,fun i hi=>by simpa using List.all_eq_true.1 h4 i hi,h5⟩
        cases hcj:c j with
        | none=>rfl
        | some q=>exact absurd (mem_netS.2 ⟨hjW,by rw [hcj];rfl⟩) hjn
      refine S_many (Region.ready .any ops (mkL ops (netS W c++done))) ?_ (allL_of fun j hj=>?_)
      · simp only [manyB,Bool.and_eq_true]
        exact⟨⟨hb1,List.all_eq_true.2 fun j hj=>by simpa using hj⟩,List.all_eq_true.2 fun j hj=>(hall j hj).2.2.1⟩
      · obtain⟨hjW,hcj,_,hp,hn⟩:=hall j hj
        have hsub:∀i∈pre j,i∈W:=fun i hi=>(mem_netS.1 (hp i hi)).1
        have hsome:∀i∈pre j,c i=some (tot c i):=fun i hi=>by
          have h2:=(mem_netS.1 (hp i hi)).2
          cases hci:c i with
          | none=>rw [hci]at h2;cases h2
          | some q=>simp [tot,hci]
        have hpn:(pre j).Nodup:=by rw [hpre j hjW];exact hW.filter _
        have hjp:j∉pre j:=fun h=>by have:=hsome j h;rw [hcj]at this;cases this
        have hstep':=hstep j hjW (tot c) fun i hi=>(hc i (hsub i hi) _ (hsome i hi)).2.1 fun k hk hik=>by
          rw [huq k hk j hjW i hik hi];exact hcj
        rw [←A9s hsome,←A9r hsome]at hstep'
        refine xop_moreC (d:=dst j) (M:=Sp j) (βk:=β0) (ρτ:=netR dst c ρ0 (pre j)) (βτ:=netβ c β0 (pre j)) (βr:=netβ c [] (W.filter fun i=>!(pre j).contains i))
          (netR_get hW hd (pre j) (fun i hi=>mem_netS.1 (hp i hi)) hpn h0) (fun p=>by
            have h:=netβ_part (c:=c) (β0:=β0) (fun i=>(pre j).contains i) W p
            rw [←hpre j hjW]at h
            exact h) (hop j hjW).1 (hop j hjW).2 hstep' ?_
        intro x βi hM
        have hej:netE c (pre j) j=none:=by unfold netE;rw [if_neg hjp];exact hcj
        have hcnt:∀p,cnt p (netβ (netU (netE c (pre j)) j (x,βi)) β0 W)=cnt p ((βi++β0)++netβ c [] (W.filter fun i=>!(pre j).contains i)):=fun p=>by
          rw [netβ_put hW hjW hej p,A0n,netβ_part (c:=netE c (pre j)) (β0:=β0) (fun i=>(pre j).contains i) W p,A0n,A0n,A0n]
          rw [←hpre j hjW,netβ_gone (c:=netE c (pre j)) (W:=pre j) (fun i hi q hq=>by
            unfold netE at hq
            rw [if_pos hi]at hq
            rw [Option.map_eq_some_iff]at hq
            obtain⟨a,_,rfl⟩:=hq
            rfl)]
          rw [A9r (c:=netE c (pre j)) (c':=c) (W:=W.filter fun i=>!(pre j).contains i) (fun i hi=>by
            have h2:=(List.mem_filter.1 hi).2
            unfold netE
            rw [if_neg (by simpa using h2)])]
          show cnt p βi+(_+cnt p β0)=_
          omega
        refine⟨Le.refl _,?_,?_⟩
        · have hk:∀{βr:A0e} {S:List Rec},KeepA S β0→KeepS ops j S ((βi++β0)++βr):=by
            intro βr S
            induction S with
            | nil=>intro _;trivial
            | cons s S ihS=>
              obtain⟨_,_,_,_⟩:=s
              intro h
              exact⟨.inr (by rw [List.append_assoc];exact InB.app (inb_left h.1)),ihS h.2⟩
          exact hk hS
        have e:netS W (netU (netE c (pre j)) j (x,βi))=W.filter fun i=>Nat.beq i j||(netS W c).contains i:=by
          unfold netS
          refine List.filter_congr fun i hi=>?_
          by_cases hij:i=j
          · subst hij;rw [A8l,Nat.beq_refl];rfl
          · rw [A3a hij,show Nat.beq i j=false from by cases hb:Nat.beq i j with|false=>rfl|true=>exact absurd (Nat.eq_of_beq_eq_true hb) hij]
            rw [Bool.false_or]
            unfold netE
            by_cases hip:i∈pre j
            · rw [if_pos hip,hsome i hip]
              simp [hi,hsome i hip]
            · rw [if_neg hip]
              cases hci:c i with
              | none=>simp [hci]
              | some q=>simp [hci,hi]
        refine XS_by (ih (netU (netE c (pre j)) j (x,βi)) (fun i hi q hq=>?_) (by rw [e];exact hn)) (mkL_mem fun i=>?_) Y (fun t y hy=>?_) (fun p=>Nat.le_of_eq (hcnt p))
        · have hkeep:∀k,(netU (netE c (pre j)) j (x,βi) k).isSome=(decide (k=j)||(c k).isSome):=fun k=>by
            by_cases hkj:k=j
            · subst hkj;rw [A8l];simp
            · rw [A3a hkj]
              unfold netE
              by_cases hkp:k∈pre j
              · rw [if_pos hkp];simp [hkj]
              · rw [if_neg hkp];simp [hkj]
          by_cases hij:i=j
          · subst hij
            rw [A8l]at hq
            cases hq
            refine⟨fun k hk=>?_,fun _=>hM,fun⟨k,hk,hik,hks⟩=>?_⟩
            · rw [hkeep,hsome k hk];simp
            · exfalso
              rw [hkeep]at hks
              by_cases hki:k=i
              · subst hki;exact hjp hik
              · cases hck:c k with
                | none=>rw [hck]at hks;simp [hki]at hks
                | some qk=>
                  have:=(hc k hk qk hck).1 i hik
                  rw [hcj]at this
                  cases this
          · rw [A3a hij]at hq
            by_cases hip:i∈pre j
            · have hq':=hq
              unfold netE at hq'
              rw [if_pos hip,hsome i hip]at hq'
              cases hq'
              refine⟨fun k hk=>?_,fun h=>?_,fun _=>rfl⟩
              · rw [hkeep,(hc i hi _ (hsome i hip)).1 k hk];simp
              · have:=h j hjW hip
                rw [A8l]at this
                cases this
            · have hq':=hq
              unfold netE at hq'
              rw [if_neg hip]at hq'
              obtain⟨h1,h2,h3⟩:=hc i hi q hq'
              refine⟨fun k hk=>?_,fun h=>h2 fun k hk hik=>?_,fun⟨k,hk,hik,hks⟩=>h3 ⟨k,hk,hik,?_⟩⟩
              · rw [hkeep,h1 k hk];simp
              · have hh:=h k hk hik
                have:=hkeep k
                rw [hh]at this
                cases hck:c k with
                | none=>rfl
                | some qk=>rw [hck]at this;simp at this
              · rw [hkeep]at hks
                by_cases hkj:k=j
                · subst hkj;exact absurd hik hip
                · simpa [hkj]using hks
        · rw [e,List.mem_append,List.mem_cons,List.mem_append,List.mem_filter]
          constructor
          · rintro(⟨h1,h2⟩|h)
            · rw [Bool.or_eq_true]at h2
              rcases h2 with h2|h2
              · exact .inl (Nat.eq_of_beq_eq_true h2)
              · exact .inr (.inl (by simpa using h2))
            · exact .inr (.inr h)
          · rintro(rfl|h|h)
            · exact .inl ⟨hjW,by rw [Nat.beq_refl];rfl⟩
            · exact .inl ⟨(mem_netS.1 h).1,by rw [Bool.or_eq_true];exact .inr (by simpa using h)⟩
            · exact .inr h
        · have hv:netR dst (netU (netE c (pre j)) j (x,βi)) ρ0 W=netR dst (netU c j (x,βi)) ρ0 W:=netR_vals fun k _=>by
            by_cases hkj:k=j
            · subst hkj;rw [A8l,A8l]
            · rw [A3a hkj,A3a hkj]
              unfold netE
              by_cases hkp:k∈pre j
              · rw [if_pos hkp,Option.map_map];rfl
              · rw [if_neg hkp]
          rw [hv]at hy
          exact netR_put hW hjW hcj (fun i hi=>hd i hi j hjW) t y hy
  have hz:∀V:List Nat,netR dst (fun _=>none) ρ0 V=ρ0∧netβ (fun _=>none) β0 V=β0∧netS V (fun _=>none)=[]:=fun V=>by
    induction V with
    | nil=>exact⟨rfl,rfl,rfl⟩
    | cons i V ih=>exact⟨ih.1,ih.2.1,ih.2.2⟩
  obtain⟨z1,z2,z3⟩:=hz W
  have h1:=go W.length (fun _=>none) (fun _ _ _ h=>by cases h) (by rw [z3];exact hB)
  rw [z1,z2,z3]at h1
  exact XS_by h1 Y sM (fun _ _ h=>h) (fun _=>Nat.le_refl _)
end
end Go.Pal
end
section
namespace Go.Proofs.YtclejblcnfaeaaaGreat
open Go Go.Pal Go.Pal.To Go.Conc View
open Go.Proofs.Tryz
set_option maxHeartbeats 4000000
set_option maxRecDepth 20000
def OwnI(e:TypeId)(k:Nat)(x:Value)(β:A0e)(len:Nat)(cs:List Value):Prop:=∃a c,x = .slice a len c∧OwnS e k β a len c cs
end Go.Proofs.YtclejblcnfaeaaaGreat
end
section
namespace Go.Pal.To
structure Lw where
 marks:List Int
 book:List MA
def cA(ms:List Int):Nat:=ms.countP (· != 2)
def cB(ms:List Int):Nat:=ms.countP (· != 1)
def nx0(p q:List MA)(w:Lw):List Lw:=match p[cA w.marks]?,q[cB w.marks]? with
 | some x,some y=>if x=y then [⟨w.marks++[0],w.book++[x]⟩]else []
 | _,_=>[]
def nx1(p:List MA)(w:Lw):List Lw:=match p[cA w.marks]? with
 | some x=>[⟨w.marks++[1],w.book++[x]⟩]
 | none=>[]
def nx2(q:List MA)(w:Lw):List Lw:=match q[cB w.marks]? with
 | some y=>[⟨w.marks++[2],w.book++[y]⟩]
 | none=>[]
def nxt(p q:List MA)(w:Lw):List Lw:=nx0 p q w++nx1 p w++nx2 q w
def lev(p q:List MA):Nat→List Lw
 | 0=>[⟨[],[]⟩]
 | n+1=>(lev p q n).flatMap (nxt p q)
def full(p q:List MA)(w:Lw):Bool:=cA w.marks==p.length&&cB w.marks==q.length
def outs(p q:List MA)(n:Nat):List Lw:=(List.range n).flatMap fun j=>(lev p q j).filter (full p q)
theorem outs_succ(p q:List MA)(n:Nat):outs p q (n+1)=outs p q n++(lev p q n).filter (full p q):=by
 unfold outs
 rw [List.range_succ,List.flatMap_append];simp
inductive Fw(p q:List MA):Nat→Nat→List Nat→List MA→Prop
 | nil:Fw p q 0 0 [] []
 | both {i k:Nat} {ms:List Nat} {bk:List MA} {x:MA}:Fw p q i k ms bk→p[i]?=some x→q[k]?=some x→Fw p q (i+1) (k+1) (ms++[0]) (bk++[x])
 | fst {i k:Nat} {ms:List Nat} {bk:List MA} {x:MA}:Fw p q i k ms bk→p[i]?=some x→Fw p q (i+1) k (ms++[1]) (bk++[x])
 | snd {i k:Nat} {ms:List Nat} {bk:List MA} {x:MA}:Fw p q i k ms bk→q[k]?=some x→Fw p q i (k+1) (ms++[2]) (bk++[x])
def zN(ms:List Nat):List Int:=ms.map fun n:Nat=>(n:Int)
theorem B2w(ms:List Nat)(m:Nat):zN (ms++[m])=zN ms++[(m:Int)]:=by simp [zN]
theorem B2x{l:List MA}{i:Nat}{x:MA}(h:l[i]?=some x):i<l.length:=(List.getElem?_eq_some_iff.1 h).1
structure FwF(p q:List MA)(i k:Nat)(ms:List Nat)(bk:List MA):Prop where
 hi:i≤p.length
 hk:k≤q.length
 hA:cA (zN ms)=i
 hB:cB (zN ms)=k
 len:bk.length=ms.length
 le:ms.length≤i+k
 mem:∀x∈bk,x∈p∨x∈q
theorem Fw.facts{p q:List MA}{i k:Nat}{ms:List Nat}{bk:List MA}(h:Fw p q i k ms bk):FwF p q i k ms bk:=by
 induction h with
 | nil=>exact⟨Nat.zero_le _,Nat.zero_le _,rfl,rfl,rfl,Nat.le_refl _,fun x hx=>nomatch hx⟩
 | @both i k ms bk x h h1 h2 ih=>
  obtain⟨a1,a2,a3,a4,a5,a6,a7⟩:=ih
  have:=B2x h1
  have:=B2x h2
  refine⟨oM,oM,?_,?_,by simp [a5],by simp;omega,fun y hy=>?_⟩
  ·rw [B2w];unfold To.cA at *;rw [List.countP_append,a3];rfl
  ·rw [B2w];unfold To.cB at *;rw [List.countP_append,a4];rfl
  ·rcases List.mem_append.1 hy with hy|hy
   ·exact a7 y hy
   ·rw [List.mem_singleton.1 hy];exact .inl (List.mem_of_getElem? h1)
 | @fst i k ms bk x h h1 ih=>
  obtain⟨a1,a2,a3,a4,a5,a6,a7⟩:=ih
  have:=B2x h1
  refine⟨oM,a2,?_,?_,by simp [a5],by simp;omega,fun y hy=>?_⟩
  ·rw [B2w];unfold To.cA at *;rw [List.countP_append,a3];rfl
  ·rw [B2w];unfold To.cB at *;rw [List.countP_append,a4];rfl
  ·rcases List.mem_append.1 hy with hy|hy
   ·exact a7 y hy
   ·rw [List.mem_singleton.1 hy];exact .inl (List.mem_of_getElem? h1)
 | @snd i k ms bk x h h1 ih=>
  obtain⟨a1,a2,a3,a4,a5,a6,a7⟩:=ih
  have:=B2x h1
  refine⟨a1,oM,?_,?_,by simp [a5],by simp;omega,fun y hy=>?_⟩
  ·rw [B2w];unfold To.cA at *;rw [List.countP_append,a3];rfl
  ·rw [B2w];unfold To.cB at *;rw [List.countP_append,a4];rfl
  ·rcases List.mem_append.1 hy with hy|hy
   ·exact a7 y hy
   ·rw [List.mem_singleton.1 hy];exact .inr (List.mem_of_getElem? h1)
theorem mem_nxt{p q:List MA}{w u:Lw}:u∈nxt p q w↔(∃x,p[cA w.marks]?=some x∧q[cB w.marks]?=some x∧u=⟨w.marks++[0],w.book++[x]⟩)∨(∃x,p[cA w.marks]?=some x∧u=⟨w.marks++[1],w.book++[x]⟩)∨(∃y,q[cB w.marks]?=some y∧u=⟨w.marks++[2],w.book++[y]⟩):=by
 unfold nxt nx0 nx1 nx2
 rw [List.mem_append,List.mem_append]
 cases p[cA w.marks]? with
 | none=>cases q[cB w.marks]? with
  | none=>simp
  | some y=>simp
 | some x=>cases q[cB w.marks]? with
  | none=>simp
  | some y=>
   by_cases e:x=y
   ·subst e;simp [or_assoc]
   ·simp only [if_neg e,List.not_mem_nil,false_or,List.mem_singleton]
    constructor
    ·rintro(h|h)
     ·exact .inr (.inl ⟨x,Y,h⟩)
     ·exact .inr (.inr ⟨y,Y,h⟩)
    ·rintro(⟨z,h1,h2,_⟩|⟨z,h1,h⟩|⟨z,h1,h⟩)
     ·cases h1;cases h2;exact absurd rfl e
     ·cases h1;exact .inl h
     ·cases h1;exact .inr h
theorem lev_fw{p q:List MA}:∀{n:Nat} {w:Lw},w∈lev p q n→∃i k ms,w.marks=zN ms∧ms.length=n∧Fw p q i k ms w.book
 | 0,w,h=>by
  obtain rfl:=List.mem_singleton.1 h
  exact⟨0,0,[],Y,Y,.nil⟩
 | n+1,w,h=>by
  obtain⟨u,hu,hw⟩:=List.mem_flatMap.1 h
  obtain⟨i,k,ms,e,hl,hF⟩:=lev_fw hu
  have hf:=hF.facts
  have e1:cA u.marks=i:=by rw [e];exact hf.hA
  have e2:cB u.marks=k:=by rw [e];exact hf.hB
  rcases mem_nxt.1 hw with ⟨x,h1,h2,rfl⟩|⟨x,h1,rfl⟩|⟨x,h1,rfl⟩
  ·exact⟨i+1,k+1,ms++[0],by rw [B2w,←e];rfl,by simp [hl],.both hF (by rw [←e1];exact h1) (by rw [←e2];exact h2)⟩
  ·exact⟨i+1,k,ms++[1],by rw [B2w,←e];rfl,by simp [hl],.fst hF (by rw [←e1];exact h1)⟩
  ·exact⟨i,k+1,ms++[2],by rw [B2w,←e];rfl,by simp [hl],.snd hF (by rw [←e2];exact h1)⟩
theorem fw_lev{p q:List MA}{i k:Nat}{ms:List Nat}{bk:List MA}(h:Fw p q i k ms bk):(⟨zN ms,bk⟩:Lw)∈lev p q ms.length:=by
 induction h with
 | nil=>exact List.mem_singleton.2 rfl
 | @both i k ms bk x h h1 h2 ih=>
  have hf:=h.facts
  rw [List.length_append]
  refine List.mem_flatMap.2 ⟨_,ih,mem_nxt.2 (.inl ⟨x,?_,?_,?_⟩)⟩
  ·rw [show cA (zN ms)=i from hf.hA];exact h1
  ·rw [show cB (zN ms)=k from hf.hB];exact h2
  ·rw [B2w];rfl
 | @fst i k ms bk x h h1 ih=>
  have hf:=h.facts
  rw [List.length_append]
  refine List.mem_flatMap.2 ⟨_,ih,mem_nxt.2 (.inr (.inl ⟨x,?_,?_⟩))⟩
  ·rw [show cA (zN ms)=i from hf.hA];exact h1
  ·rw [B2w];rfl
 | @snd i k ms bk x h h1 ih=>
  have hf:=h.facts
  rw [List.length_append]
  refine List.mem_flatMap.2 ⟨_,ih,mem_nxt.2 (.inr (.inr ⟨x,?_,?_⟩))⟩
  ·rw [show cB (zN ms)=k from hf.hB];exact h1
  ·rw [B2w];rfl
theorem lev_end{p q:List MA}{n:Nat}(h:p.length+q.length<n):lev p q n=[]:=by
 rw [List.eq_nil_iff_forall_not_mem]
 intro w hw
 obtain⟨i,k,ms,_,hl,hF⟩:=lev_fw hw
 have:=hF.facts
 have:=this.hi
 have:=hF.facts.hk
 have:=hF.facts.le
 omega
theorem nxt_pair(p q:List MA)(w:Lw):(nxt p q w).Pairwise fun u v=>u.marks≠v.marks:=by
 have h0:∀u∈nx0 p q w,u.marks=w.marks++[0]:=fun u hu=>by
  unfold nx0 at hu
  split at hu
  ·split at hu
   ·rw [List.mem_singleton.1 hu]
   ·cases hu
  ·cases hu
 have h1:∀u∈nx1 p w,u.marks=w.marks++[1]:=fun u hu=>by
  unfold nx1 at hu
  split at hu
  ·rw [List.mem_singleton.1 hu]
  ·cases hu
 have h2:∀u∈nx2 q w,u.marks=w.marks++[2]:=fun u hu=>by
  unfold nx2 at hu
  split at hu
  ·rw [List.mem_singleton.1 hu]
  ·cases hu
 have p0:(nx0 p q w).Pairwise fun u v=>u.marks≠v.marks:=by
  unfold nx0
  split
  ·split
   ·exact List.pairwise_singleton _ _
   ·exact .nil
  ·exact .nil
 have p1:(nx1 p w).Pairwise fun u v=>u.marks≠v.marks:=by
  unfold nx1
  split
  ·exact List.pairwise_singleton _ _
  ·exact .nil
 have p2:(nx2 q w).Pairwise fun u v=>u.marks≠v.marks:=by
  unfold nx2
  split
  ·exact List.pairwise_singleton _ _
  ·exact .nil
 unfold nxt
 rw [List.pairwise_append,List.pairwise_append]
 refine⟨⟨p0,p1,fun u hu v hv=>?_⟩,p2,fun u hu v hv=>?_⟩
 ·rw [h0 u hu,h1 v hv];simp
 ·rcases List.mem_append.1 hu with hu|hu
  ·rw [h0 u hu,h2 v hv];simp
  ·rw [h1 u hu,h2 v hv];simp
theorem nxt_marks{p q:List MA}{w u:Lw}(h:u∈nxt p q w):∃m,u.marks=w.marks++[m]:=by
 rcases mem_nxt.1 h with ⟨_,_,_,rfl⟩|⟨_,_,rfl⟩|⟨_,_,rfl⟩<;>exact⟨_,rfl⟩
theorem lev_pair(p q:List MA):∀n,(lev p q n).Pairwise fun u v=>u.marks≠v.marks
 | 0=>List.pairwise_singleton _ _
 | n+1=>by
  rw [show lev p q (n+1)=(lev p q n).flatMap (nxt p q)from Y,List.pairwise_flatMap]
  refine⟨fun w _=>nxt_pair p q w,(lev_pair p q n).imp fun h u hu v hv e=>h ?_⟩
  obtain⟨m,e1⟩:=nxt_marks hu
  obtain⟨m',e2⟩:=nxt_marks hv
  rw [e1,e2]at e
  exact List.append_inj_left' e Y
theorem outs_pair(p q:List MA):∀n,(outs p q n).Pairwise fun u v=>u.marks≠v.marks:=fun n=>by
 unfold outs
 rw [List.pairwise_flatMap]
 refine⟨fun j _=>(lev_pair p q j).filter _,List.pairwise_lt_range.imp fun h u hu v hv e=>?_⟩
 obtain⟨_,_,m1,e1,l1,_⟩:=lev_fw (List.mem_filter.1 hu).1
 obtain⟨_,_,m2,e2,l2,_⟩:=lev_fw (List.mem_filter.1 hv).1
 have h1:u.marks.length=m1.length:=by rw [e1];simp [zN]
 have h2:v.marks.length=m2.length:=by rw [e2];simp [zN]
 rw [e]at h1
 omega
def allW(p q:List MA):List Lw:=outs p q (p.length+q.length+1)
theorem mem_all{p q:List MA}{w:Lw}:w∈allW p q↔∃ms,w.marks=zN ms∧Fw p q p.length q.length ms w.book:=by
 unfold allW outs
 rw [List.mem_flatMap]
 constructor
 ·rintro⟨j,_,h⟩
  obtain⟨h1,h2⟩:=List.mem_filter.1 h
  obtain⟨i,k,ms,e,_,hF⟩:=lev_fw h1
  have hf:=hF.facts
  unfold full at h2
  simp only [Bool.and_eq_true,beq_iff_eq]at h2
  rw [e,hf.hA,hf.hB]at h2
  obtain⟨rfl,rfl⟩:=h2
  exact⟨ms,e,hF⟩
 ·rintro⟨ms,e,hF⟩
  have hf:=hF.facts
  have hle:=hf.le
  refine⟨ms.length,List.mem_range.2 oM,List.mem_filter.2 ⟨?_,?_⟩⟩
  ·have:=fw_lev hF
   rw [←e]at this
   exact this
  ·unfold full
   rw [e,show cA (zN ms)=_ from hf.hA,show cB (zN ms)=_ from hf.hB]
   simp
theorem B2y(l:List MA)(os:List Int)(x:MA):A3z os (l++[x])=doN (A3z os l) x:=by simp [A3z,List.foldl_append]
theorem drop_at{l:List MA}{i:Nat}{x:MA}(h:l[i]?=some x):l.drop i=x::l.drop (i+1):=by
 obtain⟨hi,rfl⟩:=List.getElem?_eq_some_iff.1 h
 exact List.drop_eq_getElem_cons hi
theorem Fw.toW{p q:List MA}{d:List Int}{i k:Nat}{ms:List Nat}{bk:List MA}(h:Fw p q i k ms bk):okL d bk=true→∀ms' bk' dk,W (p.drop i) (q.drop k) (A3z d bk) ms' bk' dk→W p q d (ms++ms') (bk++bk') dk:=by
 induction h with
 | nil=>intro _ ms' bk' dk hW;exact hW
 | @both i k ms bk x h h1 h2 ih=>
  intro hok ms' bk' dk hW
  rw [okL_snoc,Bool.and_eq_true,Bool.not_eq_true']at hok
  rw [B2y]at hW
  rw [List.append_assoc,List.append_assoc]
  refine ih hok.1 _ _ _ (.step (x:=x) (m:=0) dM ?_ hok.2 hW)
  rw [drop_at h1,drop_at h2];exact stepM_0
 | @fst i k ms bk x h h1 ih=>
  intro hok ms' bk' dk hW
  rw [okL_snoc,Bool.and_eq_true,Bool.not_eq_true']at hok
  rw [B2y]at hW
  rw [List.append_assoc,List.append_assoc]
  refine ih hok.1 _ _ _ (.step (x:=x) (m:=1) dM ?_ hok.2 hW)
  rw [drop_at h1];exact stepM_1
 | @snd i k ms bk x h h1 ih=>
  intro hok ms' bk' dk hW
  rw [okL_snoc,Bool.and_eq_true,Bool.not_eq_true']at hok
  rw [B2y]at hW
  rw [List.append_assoc,List.append_assoc]
  refine ih hok.1 _ _ _ (.step (x:=x) (m:=2) dM ?_ hok.2 hW)
  rw [drop_at h1];exact stepM_2
theorem at_drop{l:List MA}{i:Nat}{x:MA}{a:List MA}(h:l.drop i=x::a):l[i]?=some x∧a=l.drop (i+1):=by
 have hi:i<l.length:=Nat.lt_of_not_le fun hn=>by rw [List.drop_eq_nil_of_le hn]at h;cases h
 rw [List.drop_eq_getElem_cons hi]at h
 injection h with h1 h2
 exact⟨by rw [List.getElem?_eq_getElem hi,h1],h2.symm⟩
theorem W.toFw{p q a b:List MA}{os dk:List Int}{ms:List Nat}{bk:List MA}(h:W a b os ms bk dk):∀{i k:Nat} {ms0:List Nat} {bk0:List MA},a=p.drop i→b=q.drop k→Fw p q i k ms0 bk0→Fw p q p.length q.length (ms0++ms) (bk0++bk):=by
 induction h with
 | nil=>
  intro i k ms0 bk0 ha hb hF
  have h1:=hF.facts.hi
  have h2:=hF.facts.hk
  have e1:p.length≤i:=List.drop_eq_nil_iff.1 ha.symm
  have e2:q.length≤k:=List.drop_eq_nil_iff.1 hb.symm
  obtain rfl:i=p.length:=oM
  obtain rfl:k=q.length:=oM
  simpa using hF
 | @step a b a' b' os dk m x ms bk hm hs hr hW ih=>
  intro i k ms0 bk0 ha hb hF
  rw [show ms0++m::ms=(ms0++[m])++ms by simp,show bk0++x::bk=(bk0++[x])++bk by simp]
  rcases stepM_cases hm hs with ⟨rfl,e1,e2⟩|⟨rfl,e1,e2⟩|⟨rfl,e1,e2⟩
  ·obtain⟨h1,h2⟩:=at_drop (ha.symm.trans e1)
   obtain⟨h3,h4⟩:=at_drop (hb.symm.trans e2)
   exact ih h2 h4 (.both hF h1 h3)
  ·obtain⟨h1,h2⟩:=at_drop (ha.symm.trans e1)
   exact ih h2 (e2.symm.trans hb) (.fst hF h1)
  ·obtain⟨h3,h4⟩:=at_drop (hb.symm.trans e2)
   exact ih (e1.symm.trans ha) h4 (.snd hF h3)
def toWy(d:List Int)(w:Lw):Wy:=⟨w.marks,w.book,A3z d w.book⟩
def okW(d:List Int)(w:Lw):Bool:=okL d w.book
theorem all_perm(p q:List MA)(d:List Int):(((allW p q).filter (okW d)).map (toWy d)).Perm (ways p q ⟨[],[],d⟩):=by
 refine(List.perm_ext_iff_of_nodup ?_ ?_).2 fun u=>?_
 ·rw [List.Nodup,List.pairwise_map]
  exact((outs_pair p q _).filter _).imp fun h e=>h (by have:=congrArg Wy.marks e;exact this)
 ·refine(B1d (Nat.le_refl _)).imp fun h e=>?_
  rw [e,A7k]at h;cases h
 ·rw [mem_ways0,List.mem_map]
  constructor
  ·rintro⟨w,hw,rfl⟩
   obtain⟨h1,h2⟩:=List.mem_filter.1 hw
   obtain⟨ms,e,hF⟩:=mem_all.1 h1
   refine⟨ms,w.book,A3z d w.book,?_,?_⟩
   ·have:=hF.toW h2 [] [] (A3z d w.book) (by rw [List.drop_length,List.drop_length];exact .nil)
    simpa using this
   ·unfold toWy wyOf
    rw [e];rfl
  ·rintro⟨ms,bk,dk,hW,rfl⟩
   have hF:=hW.toFw (p:=p) (q:=q) (i:=0) (k:=0) Y Y .nil
   refine⟨⟨zN ms,bk⟩,List.mem_filter.2 ⟨mem_all.2 ⟨ms,Y,by simpa using hF⟩,hW.ok⟩,?_⟩
   unfold toWy wyOf
   rw [hW.dusk];rfl
theorem keep_perm(p q:List MA)(d:List Int):(A1n (((allW p q).filter (okW d)).map (toWy d))).2.Perm (A6k p q d):=(B2a (all_perm p q d)).2
theorem nxt_len(p q:List MA)(w:Lw):(nxt p q w).length≤3:=by
 unfold nxt
 rw [List.length_append,List.length_append]
 have h0:(nx0 p q w).length≤1:=by
  unfold nx0
  split
  ·split<;>simp
  ·simp
 have h1:(nx1 p w).length≤1:=by unfold nx1;split<;>simp
 have h2:(nx2 q w).length≤1:=by unfold nx2;split<;>simp
 omega
theorem flat_len3{α β:Type}{f:α→List β}(h:∀a,(f a).length≤3):∀l:List α,(l.flatMap f).length≤3*l.length
 | []=>Nat.le_refl _
 | a::l=>by
  have:=h a
  have:=flat_len3 h l
  rw [List.flatMap_cons,List.length_append,List.length_cons]
  omega
theorem lev_len(p q:List MA):∀n,(lev p q n).length≤3 ^ n
 | 0=>Nat.le_refl _
 | n+1=>by
  have h1:=flat_len3 (f:=nxt p q) (nxt_len p q) (lev p q n)
  have h2:=lev_len p q n
  rw [show lev p q (n+1)=(lev p q n).flatMap (nxt p q)from Y,Nat.pow_succ]
  omega
theorem outs_len(p q:List MA):∀n,(outs p q n).length≤3 ^ n
 | 0=>by simp [outs]
 | n+1=>by
  have h1:=outs_len p q n
  have h2:=lev_len p q n
  have h3:=List.length_filter_le (full p q) (lev p q n)
  rw [outs_succ,List.length_append,Nat.pow_succ]
  omega
theorem lev_stop{p q:List MA}{n:Nat}(h:lev p q n=[]):∀j,lev p q (n+j)=[]
 | 0=>h
 | j+1=>by
  rw [show lev p q (n+(j+1))=(lev p q (n+j)).flatMap (nxt p q)from Y,lev_stop h j];rfl
theorem outs_stop{p q:List MA}{n:Nat}(h:lev p q n=[]):∀j,outs p q (n+j)=outs p q n
 | 0=>rfl
 | j+1=>by
  rw [show n+(j+1)=(n+j)+1 from Y,outs_succ,lev_stop h j,outs_stop h j];simp
theorem take_flat{α β:Type}{f:α→List β}{l:List α}{i:Nat}(h:i<l.length):(l.take (i+1)).flatMap f=(l.take i).flatMap f++f l[i]:=by
 rw [List.take_succ_eq_append_getElem h,List.flatMap_append];simp
theorem take_filter{α:Type}{f:α→Bool}{l:List α}{i:Nat}(h:i<l.length):(l.take (i+1)).filter f=(l.take i).filter f++(if f l[i]then [l[i]]else []):=by
 rw [List.take_succ_eq_append_getElem h,List.filter_append]
 cases e:f l[i]<;>simp [e]
structure LevF(p q:List MA)(n:Nat)(w:Lw):Prop where
 a:cA w.marks≤p.length
 b:cB w.marks≤q.length
 ml:w.marks.length=n
 bl:w.book.length=n
 mem:∀x∈w.book,x∈p∨x∈q
theorem lev_facts{p q:List MA}{n:Nat}{w:Lw}(h:w∈lev p q n):LevF p q n w:=by
 obtain⟨i,k,ms,e,hl,hF⟩:=lev_fw h
 have hf:=hF.facts
 refine⟨by rw [e,hf.hA];exact hf.hi,by rw [e,hf.hB];exact hf.hk,by rw [e];simpa [zN]using hl,by rw [hf.len,hl],hf.mem⟩
theorem cA_take{ms:List Int}{k:Nat}(h:k<ms.length):cA (ms.take (k+1))=cA (ms.take k)+(if ms[k] != 2 then 1 else 0):=by
 unfold cA
 rw [List.take_succ_eq_append_getElem h,List.countP_append,List.countP_singleton]
theorem cB_take{ms:List Int}{k:Nat}(h:k<ms.length):cB (ms.take (k+1))=cB (ms.take k)+(if ms[k] != 1 then 1 else 0):=by
 unfold cB
 rw [List.take_succ_eq_append_getElem h,List.countP_append,List.countP_singleton]
theorem cA_le(ms:List Int)(k:Nat):cA (ms.take k)≤ms.length:=Nat.le_trans List.countP_le_length (by rw [List.length_take];omega)
theorem cB_le(ms:List Int)(k:Nat):cB (ms.take k)≤ms.length:=Nat.le_trans List.countP_le_length (by rw [List.length_take];omega)
theorem nx0_some{p q:List MA}{w:Lw}{x y:MA}(hx:p[cA w.marks]?=some x)(hy:q[cB w.marks]?=some y):nx0 p q w=if x=y then [⟨w.marks++[0],w.book++[x]⟩]else []:=by unfold nx0;rw [hx,hy]
theorem nx0_none{p q:List MA}{w:Lw}(h:¬(cA w.marks<p.length∧cB w.marks<q.length)):nx0 p q w=[]:=by
 unfold nx0
 split
 ·rename_i x y hx hy
  exact absurd ⟨(List.getElem?_eq_some_iff.1 hx).1,(List.getElem?_eq_some_iff.1 hy).1⟩ h
 ·rfl
theorem nx1_some{p:List MA}{w:Lw}{x:MA}(hx:p[cA w.marks]?=some x):nx1 p w=[⟨w.marks++[1],w.book++[x]⟩]:=by unfold nx1;rw [hx]
theorem nx1_none{p:List MA}{w:Lw}(h:¬cA w.marks<p.length):nx1 p w=[]:=by unfold nx1;rw [List.getElem?_eq_none oM]
theorem nx2_some{q:List MA}{w:Lw}{x:MA}(hx:q[cB w.marks]?=some x):nx2 q w=[⟨w.marks++[2],w.book++[x]⟩]:=by unfold nx2;rw [hx]
theorem nx2_none{q:List MA}{w:Lw}(h:¬cB w.marks<q.length):nx2 q w=[]:=by unfold nx2;rw [List.getElem?_eq_none oM]
end Go.Pal.To
end
section
namespace Go.Proofs.YtclejblcnfaeaaaGreat
open Go Go.Pal Go.Pal.To Go.Conc View
open Go.Proofs.Tryz
set_option maxHeartbeats 4000000
set_option maxRecDepth 20000
abbrev lwC(am:Option Addr)(nm cm:Nat)(ab:Option Addr)(nb cb:Nat):List Value:=[.slice am nm cm,.slice ab nb cb]
def LwAt(v:View)(y:List Value)(w:Lw):Prop:=∃am cm ab cb,y=lwC am w.marks.length cm ab w.book.length cb∧RowAt v am (w.marks.map intV)∧ActsAt v ab w.book
theorem LwAt.le{u v:View}{y:List Value}{w:Lw}(h:LwAt u y w)(hl:u.Le v):LwAt v y w:=by
 obtain⟨am,cm,ab,cb,h0,h1,h2⟩:=h
 exact⟨am,cm,ab,cb,h0,h1.le hl,h2.le hl⟩
inductive LwsAt(v:View):List (List Value)→List Lw→Prop
 | nil:LwsAt v [] []
 | cons {y:List Value} {w:Lw} {ys:List (List Value)} {ws:List Lw}:LwAt v y w→LwsAt v ys ws→LwsAt v (y::ys) (w::ws)
theorem LwsAt.le{u v:View}(hl:u.Le v):∀{ys:List (List Value)} {ws:List Lw},LwsAt u ys ws→LwsAt v ys ws
 | _,_,.nil=>.nil
 | _,_,.cons h r=>.cons (h.le hl) (LwsAt.le hl r)
theorem LwsAt.app{v:View}{ys':List (List Value)}{ws':List Lw}(h':LwsAt v ys' ws'):∀{ys:List (List Value)} {ws:List Lw},LwsAt v ys ws→LwsAt v (ys++ys') (ws++ws')
 | _,_,.nil=>h'
 | _,_,.cons h r=>.cons h (LwsAt.app h' r)
theorem lws_get{v:View}:∀{ys:List (List Value)} {ws:List Lw},LwsAt v ys ws→∀{i:Nat} (hi:i<ws.length),∃y,ys[i]?=some y∧LwAt v y ws[i]
 | _,_,.cons h _,0,_=>⟨_,rfl,h⟩
 | _,_,.cons _ r,i+1,hi=>lws_get r (i:=i) (by simpa using hi)
theorem lws_two{v:View}:∀{ys:List (List Value)} {ws:List Lw},LwsAt v ys ws→ys.length=ws.length∧∀y∈ys,y.length=2
 | _,_,.nil=>⟨rfl,fun y hy=>nomatch hy⟩
 | _,_,.cons h r=>by
  obtain⟨h1,h2⟩:=lws_two r
  refine⟨by simp [h1],fun y hy=>?_⟩
  rcases List.mem_cons.1 hy with rfl|hy
  ·obtain⟨am,cm,ab,cb,rfl,_⟩:=h;rfl
  ·exact h2 y hy
theorem lws_read{v:View}{al:Option Addr}{rows:List (List Value)}{ws:List Lw}(hrow:RowAt v al rows.flatten)(hrs:LwsAt v rows ws){i:Nat}(hi:i<ws.length) :
  ∃ b off p c e f am cm ab cb,al=some ⟨b,off,none⟩∧v b=some (p,.cells c e f)∧(off+i*2+2≤c.size∧c.extract (off+i*2) (off+i*2+2)=(lwC am ws[i].marks.length cm ab ws[i].book.length cb).toArray)∧
   c[off+i*2+0]?=some (.slice am ws[i].marks.length cm)∧c[off+i*2+1]?=some (.slice ab ws[i].book.length cb)∧RowAt v am (ws[i].marks.map intV)∧ActsAt v ab ws[i].book:=by
 obtain⟨h1,h2⟩:=lws_two hrs
 obtain⟨y,hy,am,cm,ab,cb,rfl,hm,hb⟩:=lws_get hrs hi
 obtain⟨b,off,p,c,e,f,h3,h4,h5⟩:=RowAt.recs (k:=2) hrow h2 dM (i:=i) oM
 obtain⟨h6,h7⟩:=h5 i oM
 rw [show rows[i]' oM=lwC am ws[i].marks.length cm ab ws[i].book.length cb from by
  have:=List.getElem?_eq_getElem (l:=rows) (i:=i) oM
  rw [this]at hy
  exact Option.some.inj hy]at h7
 have hc:∀j,j<2→c[off+i*2+j]?=(lwC am ws[i].marks.length cm ab ws[i].book.length cb)[j]?:=fun j hj=>by
  have h8:=congrArg (fun x:Array Value=>x[j]?) h7
  simp only [Array.getElem?_extract]at h8
  rw [if_pos oM]at h8
  rw [h8];simp
 exact⟨b,off,p,c,e,f,am,cm,ab,cb,h3,h4,⟨h6,h7⟩,hc 0 dM,hc 1 dM,hm,hb⟩
def spLg(w:Lw)(mark:Int)(x:MA):Nat→Value→A0e→Prop
 | 2,y,β=>OwnI 3 1 y β w.marks.length (w.marks.map intV)
 | 4,y,β=>OwnI 3 1 y β 1 [intV mark]
 | 5,y,β=>OwnI 3 1 y β (w.marks.length+1) (w.marks.map intV++[intV mark])
 | 8,y,β=>OwnI 26 4 y β w.book.length (w.book.map MA.cells).flatten
 | 10,y,β=>OwnI 26 4 y β 1 x.cells
 | 11,y,β=>OwnI 26 4 y β (w.book.length+1) ((w.book.map MA.cells).flatten++x.cells)
 | _,y,β=>∃am cm ab cb s1 s2,y = .agg (lwC am (w.marks.length+1) cm ab (w.book.length+1) cb).toArray∧β=s1++s2∧OwnS 3 1 s1 am (w.marks.length+1) cm (w.marks.map intV++[intV mark])∧OwnS 26 4 s2 ab (w.book.length+1) cb ((w.book.map MA.cells).flatten++x.cells)
def preLg:Nat→List Nat|5=>[2,4]|11=>[8,10]|12=>[5,11]|_=>[]
section
variable{mn:Who}{v:View}{x:MA}{w:Lw}{y:List Value}{mark:Int}
theorem longer_x(hy:LwAt v y w)(h1:w.marks.length<2^20)(h2:w.book.length<2^20) :
  CallsB prog mn 142 #[.agg y.toArray,intV mark,x.val] (RetB fun r β'=>∃am cm ab cb,r = .agg (lwC am (w.marks++[mark]).length cm ab (w.book++[x]).length cb).toArray∧∀u,Bok β' u→LwAt (u.union (A0c β')) (lwC am (w.marks++[mark]).length cm ab (w.book++[x]).length cb) ⟨w.marks++[mark],w.book++[x]⟩) [] v:=by
 obtain⟨am,cm,ab,cb,rfl,hm,hb⟩:=hy
 refine A0d tab func142 Y nB (args:=[_,_,_]) ?_
 refine sw fun bx=>?_;refine sw fun bx=>?_;refine sw fun bx=>?_
 rename_i b3 b5
 obtain⟨b6,rfl⟩:∃x:Nat,x=bx:=⟨bx,rfl⟩
 refine A1d [2,4,5,8,10,11,12,13] [0,1,3,6,7,9,2,4,5,8,10,11,12,13] A1e Y kR ?_
 refine su ?_
 refine S_tree (Sp:=spLg w mark x) (pre:=preLg) [2,4,5,8,10,11,12] (fun i=>i+7) dM dM (fun i hi=>?_) dM dM (fun i hi=>?_) (by repeat (first|exact trivial|(refine⟨?_,?_⟩;focus exact ib))) kR (fun j hj c hc u' hu'=>?_) (fun c hc hz=>?_)
 ·simp only [List.mem_cons,List.not_mem_nil,or_false]at hi
  rcases hi with rfl|rfl|rfl|rfl|rfl|rfl|rfl<;>rfl
 ·simp only [List.mem_cons,List.not_mem_nil,or_false]at hi
  rcases hi with rfl|rfl|rfl|rfl|rfl|rfl|rfl<;>exact⟨fun o ho=>by cases ho;rfl,rfl⟩
 ·simp only [List.mem_cons,List.not_mem_nil,or_false]at hj
  rcases hj with rfl|rfl|rfl|rfl|rfl|rfl|rfl
  ·exact A0o [] _ Y bod51 Y Y Y Y Y A7s (ownInts_i ((hm.le hu').le (A0g _ _)) oM) (fun y β' hR=>⟨Y,_,_,hR,Y⟩)
  ·exact A3w tab Y Y Y Y Y Y Y Y Y Y (fun b c hL=>⟨Y,_,_,⟨_,_,Y,hL⟩,Y⟩)
  ·obtain⟨a0,c0,h1,hL⟩:=hc 2 dM
   obtain⟨a1,c1,h2,hL2⟩:=hc 4 dM
   simp only [show preLg 5=[2,4]from Y,netR,netβ,h1,h2]
   exact A3x tab (xs:=[intV mark]) (c 2).2 (c 4).2 _ Y Y Y Y Y Y Y Y Y Y Y cntA hL (fun hb=>RowAt.own hb cntL hL2) Y Y oM oM (fun sg a1 c1 hS=>⟨Y,_,_,⟨_,_,Y,hS⟩,Y⟩)
  ·exact A0o [] _ Y bod33 Y Y Y Y Y A7s (ownActs_x (RowAt.le (RowAt.le hb hu') (A0g _ _)) oM) (fun y β' hR=>⟨Y,_,_,hR,Y⟩)
  ·exact A3w tab Y Y Y Y Y Y Y Y Y Y (fun b c hL=>⟨Y,_,_,⟨_,_,Y,hL⟩,Y⟩)
  ·obtain⟨a0,c0,h1,hL⟩:=hc 8 dM
   obtain⟨a1,c1,h2,hL2⟩:=hc 10 dM
   simp only [show preLg 11=[8,10]from Y,netR,netβ,h1,h2]
   exact A3x tab (xs:=x.cells) (c 8).2 (c 10).2 _ Y Y Y Y Y Y Y Y Y Y Y cntA hL (fun hb=>RowAt.own hb cntL hL2) Y Y oM oM (fun sg a1 c1 hS=>⟨Y,_,_,⟨_,_,Y,hS⟩,Y⟩)
  ·obtain⟨a0,c0,h1,hL⟩:=hc 5 dM
   obtain⟨a1,c1,h2,hL2⟩:=hc 11 dM
   simp only [show preLg 12=[5,11]from Y,netR,netβ,h1,h2]
   exact A_mk tab Y Y Y Y ⟨Y,_,(c 5).2++(c 11).2,⟨_,_,_,_,_,_,Y,Y,hL,hL2⟩,by simp only [List.append_assoc];rfl⟩
 obtain⟨a2,c2,a4,c4,s1,s2,e12,f12,hS2,hS4⟩:=hc 12 dM dM
 simp only [netR,netβ,e12,f12,hz 2 dM dM,hz 4 dM dM,hz 5 dM dM,hz 8 dM dM,hz 10 dM dM,hz 11 dM dM,List.nil_append]
 clear hc hz e12 f12
 refine su ?_
 refine A0f tab (s1++s2) (by exact .cell rfl ib rfl .nil) (Back.here cntL) ?_
 refine⟨a2,c2,a4,c4,by rw [List.length_append,List.length_append];rfl,fun u hbu=>⟨a2,c2,a4,c4,Y,?_,?_⟩⟩
 ·refine RowAt.own (seg:=s1) hbu cntL (e:=3) (k:=1) (len:=w.marks.length+1) (cap:=c2) ?_
  show OwnS 3 1 s1 a2 _ c2 ((w.marks++[mark]).map intV)
  rw [List.map_append]
  exact hS2
 ·refine RowAt.own (seg:=s2) hbu cntL (e:=26) (k:=4) (len:=w.book.length+1) (cap:=c4) ?_
  show OwnS 26 4 s2 a4 _ c4 (((w.book++[x]).map MA.cells).flatten)
  rw [List.map_append,List.flatten_append]
  simpa using hS4
end
end Go.Proofs.YtclejblcnfaeaaaGreat
end
