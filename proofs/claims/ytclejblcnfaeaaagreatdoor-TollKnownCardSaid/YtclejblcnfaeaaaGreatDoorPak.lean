/- Part 11. -/
import Derived.Test.YtclejblcnfaeaaaGreatDoorPaj
set_option linter.all false
section
namespace Go.Pal
open Go Go.Conc View
section
variable{P:Program}{mn:Who}{rd:Option Nat}{n:Nat}{Q:Exit→St→View→Prop}{ds:List Deferred}{ρ:Regs}{β:A0e}{v:View}
 {ops:Array Oper}{i:Nat}{S:List Rec}{done done':List Nat}{ms:List Nat}{v0:View}{todo todo':List Nat}
theorem xop_more{ρτ ρσ:Regs}{βτ βσ βr:A0e}{d:Nat}{M:Value→A0e→Prop}{K:St→View→Prop}(hr:∀t x,ρτ.get t=some x→ρσ.get t=some x)(hβ:∀p,cnt p βσ=cnt p (βr++βτ))(hdst:∀o,ops[i]?=some o→o.dst=some d)(hdn:Nat.blt d n=true)
  (h:∀u,v.Le u→XOp P mn rd n ops i (fun _ _ _=>False) (fun σ' u'=>u'=u∧∃x βi,M x βi∧σ'=⟨ds,(d,x)::ρτ,βi++βτ⟩) ⟨ds,ρτ,βτ⟩ u)
  (hK:∀x βi,M x βi→K ⟨ds,(d,x)::ρσ,βi++βσ⟩ v):XOp P mn rd n ops i (fun _ _ _=>False) K ⟨ds,ρσ,βσ⟩ v:=fun a hf hb=>by
 obtain⟨hb1,he⟩:=A3v (A2e (l:=βσ) (m:=βτ++βr) fun p=>by rw [hβ p,A0n,A0n];omega) hb
 obtain⟨hb2,hb3⟩:=bok_append.1 hb1
 obtain⟨o,ho,hw,hd,hs⟩:=h _ (A0g v (A0c βr)) a ⟨hf.size,hf.defers,fun t x e=>hf.get t x (hr t x e)⟩ hb3
 have hod:=hdst o ho
 have hdn':A2p n (some d)=true:=hdn
 refine⟨o,ho,hw,hd,?_⟩
 have key:∀{x0 w},KP n (fun σ' u'=>u'=v.union (A0c βr)∧∃x βi,M x βi∧σ'=⟨ds,(d,x)::ρτ,βi++βτ⟩) (a.put o.dst x0) w→KP n K (a.put o.dst x0) w:=by
  rintro x0 w ⟨σ',u',⟨rfl,x,βi,hM,rfl⟩,hf',hb',hw'⟩
  have hg:∀(y:Value) (l:Regs),Regs.get ((d,y)::l) d=some y:=fun y l=>by simp [Regs.get]
  have hx:x0=x:=by
   have h1:=hf'.get d x (hg _ _)
   have h2:=(A0x (x:=x0) hf hdn').get d x0 (hg _ _)
   rw [hod]at h1
   exact Option.some.inj (h2.symm.trans h1)
  subst hx
  have hb4:Bok ((βi++βτ)++βr) v:=bok_append.2 ⟨hb2,hb'⟩
  obtain⟨hb5,he5⟩:=A3v (A2e (l:=(βi++βτ)++βr) (m:=βi++βσ) fun p=>by rw [A0n,A0n,A0n,hβ p,A0n];omega) hb4
  refine⟨⟨ds,(d,x0)::ρσ,βi++βσ⟩,v,hK _ _ hM,?_,hb5,?_⟩
  ·have:=A0x (x:=x0) hf hdn'
   rw [hod]
   exact⟨this.size,this.defers,this.get⟩
  ·show(v.union (A0c (βi++βσ))).Le w
   rw [he5,A0v hb4]
   exact hw'
 show SemX P _ _ _ (v.union (A0c βσ))
 rw [←he,A0v hb1]
 refine A1y _ (fun nx w hK=>?_) (fun x w hE=>hE.elim fun _ h=>h.elim fun _ h=>h.1.elim) hs
 cases nx with
 | value x=>exact key hK
 | skip=>exact key hK
 | defer d'=>
  obtain⟨_,σ',u',⟨rfl,x,βi,hM,rfl⟩,hf',_⟩:=hK
  exfalso
  have h1:=hf'.defers
  have h2:=hf.defers
  simp only [Act.put]at h1
  rw [hod]at h1
  simp only at h1 h2
  rw [h2]at h1
  exact absurd (congrArg List.length h1) sM
 | enter f args=>exact CallsX.mono hK fun e w' hR=>⟨w',Le.refl _,by
   cases e with
   | ret x=>exact key hR
   | pan ch=>obtain⟨_,_,h,_⟩:=hR;exact h.elim⟩
 | round l f tmps assign body=>exact⟨hK.1,RoundX.mono hK.2 fun e w' hR=>⟨w',Le.refl _,by
   cases e with
   | ret x=>exact key hR
   | pan ch=>obtain⟨_,_,h,_⟩:=hR;exact h.elim⟩⟩
 | _=>exact hK.elim
theorem XS_by{ρ':Regs}{β':A0e}(h:XS P mn n ops ms v0 Q todo S done ⟨ds,ρ',β'⟩ v)(hd:mkL ops done=mkL ops done')(ht:todo.length=todo'.length)(hg:∀t x,ρ'.get t=some x→ρ.get t=some x)(hs:Subm β' β):XS P mn n ops ms v0 Q todo' S done' ⟨ds,ρ,β⟩ v:=fun a hf hb hv hc=>by
 obtain⟨h1,h2⟩:=A5k hs hb
 have hx:=h a ⟨hf.size,hf.defers,fun t x e=>hf.get t x (hg t x e)⟩ h1 hv (by rw [hd];exact hc)
 rw [hd,ht]at hx
 exact A5b (K:=fun a u=>Post n Q .normal a u) (fun a u v hl hp=>post_le hl hp) _ _ _ _ _ _ h2 hx
theorem mkL_at{l:List Nat}:∀(j:Nat),(mkL ops l)[j]?=if j<ops.size then some (decide (j∈l))else none:=by
 induction l with
 | nil=>intro j;simp only [mkL,Array.getElem?_replicate];split<;>simp
 | cons i r ih=>
  intro j
  simp only [mkL,Array.getElem?_setIfInBounds,A8m,ih]
  by_cases e:i=j
  ·subst e
   by_cases h:i<ops.size<;>simp [h]
  ·rw [if_neg e]
   by_cases h:j<ops.size
   ·simp [h,Ne.symm e]
   ·simp [h]
theorem mkL_mem{l m:List Nat}(h:∀j,j∈l↔j∈m):mkL ops l=mkL ops m:=by
 apply Array.ext_getElem?
 intro j
 rw [mkL_at,mkL_at]
 simp only [h j]
abbrev NetC:=Nat→Option (Value×A0e)
def netS(W:List Nat)(c:NetC):List Nat:=W.filter fun i=>(c i).isSome
def netR(dst:Nat→Nat)(c:NetC)(ρ0:Regs):List Nat→Regs
 | []=>ρ0
 | i::W=>match c i with|some q=>(dst i,q.1)::netR dst c ρ0 W|none=>netR dst c ρ0 W
def netβ(c:NetC)(β0:A0e):List Nat→A0e
 | []=>β0
 | i::W=>match c i with|some q=>q.2++netβ c β0 W|none=>netβ c β0 W
def netU(c:NetC)(j:Nat)(q:Value×A0e):NetC:=fun i=>if i=j then some q else c i
def netB(ops:Array Oper)(ms W:List Nat)(pre:Nat→List Nat)(done0:List Nat):Nat→List Nat→Bool
 | 0,D=>D==W
 | k+1,D=>!(Region.ready .any ops (mkL ops (D++done0))).isEmpty&&(Region.ready .any ops (mkL ops (D++done0))).all fun j=>W.contains j && !D.contains j&&ms.contains j&&(pre j).all (fun i=>D.contains i)&&netB ops ms W pre done0 k (W.filter fun i=>Nat.beq i j||D.contains i)
variable{dst:Nat→Nat}{c:NetC}{W:List Nat}{ρ0:Regs}{β0:A0e}{j:Nat}{q:Value×A0e}
theorem A3a{i:Nat}(h:i≠j):netU c j q i=c i:=if_neg h
theorem A8l:netU c j q j=some q:=if_pos Y
theorem netR_not:∀{W:List Nat},j∉W→netR dst (netU c j q) ρ0 W=netR dst c ρ0 W
 | [],_=>rfl
 | i::W,h=>by
  simp only [List.mem_cons,not_or]at h
  simp only [netR,A3a (Ne.symm h.1),netR_not h.2]
theorem netβ_not:∀{W:List Nat},j∉W→netβ (netU c j q) β0 W=netβ c β0 W
 | [],_=>rfl
 | i::W,h=>by
  simp only [List.mem_cons,not_or]at h
  simp only [netβ,A3a (Ne.symm h.1),netβ_not h.2]
theorem netβ_put:∀{W:List Nat},W.Nodup→j∈W→c j=none→∀p,cnt p (netβ (netU c j q) β0 W)=cnt p (q.2++netβ c β0 W)
 | i::W,hn,hj,hc,p=>by
  rw [List.nodup_cons]at hn
  by_cases e:i=j
  ·subst e
   simp only [netβ,A8l,hc,netβ_not hn.1]
  ·have hj':j∈W:=by rcases List.mem_cons.1 hj with h|h;exact absurd h.symm e;exact h
   have ih:=netβ_put hn.2 hj' hc p
   simp only [netβ,A3a e]
   cases c i with
   | none=>exact ih
   | some r=>simp only [A0n]at ih⊢;omega
theorem netR_put:∀{W:List Nat},W.Nodup→j∈W→c j=none→(∀i∈W,dst i=dst j→i=j)→∀t x,(netR dst (netU c j q) ρ0 W).get t=some x→Regs.get ((dst j,q.1)::netR dst c ρ0 W) t=some x
 | i::W,hn,hj,hc,hd,t,x,h=>by
  rw [List.nodup_cons]at hn
  by_cases e:i=j
  ·subst e
   simp only [netR,A8l,hc,netR_not hn.1]at h⊢
   exact h
  ·have hj':j∈W:=by rcases List.mem_cons.1 hj with h|h;exact absurd h.symm e;exact h
   simp only [netR,A3a e]at h⊢
   have ih:=netR_put hn.2 hj' hc (fun i hi=>hd i (List.mem_cons_of_mem _ hi)) t x
   cases hci:c i with
   | none=>rw [hci]at h;exact ih h
   | some r=>
    rw [hci]at h
    simp only [Regs.get]at h ih⊢
    cases hb:Nat.beq (dst i) t with
    | false=>
     rw [hb]at h
     simp only [cond_false]at h⊢
     exact ih h
    | true=>
     rw [hb]at h
     have h1:=Nat.eq_of_beq_eq_true hb
     have h2:Nat.beq (dst j) t=false:=by
      cases h3:Nat.beq (dst j) t with
      | false=>rfl
      | true=>exact absurd (hd i (List.mem_cons_self ..) (h1.trans (Nat.eq_of_beq_eq_true h3).symm)) e
     rw [h2]
     exact h
theorem netR_get:∀{W:List Nat},W.Nodup→(∀i∈W,∀k∈W,dst i=dst k→i=k)→∀(V:List Nat),(∀i∈V,i∈W∧(c i).isSome=true)→V.Nodup→(∀i∈W,ρ0.get (dst i)=none)→∀t x,(netR dst c ρ0 V).get t=some x→(netR dst c ρ0 W).get t=some x:=by
 intro W hn hd V hV hVn h0 t x h
 have look:∀(V:List Nat),V.Nodup→(∀i∈V,∀k∈V,dst i=dst k→i=k)→∀t,(netR dst c ρ0 V).get t=(match V.find? (fun i=>Nat.beq (dst i) t&&(c i).isSome)with|some i=>(c i).map (·.1)|none=>ρ0.get t):=by
  intro V
  induction V with
  | nil=>intros;rfl
  | cons i V ih=>
   intro hn hd t
   rw [List.nodup_cons]at hn
   have ih:=ih hn.2 (fun i hi k hk=>hd i (List.mem_cons_of_mem _ hi) k (List.mem_cons_of_mem _ hk)) t
   simp only [netR,List.find?_cons]
   cases hci:c i with
   | none=>simp only [Option.isSome_none,Bool.and_false];exact ih
   | some r=>
    simp only [Regs.get,Option.isSome_some,Bool.and_true]
    cases hb:Nat.beq (dst i) t with
    | true=>simp [hci]
    | false=>simp only [cond_false];exact ih
 rw [look V hVn (fun i hi k hk=>hd i (hV i hi).1 k (hV k hk).1)]at h
 rw [look W hn hd]
 cases hf:V.find? (fun i=>Nat.beq (dst i) t&&(c i).isSome)with
 | some i=>
  rw [hf]at h
  have h1:=List.find?_some hf
  have h2:=List.mem_of_find?_eq_some hf
  simp only [Bool.and_eq_true]at h1
  cases hw:W.find? (fun i=>Nat.beq (dst i) t&&(c i).isSome)with
  | none=>
   have:=List.find?_eq_none.1 hw i (hV i h2).1
   rw [h1.1,h1.2]at this
   exact absurd Y this
  | some k=>
   have h3:=List.find?_some hw
   simp only [Bool.and_eq_true]at h3
   have:k=i:=hd k (List.mem_of_find?_eq_some hw) i (hV i h2).1 ((Nat.eq_of_beq_eq_true h3.1).trans (Nat.eq_of_beq_eq_true h1.1).symm)
   subst this
   exact h
 | none=>
  rw [hf]at h
  cases hw:W.find? (fun i=>Nat.beq (dst i) t&&(c i).isSome)with
  | none=>exact h
  | some k=>
   exfalso
   have h3:=List.find?_some hw
   simp only [Bool.and_eq_true]at h3
   have hk:=List.mem_of_find?_eq_some hw
   have e:=Nat.eq_of_beq_eq_true h3.1
   subst e
   rw [h0 k hk]at h
   cases h
theorem A9s{c c':NetC}:∀{W:List Nat},(∀i∈W,c i=c' i)→netR dst c ρ0 W=netR dst c' ρ0 W
 | [],_=>rfl
 | i::W,h=>by simp only [netR,h i (List.mem_cons_self ..),A9s fun k hk=>h k (List.mem_cons_of_mem _ hk)]
theorem A9r{c c':NetC}:∀{W:List Nat},(∀i∈W,c i=c' i)→netβ c β0 W=netβ c' β0 W
 | [],_=>rfl
 | i::W,h=>by simp only [netβ,h i (List.mem_cons_self ..),A9r fun k hk=>h k (List.mem_cons_of_mem _ hk)]
theorem netβ_part(f:Nat→Bool):∀(W:List Nat) (p:Nat×Array Value×TypeId),cnt p (netβ c β0 W)=cnt p (netβ c [] (W.filter fun i=>!f i)++netβ c β0 (W.filter f))
 | [],p=>rfl
 | i::W,p=>by
  have ih:=netβ_part f W p
  cases hf:f i<;>cases hc:c i<;>simp only [netβ,List.filter_cons,hf,hc,Bool.not_true,Bool.not_false,Bool.false_eq_true,if_true,if_false]<;>simp only [A0n]at ih⊢<;>omega
theorem in_net{b:Nat}{cc:Array Value}{t:TypeId}(h:InB b cc t β0):∀W:List Nat,InB b cc t (netβ c β0 W)
 | []=>h
 | i::W=>by
  simp only [netβ]
  cases c i with
  | none=>exact in_net h W
  | some q=>exact InB.app (in_net h W)
def KeepA:List Rec→A0e→Prop
 | [],_=>True
 | (_,b,c,t)::S,β=>InB b c t β∧KeepA S β
theorem keep_net{βi:A0e}{j:Nat}:∀{S:List Rec},KeepA S β0→KeepS ops j S (βi++netβ c β0 W)
 | [],_=>trivial
 | (_,_,_,_)::_,h=>⟨.inr (InB.app (in_net h.1 W)),keep_net h.2⟩
theorem allL_of{f:Nat→Prop}:∀{js:List Nat},(∀j∈js,f j)→AllL f js
 | [],_=>trivial
 | j::js,h=>⟨h j (List.mem_cons_self ..),allL_of fun k hk=>h k (List.mem_cons_of_mem _ hk)⟩
theorem mem_netS{i:Nat}:i∈netS W c↔i∈W∧(c i).isSome=true:=by unfold netS;exact List.mem_filter
theorem S_net{Sp:Nat→List (Value×A0e)→Value→A0e→Prop}{pre:Nat→List Nat}(W:List Nat)(dst:Nat→Nat)(hW:W.Nodup)(hd:∀i∈W,∀k∈W,dst i=dst k→i=k)(h0:∀i∈W,ρ0.get (dst i)=none)(hpre:∀j∈W,pre j=W.filter fun i=>(pre j).contains i)
    (hop:∀i∈W,(∀o,ops[i]?=some o→o.dst=some (dst i))∧Nat.blt (dst i) n=true)(hS:KeepA S β0)(hB:netB ops ms W pre done W.length []=true)
    (hstep:∀j∈W,∀c:Nat→Value×A0e,(∀i∈pre j,Sp i ((pre i).map c) (c i).1 (c i).2)→∀u,v.Le u→XOp P mn (some 4294967295) n ops j (fun _ _ _=>False) (fun σ' u'=>u'=u∧∃x βi,Sp j ((pre j).map c) x βi∧σ'=⟨ds,(dst j,x)::netR dst (fun i=>some (c i)) ρ0 (pre j),βi++netβ (fun i=>some (c i)) β0 (pre j)⟩) ⟨ds,netR dst (fun i=>some (c i)) ρ0 (pre j),netβ (fun i=>some (c i)) β0 (pre j)⟩ u)
    (hfin:∀c:Nat→Value×A0e,(∀i∈W,Sp i ((pre i).map c) (c i).1 (c i).2)→XS P mn n ops ms v0 Q todo S (W++done) ⟨ds,netR dst (fun i=>some (c i)) ρ0 W,netβ (fun i=>some (c i)) β0 W⟩ v) :
    XS P mn n ops ms v0 Q (W++todo) S done ⟨ds,ρ0,β0⟩ v:=by
  let tot:NetC→Nat→Value×A0e:=fun c i=>(c i).getD default
  have go:∀(k:Nat) (c:NetC),(∀i∈W,∀q,c i=some q→(∀k∈pre i,(c k).isSome=true)∧Sp i ((pre i).map (tot c)) q.1 q.2)→netB ops ms W pre done k (netS W c)=true→XS P mn n ops ms v0 Q (List.replicate k 0++todo) S (netS W c++done) ⟨ds,netR dst c ρ0 W,netβ c β0 W⟩ v:=by
    intro k
    induction k with
    | zero=>
      intro c hc hb
      have e:netS W c=W:=by simpa [netB]using hb
      have hs:∀i∈W,c i=some (tot c i):=fun i hi=>by
        have:=(mem_netS.1 (e.symm ▸ hi:i∈netS W c)).2
        cases hci:c i with
        | none=>rw [hci]at this;cases this
        | some q=>simp [tot,hci]
      have:=hfin (tot c) fun i hi=>(hc i hi _ (hs i hi)).2
      rw [e,A9s hs,A9r hs]
      exact this
    | succ k ih=>
      intro c hc hb
      simp only [netB,Bool.and_eq_true]at hb
      obtain⟨hb1,hb2⟩:=hb
      have hall:∀j∈Region.ready .any ops (mkL ops (netS W c++done)),j∈W∧c j=none∧ms.contains j=true∧(∀i∈pre j,i∈netS W c)∧netB ops ms W pre done k (W.filter fun i=>Nat.beq i j||(netS W c).contains i)=true:=fun j hj=>by
        have h:=List.all_eq_true.1 hb2 j hj
        simp only [Bool.and_eq_true]at h
        obtain⟨⟨⟨⟨h1,h2⟩,h3⟩,h4⟩,h5⟩:=h
        have hjW:j∈W:=by simpa using h1
        have hjn:j∉netS W c:=by simpa using h2
        refine⟨hjW,?_,h3,fun i hi=>by simpa using List.all_eq_true.1 h4 i hi,h5⟩
        cases hcj:c j with
        | none=>rfl
        | some q=>exact absurd (mem_netS.2 ⟨hjW,by rw [hcj];rfl⟩) hjn
      refine S_many (Region.ready .any ops (mkL ops (netS W c++done))) ?_ (allL_of fun j hj=>?_)
      · simp only [manyB,Bool.and_eq_true]
        exact⟨⟨hb1,List.all_eq_true.2 fun j hj=>by simpa using hj⟩,List.all_eq_true.2 fun j hj=>(hall j hj).2.2.1⟩
      · obtain⟨hjW,hcj,_,hp,hn⟩:=hall j hj
        have hsub:∀i∈pre j,i∈W:=fun i hi=>(mem_netS.1 (hp i hi)).1
        have hsome:∀i∈pre j,c i=some (tot c i):=fun i hi=>by
          have h2:=(mem_netS.1 (hp i hi)).2
          cases hci:c i with
          | none=>rw [hci]at h2;cases h2
          | some q=>simp [tot,hci]
        have hpn:(pre j).Nodup:=by rw [hpre j hjW];exact hW.filter _
        have hstep':=hstep j hjW (tot c) fun i hi=>(hc i (hsub i hi) _ (hsome i hi)).2
        rw [←A9s hsome,←A9r hsome]at hstep'
        have htot:∀(q:Value×A0e) (l:List Nat),j∉l→l.map (tot (netU c j q))=l.map (tot c):=fun q l hl=>List.map_congr_left fun i hi=>by
          have:i≠j:=fun e=>hl (e ▸ hi)
          simp only [tot,A3a this]
        refine xop_more (d:=dst j) (M:=Sp j ((pre j).map (tot c))) (ρτ:=netR dst c ρ0 (pre j)) (βτ:=netβ c β0 (pre j)) (βr:=netβ c [] (W.filter fun i=>!(pre j).contains i))
          (netR_get hW hd (pre j) (fun i hi=>mem_netS.1 (hp i hi)) hpn h0) (fun p=>by
            have h:=netβ_part (c:=c) (β0:=β0) (fun i=>(pre j).contains i) W p
            rw [←hpre j hjW]at h
            exact h) (hop j hjW).1 (hop j hjW).2 hstep' fun x βi hM=>⟨Le.refl _,keep_net hS,?_⟩
        have e:netS W (netU c j (x,βi))=W.filter fun i=>Nat.beq i j||(netS W c).contains i:=by
          unfold netS
          refine List.filter_congr fun i hi=>?_
          by_cases hij:i=j
          · subst hij;rw [A8l,Nat.beq_refl];rfl
          · rw [A3a hij,show Nat.beq i j=false from by cases hb:Nat.beq i j with|false=>rfl|true=>exact absurd (Nat.eq_of_beq_eq_true hb) hij]
            rw [Bool.false_or]
            cases hci:c i with
            | none=>simp [hci]
            | some q=>simp [hci,hi]
        refine XS_by (ih (netU c j (x,βi)) (fun i hi q hq=>?_) (by rw [e];exact hn)) (mkL_mem fun i=>?_) Y (netR_put hW hjW hcj fun i hi=>hd i hi j hjW) (fun p=>Nat.le_of_eq (netβ_put hW hjW hcj p))
        · by_cases hij:i=j
          · subst hij
            rw [A8l]at hq
            cases hq
            have hni:i∉pre i:=fun h=>by have:=hsome i h;rw [hcj]at this;cases this
            refine⟨fun k hk=>?_,by rw [htot _ _ hni];exact hM⟩
            rw [A3a (fun e=>by subst e;exact hni hk),hsome k hk];rfl
          · rw [A3a hij]at hq
            obtain⟨h1,h2⟩:=hc i hi q hq
            have hni:j∉pre i:=fun h=>by have:=h1 j h;rw [hcj]at this;cases this
            refine⟨fun k hk=>?_,by rw [htot _ _ hni];exact h2⟩
            rw [A3a (fun e=>by subst e;exact hni hk)]
            exact h1 k hk
        · rw [e,List.mem_append,List.mem_cons,List.mem_append,List.mem_filter]
          constructor
          · rintro(⟨h1,h2⟩|h)
            · rw [Bool.or_eq_true]at h2
              rcases h2 with h2|h2
              · exact .inl (Nat.eq_of_beq_eq_true h2)
              · exact .inr (.inl (by simpa using h2))
            · exact .inr (.inr h)
          · rintro(rfl|h|h)
            · exact .inl ⟨hjW,by rw [Nat.beq_refl];rfl⟩
            · exact .inl ⟨(mem_netS.1 h).1,by rw [Bool.or_eq_true];exact .inr (by simpa using h)⟩
            · exact .inr h
  have hz:∀V:List Nat,netR dst (fun _=>none) ρ0 V=ρ0∧netβ (fun _=>none) β0 V=β0∧netS V (fun _=>none)=[]:=fun V=>by
    induction V with
    | nil=>exact⟨rfl,rfl,rfl⟩
    | cons i V ih=>exact⟨ih.1,ih.2.1,ih.2.2⟩
  obtain⟨z1,z2,z3⟩:=hz W
  have h1:=go W.length (fun _=>none) (fun _ _ _ h=>by cases h) (by rw [z3];exact hB)
  rw [z1,z2,z3]at h1
  exact XS_by h1 Y sM (fun _ _ h=>h) (fun _=>Nat.le_refl _)
end
end Go.Pal
end
