/- Part 48. -/
import Derived.Test.YtclejblcnfaeaaaGreatQstrucksa
set_option linter.all false
section
namespace Go.Pal
open Go Go.Conc View
section
variable{P:Program}{mn:Who}{rd:Option Nat}{n:Nat}{Q:Exit→St→View→Prop}{ds:List Deferred}{ρ:Regs}{β:A0e}{v:View}
 {ops:Array Oper}{i:Nat}{S:List Rec}{done done':List Nat}{ms:List Nat}{v0:View}{todo todo':List Nat}
theorem xop_moreC{ρτ ρσ:Regs}{βτ βσ βr βk:A0e}{d:Nat}{M:Value→A0e→Prop}{K:St→View→Prop}(hr:∀t x,ρτ.get t=some x→ρσ.get t=some x)(hβ:∀p,cnt p βσ=cnt p (βr++βτ))(hdst:∀o,ops[i]?=some o→o.dst=some d)(hdn:Nat.blt d n=true)
  (h:∀u,v.Le u→XOp P mn rd n ops i (fun _ _ _=>False) (fun σ' u'=>u'=u∧∃x βi,M x βi∧σ'=⟨ds,(d,x)::ρτ,βi++βk⟩) ⟨ds,ρτ,βτ⟩ u)
  (hK:∀x βi,M x βi→K ⟨ds,(d,x)::ρσ,(βi++βk)++βr⟩ v):XOp P mn rd n ops i (fun _ _ _=>False) K ⟨ds,ρσ,βσ⟩ v:=fun a hf hb=>by
 obtain⟨hb1,he⟩:=A3v (A2e (l:=βσ) (m:=βτ++βr) fun p=>by rw [hβ p,A0n,A0n];omega) hb
 obtain⟨hb2,hb3⟩:=bok_append.1 hb1
 obtain⟨o,ho,hw,hd,hs⟩:=h _ (A0g v (A0c βr)) a ⟨hf.size,hf.defers,fun t x e=>hf.get t x (hr t x e)⟩ hb3
 have hod:=hdst o ho
 have hdn':A2p n (some d)=true:=hdn
 refine⟨o,ho,hw,hd,?_⟩
 have key:∀{x0 w},KP n (fun σ' u'=>u'=v.union (A0c βr)∧∃x βi,M x βi∧σ'=⟨ds,(d,x)::ρτ,βi++βk⟩) (a.put o.dst x0) w→KP n K (a.put o.dst x0) w:=by
  rintro x0 w ⟨σ',u',⟨rfl,x,βi,hM,rfl⟩,hf',hb',hw'⟩
  have hg:∀(y:Value) (l:Regs),Regs.get ((d,y)::l) d=some y:=fun y l=>by simp [Regs.get]
  have hx:x0=x:=by
   have h1:=hf'.get d x (hg _ _)
   have h2:=(A0x (x:=x0) hf hdn').get d x0 (hg _ _)
   rw [hod]at h1
   exact Option.some.inj (h2.symm.trans h1)
  subst hx
  have hb4:Bok ((βi++βk)++βr) v:=bok_append.2 ⟨hb2,hb'⟩
  refine⟨⟨ds,(d,x0)::ρσ,(βi++βk)++βr⟩,v,hK _ _ hM,?_,hb4,?_⟩
  ·have:=A0x (x:=x0) hf hdn'
   rw [hod]
   exact⟨this.size,this.defers,this.get⟩
  ·show(v.union (A0c ((βi++βk)++βr))).Le w
   rw [A0v hb4]
   exact hw'
 show SemX P _ _ _ (v.union (A0c βσ))
 rw [←he,A0v hb1]
 refine A1y _ (fun nx w hK=>?_) (fun x w hE=>hE.elim fun _ h=>h.elim fun _ h=>h.1.elim) hs
 cases nx with
 | value x=>exact key hK
 | skip=>exact key hK
 | defer d'=>
  obtain⟨_,σ',u',⟨rfl,x,βi,hM,rfl⟩,hf',_⟩:=hK
  exfalso
  have h1:=hf'.defers
  have h2:=hf.defers
  simp only [Act.put]at h1
  rw [hod]at h1
  simp only at h1 h2
  rw [h2]at h1
  exact absurd (congrArg List.length h1) sM
 | enter f args=>exact CallsX.mono hK fun e w' hR=>⟨w',Le.refl _,by
   cases e with
   | ret x=>exact key hR
   | pan ch=>obtain⟨_,_,h,_⟩:=hR;exact h.elim⟩
 | round l f tmps assign body=>exact⟨hK.1,RoundX.mono hK.2 fun e w' hR=>⟨w',Le.refl _,by
   cases e with
   | ret x=>exact key hR
   | pan ch=>obtain⟨_,_,h,_⟩:=hR;exact h.elim⟩⟩
 | _=>exact hK.elim
variable{dst:Nat→Nat}{c:NetC}{W:List Nat}{ρ0:Regs}{β0:A0e}{j:Nat}{q:Value×A0e}
theorem netR_vals{c c':NetC}:∀{W:List Nat},(∀i∈W,(c i).map (·.1)=(c' i).map (·.1))→netR dst c ρ0 W=netR dst c' ρ0 W
 | [],_=>rfl
 | i::W,h=>by
  have h1:=h i (List.mem_cons_self ..)
  have ih:=netR_vals (c:=c) (c':=c') (W:=W) fun k hk=>h k (List.mem_cons_of_mem _ hk)
  simp only [netR]
  cases hc:c i<;>cases hc':c' i<;>rw [hc,hc']at h1<;>simp_all
theorem netβ_gone{c:NetC}:∀{W:List Nat},(∀i∈W,∀q,c i=some q→q.2=[])→netβ c β0 W=β0
 | [],_=>rfl
 | i::W,h=>by
  have ih:=netβ_gone (c:=c) (W:=W) fun k hk=>h k (List.mem_cons_of_mem _ hk)
  simp only [netβ]
  cases hc:c i with
  | none=>exact ih
  | some q=>simp only [h i (List.mem_cons_self ..) q hc,List.nil_append];exact ih
theorem inb_left{b:Nat}{cc:Array Value}{t:TypeId}{l r:A0e}(h:InB b cc t l):InB b cc t (l++r):=by
 induction h with
 | head=>exact .head
 | tail _ ih=>exact .tail ih
def netE(c:NetC)(l:List Nat):NetC:=fun i=>if i∈l then(c i).map fun q=>(q.1,[])else c i
theorem S_tree{Sp:Nat→Value→A0e→Prop}{pre:Nat→List Nat}(W:List Nat)(dst:Nat→Nat)(hW:W.Nodup)(hd:∀i∈W,∀k∈W,dst i=dst k→i=k)(h0:∀i∈W,ρ0.get (dst i)=none)(hpre:∀j∈W,pre j=W.filter fun i=>(pre j).contains i)
    (huq:∀j∈W,∀k∈W,∀i∈pre j,i∈pre k→j=k)
    (hop:∀i∈W,(∀o,ops[i]?=some o→o.dst=some (dst i))∧Nat.blt (dst i) n=true)(hS:KeepA S β0)(hB:netB ops ms W pre done W.length []=true)
    (hstep:∀j∈W,∀c:Nat→Value×A0e,(∀i∈pre j,Sp i (c i).1 (c i).2)→∀u,v.Le u→XOp P mn (some 4294967295) n ops j (fun _ _ _=>False) (fun σ' u'=>u'=u∧∃x βi,Sp j x βi∧σ'=⟨ds,(dst j,x)::netR dst (fun i=>some (c i)) ρ0 (pre j),βi++β0⟩) ⟨ds,netR dst (fun i=>some (c i)) ρ0 (pre j),netβ (fun i=>some (c i)) β0 (pre j)⟩ u)
    (hfin:∀c:Nat→Value×A0e,(∀i∈W,(W.all fun j=>!(pre j).contains i)=true→Sp i (c i).1 (c i).2)→(∀i∈W,(W.all fun j=>!(pre j).contains i)=false→(c i).2=[])→XS P mn n ops ms v0 Q todo S (W++done) ⟨ds,netR dst (fun i=>some (c i)) ρ0 W,netβ (fun i=>some (c i)) β0 W⟩ v) :
    XS P mn n ops ms v0 Q (W++todo) S done ⟨ds,ρ0,β0⟩ v:=by
  let tot:NetC→Nat→Value×A0e:=fun c i=>(c i).getD default
  have go:∀(k:Nat) (c:NetC),(∀i∈W,∀q,c i=some q→(∀k∈pre i,(c k).isSome=true)∧((∀j∈W,i∈pre j→c j=none)→Sp i q.1 q.2)∧((∃j∈W,i∈pre j∧(c j).isSome=true)→q.2=[]))→netB ops ms W pre done k (netS W c)=true→XS P mn n ops ms v0 Q (List.replicate k 0++todo) S (netS W c++done) ⟨ds,netR dst c ρ0 W,netβ c β0 W⟩ v:=by
    intro k
    induction k with
    | zero=>
      intro c hc hb
      have e:netS W c=W:=by simpa [netB]using hb
      have hsm:∀i∈W,(c i).isSome=true:=fun i hi=>(mem_netS.1 (e.symm ▸ hi:i∈netS W c)).2
      have hs:∀i∈W,c i=some (tot c i):=fun i hi=>by
        have:=hsm i hi
        cases hci:c i with
        | none=>rw [hci]at this;cases this
        | some q=>simp [tot,hci]
      have:=hfin (tot c) (fun i hi ha=>(hc i hi _ (hs i hi)).2.1 fun j hj hij=>by
          have:=List.all_eq_true.1 ha j hj
          simp [hij]at this) (fun i hi ha=>(hc i hi _ (hs i hi)).2.2 (by
          rw [List.all_eq_false]at ha
          obtain⟨j,hj,h⟩:=ha
          exact⟨j,hj,by simpa using h,hsm j hj⟩))
      rw [e,A9s hs,A9r hs]
      exact this
    | succ k ih=>
      intro c hc hb
      simp only [netB,Bool.and_eq_true]at hb
      obtain⟨hb1,hb2⟩:=hb
      have hall:∀j∈Region.ready .any ops (mkL ops (netS W c++done)),j∈W∧c j=none∧ms.contains j=true∧(∀i∈pre j,i∈netS W c)∧netB ops ms W pre done k (W.filter fun i=>Nat.beq i j||(netS W c).contains i)=true:=fun j hj=>by
        have h:=List.all_eq_true.1 hb2 j hj
        simp only [Bool.and_eq_true]at h
        obtain⟨⟨⟨⟨h1,h2⟩,h3⟩,h4⟩,h5⟩:=h
        have hjW:j∈W:=by simpa using h1
        have hjn:j∉netS W c:=by simpa using h2
        refine⟨hjW,?_,h3,fun i hi=>by simpa using List.all_eq_true.1 h4 i hi,h5⟩
        cases hcj:c j with
        | none=>rfl
        | some q=>exact absurd (mem_netS.2 ⟨hjW,by rw [hcj];rfl⟩) hjn
      refine S_many (Region.ready .any ops (mkL ops (netS W c++done))) ?_ (allL_of fun j hj=>?_)
      · simp only [manyB,Bool.and_eq_true]
        exact⟨⟨hb1,List.all_eq_true.2 fun j hj=>by simpa using hj⟩,List.all_eq_true.2 fun j hj=>(hall j hj).2.2.1⟩
      · obtain⟨hjW,hcj,_,hp,hn⟩:=hall j hj
        have hsub:∀i∈pre j,i∈W:=fun i hi=>(mem_netS.1 (hp i hi)).1
        have hsome:∀i∈pre j,c i=some (tot c i):=fun i hi=>by
          have h2:=(mem_netS.1 (hp i hi)).2
          cases hci:c i with
          | none=>rw [hci]at h2;cases h2
          | some q=>simp [tot,hci]
        have hpn:(pre j).Nodup:=by rw [hpre j hjW];exact hW.filter _
        have hjp:j∉pre j:=fun h=>by have:=hsome j h;rw [hcj]at this;cases this
        have hstep':=hstep j hjW (tot c) fun i hi=>(hc i (hsub i hi) _ (hsome i hi)).2.1 fun k hk hik=>by
          rw [huq k hk j hjW i hik hi];exact hcj
        rw [←A9s hsome,←A9r hsome]at hstep'
        refine xop_moreC (d:=dst j) (M:=Sp j) (βk:=β0) (ρτ:=netR dst c ρ0 (pre j)) (βτ:=netβ c β0 (pre j)) (βr:=netβ c [] (W.filter fun i=>!(pre j).contains i))
          (netR_get hW hd (pre j) (fun i hi=>mem_netS.1 (hp i hi)) hpn h0) (fun p=>by
            have h:=netβ_part (c:=c) (β0:=β0) (fun i=>(pre j).contains i) W p
            rw [←hpre j hjW]at h
            exact h) (hop j hjW).1 (hop j hjW).2 hstep' ?_
        intro x βi hM
        have hej:netE c (pre j) j=none:=by unfold netE;rw [if_neg hjp];exact hcj
        have hcnt:∀p,cnt p (netβ (netU (netE c (pre j)) j (x,βi)) β0 W)=cnt p ((βi++β0)++netβ c [] (W.filter fun i=>!(pre j).contains i)):=fun p=>by
          rw [netβ_put hW hjW hej p,A0n,netβ_part (c:=netE c (pre j)) (β0:=β0) (fun i=>(pre j).contains i) W p,A0n,A0n,A0n]
          rw [←hpre j hjW,netβ_gone (c:=netE c (pre j)) (W:=pre j) (fun i hi q hq=>by
            unfold netE at hq
            rw [if_pos hi]at hq
            rw [Option.map_eq_some_iff]at hq
            obtain⟨a,_,rfl⟩:=hq
            rfl)]
          rw [A9r (c:=netE c (pre j)) (c':=c) (W:=W.filter fun i=>!(pre j).contains i) (fun i hi=>by
            have h2:=(List.mem_filter.1 hi).2
            unfold netE
            rw [if_neg (by simpa using h2)])]
          show cnt p βi+(_+cnt p β0)=_
          omega
        refine⟨Le.refl _,?_,?_⟩
        · have hk:∀{βr:A0e} {S:List Rec},KeepA S β0→KeepS ops j S ((βi++β0)++βr):=by
            intro βr S
            induction S with
            | nil=>intro _;trivial
            | cons s S ihS=>
              obtain⟨_,_,_,_⟩:=s
              intro h
              exact⟨.inr (by rw [List.append_assoc];exact InB.app (inb_left h.1)),ihS h.2⟩
          exact hk hS
        have e:netS W (netU (netE c (pre j)) j (x,βi))=W.filter fun i=>Nat.beq i j||(netS W c).contains i:=by
          unfold netS
          refine List.filter_congr fun i hi=>?_
          by_cases hij:i=j
          · subst hij;rw [A8l,Nat.beq_refl];rfl
          · rw [A3a hij,show Nat.beq i j=false from by cases hb:Nat.beq i j with|false=>rfl|true=>exact absurd (Nat.eq_of_beq_eq_true hb) hij]
            rw [Bool.false_or]
            unfold netE
            by_cases hip:i∈pre j
            · rw [if_pos hip,hsome i hip]
              simp [hi,hsome i hip]
            · rw [if_neg hip]
              cases hci:c i with
              | none=>simp [hci]
              | some q=>simp [hci,hi]
        refine XS_by (ih (netU (netE c (pre j)) j (x,βi)) (fun i hi q hq=>?_) (by rw [e];exact hn)) (mkL_mem fun i=>?_) Y (fun t y hy=>?_) (fun p=>Nat.le_of_eq (hcnt p))
        · have hkeep:∀k,(netU (netE c (pre j)) j (x,βi) k).isSome=(decide (k=j)||(c k).isSome):=fun k=>by
            by_cases hkj:k=j
            · subst hkj;rw [A8l];simp
            · rw [A3a hkj]
              unfold netE
              by_cases hkp:k∈pre j
              · rw [if_pos hkp];simp [hkj]
              · rw [if_neg hkp];simp [hkj]
          by_cases hij:i=j
          · subst hij
            rw [A8l]at hq
            cases hq
            refine⟨fun k hk=>?_,fun _=>hM,fun⟨k,hk,hik,hks⟩=>?_⟩
            · rw [hkeep,hsome k hk];simp
            · exfalso
              rw [hkeep]at hks
              by_cases hki:k=i
              · subst hki;exact hjp hik
              · cases hck:c k with
                | none=>rw [hck]at hks;simp [hki]at hks
                | some qk=>
                  have:=(hc k hk qk hck).1 i hik
                  rw [hcj]at this
                  cases this
          · rw [A3a hij]at hq
            by_cases hip:i∈pre j
            · have hq':=hq
              unfold netE at hq'
              rw [if_pos hip,hsome i hip]at hq'
              cases hq'
              refine⟨fun k hk=>?_,fun h=>?_,fun _=>rfl⟩
              · rw [hkeep,(hc i hi _ (hsome i hip)).1 k hk];simp
              · have:=h j hjW hip
                rw [A8l]at this
                cases this
            · have hq':=hq
              unfold netE at hq'
              rw [if_neg hip]at hq'
              obtain⟨h1,h2,h3⟩:=hc i hi q hq'
              refine⟨fun k hk=>?_,fun h=>h2 fun k hk hik=>?_,fun⟨k,hk,hik,hks⟩=>h3 ⟨k,hk,hik,?_⟩⟩
              · rw [hkeep,h1 k hk];simp
              · have hh:=h k hk hik
                have:=hkeep k
                rw [hh]at this
                cases hck:c k with
                | none=>rfl
                | some qk=>rw [hck]at this;simp at this
              · rw [hkeep]at hks
                by_cases hkj:k=j
                · subst hkj;exact absurd hik hip
                · simpa [hkj]using hks
        · rw [e,List.mem_append,List.mem_cons,List.mem_append,List.mem_filter]
          constructor
          · rintro(⟨h1,h2⟩|h)
            · rw [Bool.or_eq_true]at h2
              rcases h2 with h2|h2
              · exact .inl (Nat.eq_of_beq_eq_true h2)
              · exact .inr (.inl (by simpa using h2))
            · exact .inr (.inr h)
          · rintro(rfl|h|h)
            · exact .inl ⟨hjW,by rw [Nat.beq_refl];rfl⟩
            · exact .inl ⟨(mem_netS.1 h).1,by rw [Bool.or_eq_true];exact .inr (by simpa using h)⟩
            · exact .inr h
        · have hv:netR dst (netU (netE c (pre j)) j (x,βi)) ρ0 W=netR dst (netU c j (x,βi)) ρ0 W:=netR_vals fun k _=>by
            by_cases hkj:k=j
            · subst hkj;rw [A8l,A8l]
            · rw [A3a hkj,A3a hkj]
              unfold netE
              by_cases hkp:k∈pre j
              · rw [if_pos hkp,Option.map_map];rfl
              · rw [if_neg hkp]
          rw [hv]at hy
          exact netR_put hW hjW hcj (fun i hi=>hd i hi j hjW) t y hy
  have hz:∀V:List Nat,netR dst (fun _=>none) ρ0 V=ρ0∧netβ (fun _=>none) β0 V=β0∧netS V (fun _=>none)=[]:=fun V=>by
    induction V with
    | nil=>exact⟨rfl,rfl,rfl⟩
    | cons i V ih=>exact⟨ih.1,ih.2.1,ih.2.2⟩
  obtain⟨z1,z2,z3⟩:=hz W
  have h1:=go W.length (fun _=>none) (fun _ _ _ h=>by cases h) (by rw [z3];exact hB)
  rw [z1,z2,z3]at h1
  exact XS_by h1 Y sM (fun _ _ h=>h) (fun _=>Nat.le_refl _)
end
end Go.Pal
end
section
namespace Go.Proofs.YtclejblcnfaeaaaGreat
open Go Go.Pal Go.Pal.To Go.Conc View
open Go.Proofs.Tryz
set_option maxHeartbeats 4000000
set_option maxRecDepth 20000
theorem B3d{v:View}{a:Option Addr}{x:MA}{l:List MA}{cap:Nat}(h:ActsAt v a (x::l))(hc:(x::l).length≤cap):ActsAt v (if cap=1 then a else a.map (·.add (1*4))) l:=by
 by_cases hc1:cap=1
 ·have hl:l=[]:=by
   cases l with
   | nil=>rfl
   | cons y l=>simp at hc;omega
  subst hl
  exact .inl Y
 ·rw [if_neg hc1]
  rcases h with h|⟨b,off,p,c,e,f,rfl,h2,h3,h4⟩
  ·simp [MA.cells]at h
  ·refine .inr ⟨b,off+4,p,c,e,f,by simp [Addr.add],h2,?_,fun i y hi=>?_⟩
   ·rw [List.map_cons,List.flatten_cons,List.length_append]at h3
    have:x.cells.length=4:=rfl
    omega
   ·have:=h4 (4+i) y (by
     rw [List.map_cons,List.flatten_cons,List.getElem?_append_right (show x.cells.length≤4+i from by show 4≤4+i;omega)]
     rw [show 4+i-x.cells.length=i from by show 4+i-4=i;omega]
     exact hi)
    rw [show off+4+i=off+(4+i) by omega]
    exact this
theorem setI{b n cap:Nat}{c:Array Value}{xs:List Value}(h:OwnS 3 1 [(b,c,3)] (some ⟨b,0,none⟩) n cap xs){i:Nat}(hi:i<n)(x:Int) :
  Nat.ble (0+i*1+1) c.size=true∧OwnS 3 1 [(b,A0z c (0+i*1) (intV x).cells.toList,3)] (some ⟨b,0,none⟩) n cap (xs.set i (intV x)):=by
 have:=ownS_set1 (intV x) h hi
 have e:0+i*1=i:=oM
 rw [e]
 exact⟨Nat.ble_eq_true_of_le this.2,this.1⟩
section
variable{mn:Who}{v:View}{aO:Option Addr}{cO:Nat}{os:List Int}{x:MA}
theorem B3e(hro:RowAt v aO (os.map intV))(hx:x.k=0→0≤x.h∧x.h<os.length):Ret1 prog mn 135 [.slice aO os.length cO,x.val] (.bool (refd os x)) v:=by
 obtain⟨k,xa,xb,xh⟩:=x
 refine A0d tab func135 Y nB (args:=[_,_]) ?_
 refine sw fun bx=>?_
 by_cases h0:k=0
 ·subst h0
  obtain⟨h1,h2⟩:=hx rfl
  obtain⟨h,rfl⟩:=Int.eq_ofNat_of_zero_le h1
  have hlt:h<os.length:=by simp only at h2;omega
  obtain⟨bb,off,p,c,e,f,rfl,hv,hc⟩:=hro.get hlt
  refine su ?_
  refine A1m tab h Y Y Y Y Y Y Y hlt ?_
  refine su ?_
  refine A4l tab Y Y Y hv (A0l tab Y Y Y (by rw [Nat.mul_one];exact hc _ hlt)) ?_
  refine su ?_
  refine A0f tab [] (by exact .tmp rfl .nil) (Back.here cntL) ?_
  refine⟨?_,Y⟩
  unfold refd
  rw [show os[((h:Nat):Int).toNat]?=some os[h]from by rw [Int.toNat_natCast];exact List.getElem?_eq_getElem hlt]
  rfl
 ·have h0':(k==0)=false:=by simpa using h0
  rw [h0']
  refine su ?_
  refine A0f tab [] (by exact .tmp rfl .nil) (Back.here cntL) ?_
  refine⟨?_,Y⟩
  unfold refd
  rw [h0'];rfl
theorem afterR_x(hro:RowAt v aO (os.map intV))(hx:x.k=0→0≤x.h∧x.h<os.length)(hl:os.length<2^30) :
  CallsB prog mn 165 #[.slice aO os.length cO,x.val] (RetB fun r β'=>∃a c,r = .slice a os.length c∧OwnS 3 1 β' a os.length c ((doN os x).map intV)) [] v:=by
 have href:=B3e (mn:=mn) (cO:=cO) hro hx
 obtain⟨k,xa,xb,xh⟩:=x
 refine A0d tab func165 Y nB (args:=[_,_]) ?_
 refine sw fun bx=>?_
 refine Q_op fun ho=>A3w tab ho Y Y Y Y Y Y Y Y Y (fun b2 c2 hS=>?_)
 refine su ?_
 refine Q_op fun ho2=>A3x tab (xs:=os.map intV) [(b2,c2,3)] [] [(bx,MA.cells ⟨k,xa,xb,xh⟩ |>.toArray,26)] ho2 Y Y Y Y Y Y Y Y Y Y cntA hS
  (fun _=>hro.le (A0g _ _)) sM (by simp [List.all_eq_true,A2k]) oM oM (fun seg a' cap' hS'=>?_)
 replace hS':OwnS 3 1 seg a' os.length cap' (os.map intV):=by rw [Nat.zero_add]at hS';exact hS'
 rw [Nat.zero_add os.length]
 clear ho ho2
 refine su ?_
 by_cases h0:k=0
 ·subst h0
  refine su ?_
  refine Q_op fun ho=>A0u ho bod135 Y Y Y Y Y href ?_
  have hsr:sold os ⟨0,xa,xb,xh⟩=!refd os ⟨0,xa,xb,xh⟩:=by
   unfold sold refd
   simp
  cases hr:refd os ⟨0,xa,xb,xh⟩with
  | true=>
   rw [hr]at hsr
   refine su ?_
   refine A0f tab seg (by exact .tmp rfl .nil) (Back.here cntL) ?_
   refine⟨a',cap',Y,?_⟩
   unfold doN
   rw [hsr];exact hS'
  | false=>
   rw [hr]at hsr
   obtain⟨h1,h2⟩:=hx rfl
   obtain⟨h,rfl⟩:=Int.eq_ofNat_of_zero_le h1
   have hlt:h<os.length:=by simp only at h2;omega
   obtain⟨b,c,rfl,rfl,hcap,hcs,hcc⟩:=own_box hS' oM
   obtain⟨w1,hS3⟩:=setI hS' hlt xb
   refine su ?_
   refine A6d tab h Y Y Y Y Y Y Y hlt ?_
   refine Q_storeA tab (x:=intV xb) Y Y Y Y Y Y ib w1 sb ?_
   refine su ?_
   refine A0f tab [(b,A0z c (0+h*1) (intV xb).cells.toList,3)] (by exact .tmp rfl .nil) (Back.here cntL) ?_
   refine⟨some ⟨b,0,none⟩,cap',Y,?_⟩
   unfold doN
   rw [hsr,if_pos (show(!false)=true from Y),Int.toNat_natCast,List.map_set]
   exact hS3
 ·have h0':(k==0)=false:=by simpa using h0
  rw [h0']
  refine su ?_
  refine A0f tab seg (by exact .tmp rfl .nil) (Back.here cntL) ?_
  refine⟨a',cap',Y,?_⟩
  unfold doN sold
  simp only [h0',Bool.false_and,Bool.false_eq_true,if_false]
  exact hS'
end
abbrev rwC(am:Option Addr)(nm cm:Nat)(ab:Option Addr)(nb cb:Nat)(ad:Option Addr)(nd cd:Nat):List Value:=[.slice am nm cm,.slice ab nb cb,.slice ad nd cd]
def RwAt(v:View)(y:List Value)(w:Wy):Prop:=∃am cm ab cb ad cd,y=rwC am w.marks.length cm ab w.book.length cb ad w.dusk.length cd∧RowAt v am (w.marks.map intV)∧ActsAt v ab w.book∧RowAt v ad (w.dusk.map intV)
theorem RwAt.le{u v:View}{y:List Value}{w:Wy}(h:RwAt u y w)(hl:u.Le v):RwAt v y w:=by
 obtain⟨am,cm,ab,cb,ad,cd,h0,h1,h2,h3⟩:=h
 exact⟨am,cm,ab,cb,ad,cd,h0,h1.le hl,h2.le hl,h3.le hl⟩
def OwnI(e:TypeId)(k:Nat)(x:Value)(β:A0e)(len:Nat)(cs:List Value):Prop:=∃a c,x = .slice a len c∧OwnS e k β a len c cs
def spN(w:Wy)(mark:Int)(x:MA):Nat→Value→A0e→Prop
 | 0,y,β=>OwnI 3 1 y β 0 []
 | 3,y,β=>OwnI 3 1 y β (0+w.marks.length) ([]++w.marks.map intV)
 | 5,y,β=>OwnI 3 1 y β 1 [intV mark]
 | 6,y,β=>OwnI 3 1 y β (0+w.marks.length+1) (([]++w.marks.map intV)++[intV mark])
 | 7,y,β=>OwnI 26 4 y β 0 []
 | 10,y,β=>OwnI 26 4 y β (0+w.book.length) ([]++(w.book.map MA.cells).flatten)
 | 12,y,β=>OwnI 26 4 y β 1 x.cells
 | 13,y,β=>OwnI 26 4 y β (0+w.book.length+1) (([]++(w.book.map MA.cells).flatten)++x.cells)
 | _,y,β=>OwnI 3 1 y β w.dusk.length ((doN w.dusk x).map intV)
def preN:Nat→List Nat|3=>[0]|6=>[3,5]|10=>[7]|13=>[10,12]|_=>[]
section
variable{mn:Who}{v:View}{x:MA}{w:Wy}{y:List Value}{mark:Int}
theorem nextR_x(hy:RwAt v y w)(hx:x.k=0→0≤x.h∧x.h<w.dusk.length)(h1:w.marks.length<2^20)(h2:w.book.length<2^20)(h3:w.dusk.length<2^20) :
  CallsB prog mn 136 #[.agg y.toArray,intV mark,x.val] (RetB fun r β'=>∃y',r = .agg y'.toArray∧∀u,Bok β' u→RwAt (u.union (A0c β')) y' (w.add mark x)) [] v:=by
 obtain⟨am,cm,ab,cb,ad,cd,rfl,hm,hb,hd⟩:=hy
 refine A0d tab func136 Y nB (args:=[_,_,_]) ?_
 refine sw fun bx=>?_;refine sw fun bx=>?_;refine sw fun bx=>?_
 refine A1d [0,3,5,6,7,10,12,13,17,19] [1,2,4,8,9,11,14,15,16,0,3,5,6,7,10,12,13,17,18,19] A1e Y kR ?_
 refine su ?_
 rename_i b3 b5
 refine S_tree (Sp:=spN w mark x) (pre:=preN) [0,3,5,6,7,10,12,13,17] (fun i=>i+7) dM dM (fun i hi=>?_) dM dM (fun i hi=>?_) (by repeat (first|exact trivial|(refine⟨?_,?_⟩;focus exact ib))) kR (fun j hj c hc u' hu'=>?_) (fun c hc hz=>?_)
 ·simp only [List.mem_cons,List.not_mem_nil,or_false]at hi
  rcases hi with rfl|rfl|rfl|rfl|rfl|rfl|rfl|rfl|rfl<;>rfl
 ·simp only [List.mem_cons,List.not_mem_nil,or_false]at hi
  rcases hi with rfl|rfl|rfl|rfl|rfl|rfl|rfl|rfl|rfl<;>exact⟨fun o ho=>by cases ho;rfl,rfl⟩
 ·simp only [List.mem_cons,List.not_mem_nil,or_false]at hj
  rcases hj with rfl|rfl|rfl|rfl|rfl|rfl|rfl|rfl|rfl
  ·exact A3w tab Y Y Y Y Y Y Y Y Y Y (fun b c hL=>⟨Y,_,_,⟨_,_,Y,hL⟩,Y⟩)
  ·obtain⟨a0,c0,h1,hL⟩:=hc 0 dM
   simp only [show preN 3=[0]from Y,netR,netβ,h1]
   exact A3x tab (xs:=w.marks.map intV) (c 0).2 [] _ Y Y Y Y Y Y Y Y Y Y Y cntA hL (fun _=>(hm.le hu').le (A0g _ _)) sM (by simp [List.all_eq_true,A2k]) oM oM (fun sg a1 c1 hS=>⟨Y,_,_,⟨_,_,Y,hS⟩,Y⟩)
  ·exact A3w tab Y Y Y Y Y Y Y Y Y Y (fun b c hL=>⟨Y,_,_,⟨_,_,Y,hL⟩,Y⟩)
  ·obtain⟨a0,c0,h1,hL⟩:=hc 3 dM
   obtain⟨a1,c1,h2,hL2⟩:=hc 5 dM
   simp only [show preN 6=[3,5]from Y,netR,netβ,h1,h2]
   exact A3x tab (xs:=[intV mark]) (c 3).2 (c 5).2 _ Y Y Y Y Y Y Y Y Y Y Y cntA hL (fun hb=>RowAt.own hb cntL hL2) Y Y oM oM (fun sg a1 c1 hS=>⟨Y,_,_,⟨_,_,Y,hS⟩,Y⟩)
  ·exact A3w tab Y Y Y Y Y Y Y Y Y Y (fun b c hL=>⟨Y,_,_,⟨_,_,Y,hL⟩,Y⟩)
  ·obtain⟨a0,c0,h1,hL⟩:=hc 7 dM
   simp only [show preN 10=[7]from Y,netR,netβ,h1]
   exact A3x tab (xs:=(w.book.map MA.cells).flatten) (c 7).2 [] _ Y Y Y Y Y Y Y Y Y Y Y cntA hL (fun _=>RowAt.le (RowAt.le hb hu') (A0g _ _)) (by rw [rowsR_len (SZ:=4) (fun _=>rfl)]) (by simp [List.all_eq_true,MA.cells,A2k]) oM oM (fun sg a1 c1 hS=>⟨Y,_,_,⟨_,_,Y,hS⟩,Y⟩)
  ·exact A3w tab Y Y Y Y Y Y Y Y Y Y (fun b c hL=>⟨Y,_,_,⟨_,_,Y,hL⟩,Y⟩)
  ·obtain⟨a0,c0,h1,hL⟩:=hc 10 dM
   obtain⟨a1,c1,h2,hL2⟩:=hc 12 dM
   simp only [show preN 13=[10,12]from Y,netR,netβ,h1,h2]
   exact A3x tab (xs:=x.cells) (c 10).2 (c 12).2 _ Y Y Y Y Y Y Y Y Y Y Y cntA hL (fun hb=>RowAt.own hb cntL hL2) Y Y oM oM (fun sg a1 c1 hS=>⟨Y,_,_,⟨_,_,Y,hS⟩,Y⟩)
  ·exact A0o [] _ Y bod165 Y Y Y Y Y A7s (afterR_x ((hd.le hu').le (A0g _ _)) hx oM) (fun y β' hR=>⟨Y,_,_,hR,Y⟩)
 obtain⟨a2,c2,e6,hS2⟩:=hc 6 dM dM
 obtain⟨a4,c4,e13,hS4⟩:=hc 13 dM dM
 obtain⟨a5,c5,e17,hS5⟩:=hc 17 dM dM
 simp only [netR,netβ,e6,e13,e17,hz 0 dM dM,hz 3 dM dM,hz 5 dM dM,hz 7 dM dM,hz 10 dM dM,hz 12 dM dM,List.nil_append]
 generalize (c 6).2=sg2 at hS2⊢
 generalize (c 13).2=sg4 at hS4⊢
 generalize (c 17).2=sg5 at hS5⊢
 clear hc hz e6 e13 e17
 refine su ?_
 refine A0f tab (sg2++(sg4++sg5)) (by exact .cell rfl ib rfl .nil) (Back.here cntL) ?_
 refine⟨rwC a2 (0+w.marks.length+1) c2 a4 (0+w.book.length+1) c4 a5 w.dusk.length c5,Y,fun u hbu=>⟨a2,c2,a4,c4,a5,c5,?_,?_,?_,?_⟩⟩
 ·have e3:(doN w.dusk x).length=w.dusk.length:=by unfold doN;split<;>simp
  show _=rwC a2 (w.marks++[mark]).length c2 a4 (w.book++[x]).length c4 a5 (doN w.dusk x).length c5
  rw [e3,List.length_append,List.length_append,Nat.zero_add,Nat.zero_add]
  rfl
 ·refine RowAt.own (seg:=sg2) hbu cntL (e:=3) (k:=1) (len:=0+w.marks.length+1) (cap:=c2) ?_
  show OwnS 3 1 sg2 a2 _ c2 ((w.marks++[mark]).map intV)
  rw [List.map_append]
  exact hS2
 ·refine RowAt.own (seg:=sg4) hbu cntL (e:=26) (k:=4) (len:=0+w.book.length+1) (cap:=c4) ?_
  show OwnS 26 4 sg4 a4 _ c4 (((w.book++[x]).map MA.cells).flatten)
  rw [List.map_append,List.flatten_append]
  simpa using hS4
 ·exact RowAt.own hbu cntL hS5
end
inductive RwsAt(v:View):List (List Value)→List Wy→Prop
 | nil:RwsAt v [] []
 | cons {y:List Value} {w:Wy} {ys:List (List Value)} {ws:List Wy}:RwAt v y w→RwsAt v ys ws→RwsAt v (y::ys) (w::ws)
theorem RwsAt.le{u v:View}(hl:u.Le v):∀{ys:List (List Value)} {ws:List Wy},RwsAt u ys ws→RwsAt v ys ws
 | _,_,.nil=>.nil
 | _,_,.cons h r=>.cons (h.le hl) (r.le hl)
theorem RwsAt.app{v:View}{ys':List (List Value)}{ws':List Wy}(h':RwsAt v ys' ws'):∀{ys:List (List Value)} {ws:List Wy},RwsAt v ys ws→RwsAt v (ys++ys') (ws++ws')
 | _,_,.nil=>h'
 | _,_,.cons h r=>.cons h (RwsAt.app h' r)
theorem own_len{e:TypeId}{k:Nat}{seg:A0e}{a:Option Addr}{len cap:Nat}{cs:List Value}(h:OwnS e k seg a len cap cs):cs.length=len*k:=by
 cases h with
 | nil=>simp
 | box h1 h2 h3 h4=>exact h1
def OwnWs(y:List Value)(w:Wy)(r:Value)(β:A0e)(l:List Wy):Prop:=∃a cap segO segR rows,r = .slice a l.length cap∧β=segO++segR∧OwnS 131 3 segO a l.length cap rows.flatten∧rows.flatten.all A2k=true∧∀u,RwAt u y w→Bok segR u→RwsAt (u.union (A0c segR)) rows l
def WSt(y:List Value)(w:Wy)(aA:Option Addr)(na cA:Nat)(aB:Option Addr)(nb cB:Nat)(b5:Nat)(v:View)(L:List Wy)(σ:St)(u:View):Prop:=
 u=v∧∃ao co segO segR rows,σ=⟨[],[(7,.slice ao L.length co),(5,.pointer (some ⟨b5,0,none⟩)),(0,.slice aA na cA),(1,.slice aB nb cB)],(b5,y.toArray,131)::(segO++segR)⟩∧OwnS 131 3 segO ao L.length co rows.flatten∧rows.flatten.all A2k=true∧∀u,RwAt u y w→Bok segR u→RwsAt (u.union (A0c segR)) rows L
theorem B3f{a b:List MA}{w:Wy}{m:Nat}(h:a.length+b.length≤8):(A2j To.ways a b w m).length≤6561:=by
 unfold A2j
 cases hs:A4g a b m with
 | none=>exact Nat.zero_le _
 | some q=>
  obtain⟨x,a',b'⟩:=q
  dsimp only
  split
  ·exact Nat.zero_le _
  ·have:=A4u hs
   exact A9d (n:=8) oM
theorem B3g{w:Wy}{m:Int}{x:MA}:(w.add m x).dusk.length=w.dusk.length:=by
 show(doN w.dusk x).length=_
 unfold doN;split<;>simp
theorem rows_go{y y1:List Value}{w w1:Wy}{segR β1 sR2:A0e}{rows rows2:List (List Value)}{L l2:List Wy}(hR:∀u,RwAt u y w→Bok segR u→RwsAt (u.union (A0c segR)) rows L)(hnx:∀u,Bok β1 u→RwAt (u.union (A0c β1)) y1 w1)(hR2:∀u,RwAt u y1 w1→Bok sR2 u→RwsAt (u.union (A0c sR2)) rows2 l2) :
  ∀u,RwAt u y w→Bok (sR2++(β1++segR)) u→RwsAt (u.union (A0c (sR2++(β1++segR)))) (rows++rows2) (L++l2):=fun u hu hb=>by
 obtain⟨hb1,hb2⟩:=bok_append.1 hb
 obtain⟨hb3,hb4⟩:=bok_append.1 hb1
 rw [A0v hb]
 rw [A0v hb1]at hb2⊢
 exact RwsAt.app (hR2 _ (hnx _ hb4) hb2) ((hR u hu hb3).le ((A0g _ _).trans (A0g _ _)))
section
variable{mn:Who}
theorem waysR_nil{v:View}{aA aB:Option Addr}{cA cB:Nat}{w:Wy}{y:List Value}(hy:RwAt v y w) :
  CallsB prog mn 102 #[.slice aA 0 cA,.slice aB 0 cB,.agg y.toArray] (RetB fun r β'=>OwnWs y w r β' (To.ways [] [] w)) [] v:=by
 obtain⟨am,cm,ab,cb,ad,cd,rfl,hm,hb,hd⟩:=hy
 refine A0d tab func102 Y nB (args:=[_,_,_]) ?_
 refine sw fun bx=>?_
 refine Q_op fun ho=>A3w tab ho Y Y Y Y Y Y Y Y Y (fun b2 c2 hS=>?_)
 refine su ?_
 refine A0f tab [(b2,c2,131)] (by exact .tmp rfl .nil) (Back.here cntL) ?_
 refine⟨some ⟨b2,0,none⟩,1,[(b2,c2,131)],[],[rwC am w.marks.length cm ab w.book.length cb ad w.dusk.length cd],Y,Y,hS,Y,fun u hu _=>?_⟩
 rw [A1r]
 exact .cons hu .nil
theorem waysR_x:∀(n:Nat) {v:View} {aA aB:Option Addr} {cA cB:Nat} {a b:List MA} {w:Wy} {y:List Value},a.length+b.length≤n→n≤8→ActsAt v aA a→ActsAt v aB b→a.length≤cA→b.length≤cB→RwAt v y w→
  (∀x∈a,x.k=0→0≤x.h∧x.h<w.dusk.length)→(∀x∈b,x.k=0→0≤x.h∧x.h<w.dusk.length)→w.marks.length+n≤100→w.book.length+n≤100→w.dusk.length<2^20→
  CallsB prog mn 102 #[.slice aA a.length cA,.slice aB b.length cB,.agg y.toArray] (RetB fun r β'=>OwnWs y w r β' (To.ways a b w)) [] v:=by
 intro n
 induction n with
 | zero=>
  intro v aA aB cA cB a b w y hn _ _ _ _ _ hy _ _ _ _ _
  rw [List.length_eq_zero_iff.1 (show a.length=0 by omega),List.length_eq_zero_iff.1 (show b.length=0 by omega)]
  exact waysR_nil hy
 | succ n ih=>
 intro v aA aB cA cB a b w y hn hn8 ha hb hcA hcB hy hka hkb hmk hbk hdl
 by_cases hne:a=[]∧b=[]
 ·obtain⟨rfl,rfl⟩:=hne
  exact waysR_nil hy
 rw [A9c hne]
 rw [show A2j To.ways a b w 0=[]++A2j To.ways a b w 0 from rfl]
 have hab:a.length+b.length≤8:=oM
 obtain⟨am,cm,ab,cb,ad,cd,hy0,hm,hbb,hd⟩:=id hy
 subst hy0
 refine A0d tab func102 Y nB (args:=[_,_,_]) ?_
 refine qu fun bx=>?_
 refine A6q (fun σ u=>u=v∧σ=⟨[],[(5,.pointer (some ⟨bx,0,none⟩)),(0,.slice aA a.length cA),(1,.slice aB b.length cB)],[(bx,(rwC am w.marks.length cm ab w.book.length cb ad w.dusk.length cd).toArray,131)]⟩) ?_ ?_
 rotate_left
 ·refine su ?_
  by_cases ha0:a=[]
  ·subst ha0
   have hb0:b≠[]:=fun e=>hne ⟨Y,e⟩
   have hbl:b.length≠0:=fun e=>hb0 (List.length_eq_zero_iff.1 e)
   refine su ?_
   rw [show((b.length:Int)==0)=false from by rw [beq_eq_false_iff_ne];omega]
   refine su ?_
   exact A0b ⟨_,_,⟨Y,Y⟩,⟨Y,rg,cntL⟩,Le.refl _⟩
  ·have hal:a.length≠0:=fun e=>ha0 (List.length_eq_zero_iff.1 e)
   rw [show((a.length:Int)==0)=false from by rw [beq_eq_false_iff_ne];omega]
   refine su ?_
   exact A0b ⟨_,_,⟨Y,Y⟩,⟨Y,rg,cntL⟩,Le.refl _⟩
 rintro σ u ⟨rfl,rfl⟩
 refine A6q (WSt (rwC am w.marks.length cm ab w.book.length cb ad w.dusk.length cd) w aA a.length cA aB b.length cB bx u []) ?_ ?_
 rotate_left
 ·refine su ?_
  exact A0b ⟨_,_,⟨Y,none,0,[],[],[],Y,.nil,Y,fun _ _ _=>.nil⟩,⟨Y,rg,cntL⟩,Le.refl _⟩
 rintro σ v ⟨rfl,ao,co,segO,segR,rows,rfl,hO,hon,hR⟩
 refine A6q (WSt (rwC am w.marks.length cm ab w.book.length cb ad w.dusk.length cd) w aA a.length cA aB b.length cB bx v ([]++A2j To.ways a b w 0)) ?_ ?_
 rotate_left
 ·rcases a with _|⟨x,a'⟩
  ·rw [show A2j To.ways [] b w 0=[]from Y,List.append_nil]
   refine su ?_
   refine XC_lex A1e Y kR ?_
   refine su ?_
   exact A0b ⟨_,_,⟨Y,ao,co,segO,segR,rows,Y,hO,hon,hR⟩,⟨Y,rg,cntL⟩,Le.refl _⟩
  rcases b with _|⟨z,b'⟩
  ·rw [show A2j To.ways (x::a') [] w 0=[]from Y,List.append_nil]
   refine su ?_
   refine XC_lex A1e Y kR ?_
   refine su ?_
   rw [show decide (((x::a').length:Int) > 0)=true from decide_eq_true (by simp only [List.length_cons];omega)]
   refine su ?_
   exact A0b ⟨_,_,⟨Y,ao,co,segO,segR,rows,Y,hO,hon,hR⟩,⟨Y,rg,cntL⟩,Le.refl _⟩
  ·obtain⟨bba,offa,pa,ca,ea,fa,rfl,hva,hca⟩:=ha.get (i:=0) (Nat.succ_pos _)
   obtain⟨bbb,offb,pb,cbb,eb,fb,rfl,hvb,hcb⟩:=hb.get (i:=0) (Nat.succ_pos _)
   have hca0:offa+0*4+4≤ca.size∧ca.extract (offa+0*4) (offa+0*4+4)=x.cells.toArray:=hca 0 (Nat.succ_pos _)
   have hcb0:offb+0*4+4≤cbb.size∧cbb.extract (offb+0*4) (offb+0*4+4)=z.cells.toArray:=hcb 0 (Nat.succ_pos _)
   have hxh:=hka x (List.mem_cons_self ..)
   refine su ?_
   refine XC_lex A1e Y kR ?_
   refine su ?_
   rw [show decide (((x::a').length:Int) > 0)=true from decide_eq_true (by simp only [List.length_cons];omega)]
   refine su ?_
   rw [show decide (((z::b').length:Int) > 0)=true from decide_eq_true (by simp only [List.length_cons];omega)]
   refine su ?_
   refine A1m tab 0 Y Y Y Y Y Y Y (Nat.succ_pos _) ?_
   refine su ?_
   refine A4l tab Y Y Y hva (A1g tab Y Y Y hca0) ?_
   refine su ?_
   refine A1m tab 0 Y Y Y Y Y Y Y (Nat.succ_pos _) ?_
   refine su ?_
   refine A4l tab Y Y Y hvb (A1g tab Y Y Y hcb0) ?_
   refine su ?_
   refine L_eqlA (a:=x) (b:=z) Y Y Y Y ?_
   by_cases hxz:x=z
   ·subst hxz
    rw [show decide (x=x)=true from decide_eq_true rfl]
    refine su ?_
    refine A1m tab 0 Y Y Y Y Y Y Y (Nat.succ_pos _) ?_
    refine su ?_
    refine A4l tab Y Y Y hva (A1g tab Y Y Y hca0) ?_
    refine su ?_
    refine A2w bod135 Y Y Y Y Y (B3e hd hxh) ?_
    cases hr:refd w.dusk x with
    | true=>
     rw [show A2j To.ways (x::a') (x::b') w 0=[]from by simp [A2j,A4g,hr],List.append_nil]
     refine su ?_
     exact A0b ⟨_,_,⟨Y,ao,co,segO,segR,rows,Y,hO,hon,hR⟩,⟨Y,rg,cntL⟩,Le.refl _⟩
    | false=>
     rw [show A2j To.ways (x::a') (x::b') w 0=To.ways a' b' (w.add 0 x)from by simp [A2j,A4g,hr]]
     have hlen2:a'.length+b'.length≤n:=by simp only [List.length_cons]at hn;omega
     refine su ?_
     refine A1d [9,10,11] [0,1,2,3,4,5,6,7,8,9,10,11,12] A1e Y kR ?_
     refine su ?_
     refine S_slice_l tab (l':=1) Y Y Y kR Y Y Y Y (Nat.succ_le_succ (Nat.zero_le _)) ?_
     refine su ?_
     refine S_slice_l tab (l':=1) Y Y Y kR Y Y Y Y (Nat.succ_le_succ (Nat.zero_le _)) ?_
     refine su ?_
     refine A0s tab 0 Y Y Y kR Y Y Y Y Y (Nat.succ_pos _) ?_
     refine su ?_
     refine A8v tab Y Y Y kR Y hva (A1g tab Y Y Y hca0) ?_
     refine su ?_
     refine S_do kR (A0o [] ((bx,(rwC am w.marks.length cm ab w.book.length cb ad w.dusk.length cd).toArray,131)::(segO++segR)) Y bod136 Y Y Y Y Y A7s (nextR_x (mark:=0) (hy.le (A0g _ _)) hxh oM oM oM) (fun r1 β1 hR1=>⟨Le.refl _,kp,?_⟩))
     obtain⟨y1,rfl,hnx⟩:=hR1
     refine su ?_
     refine S_do kR (A_bok fun hbk1=>A0o [] (β1++((bx,(rwC am w.marks.length cm ab w.book.length cb ad w.dusk.length cd).toArray,131)::(segO++segR))) Y bod102 Y Y Y Y Y A7s (ih (a:=a') (b:=b') (cA:=cA-1) (cB:=cB-1) (w:=w.add 0 x) (y:=y1) hlen2 oM ((B3d ha hcA).le (A0g _ _)) ((B3d hb hcB).le (A0g _ _)) (by simp only [List.length_cons]at hcA;omega) (by simp only [List.length_cons]at hcB;omega) (by rw [A0v hbk1];exact hnx _ (bok_append.1 hbk1).2) (by rw [B3g];exact fun q hq=>hka q (List.mem_cons_of_mem _ hq)) (by rw [B3g];exact fun q hq=>hkb q (List.mem_cons_of_mem _ hq)) (by show(w.marks++[_]).length+n≤100;rw [List.length_append];show w.marks.length+1+n≤100;omega) (by show(w.book++[_]).length+n≤100;rw [List.length_append];show w.book.length+1+n≤100;omega) (by rw [B3g];exact hdl)) (fun r2 β2 hR2=>⟨Le.refl _,kp,?_⟩))
     obtain⟨a2,c2,sO2,sR2,rows2,rfl,rfl,hO2,hon2,hR2⟩:=hR2
     have hcnt:=A9d (a:=a') (b:=b') (w:=w.add 0 x) (n:=8) (by simp only [List.length_cons]at hab;omega)
     rw [show(3:Nat)^8=6561 from rfl]at hcnt
     generalize To.ways a' b' (w.add 0 x)=l2 at *
     refine su ?_
     refine S_do kR (A3x tab (xs:=rows2.flatten) segO sO2 (sR2++(β1++((bx,(rwC am w.marks.length cm ab w.book.length cb ad w.dusk.length cd).toArray,131)::segR))) Y Y Y Y Y Y Y Y Y Y Y cntA hO (fun hb=>RowAt.own hb cntL hO2) (own_len hO2) hon2 (by(try simp only [List.length_nil]);omega) oM (fun sg a' cap' hS'=>⟨Le.refl _,kp,?_⟩))
     refine su ?_
     refine A0b ⟨_,_,⟨Y,a',cap',sg,sR2++(β1++segR),rows++rows2,Y,?_,?_,rows_go hR hnx hR2⟩,⟨Y,?_,cntL⟩,Le.refl _⟩
     ·rw [List.flatten_append,List.length_append];exact hS'
     ·rw [List.flatten_append,List.all_append,hon,hon2];rfl
     ·rw [List.length_append];exact rg
   ·rw [show decide (x=z)=false from decide_eq_false hxz]
    rw [show A2j To.ways (x::a') (z::b') w 0=[]from by simp [A2j,A4g,hxz],List.append_nil]
    refine su ?_
    exact A0b ⟨_,_,⟨Y,ao,co,segO,segR,rows,Y,hO,hon,hR⟩,⟨Y,rg,cntL⟩,Le.refl _⟩
 have hL0:([]++A2j To.ways a b w 0).length≤6561:=B3f hab
 generalize []++A2j To.ways a b w 0=L0 at *
 rintro σ v ⟨rfl,ao,co,segO,segR,rows,rfl,hO,hon,hR⟩
 refine A6q (WSt (rwC am w.marks.length cm ab w.book.length cb ad w.dusk.length cd) w aA a.length cA aB b.length cB bx v (L0++A2j To.ways a b w 1)) ?_ ?_
 rotate_left
 ·rcases a with _|⟨x,a'⟩
  ·rw [show A2j To.ways ([]) b w 1=[]from Y,List.append_nil]
   refine su ?_
   refine XC_lex A1e Y kR ?_
   refine su ?_
   exact A0b ⟨_,_,⟨Y,ao,co,segO,segR,rows,Y,hO,hon,hR⟩,⟨Y,rg,cntL⟩,Le.refl _⟩
  ·obtain⟨bba,offa,pa,ca,ea,fa,rfl,hva,hca⟩:=ha.get (i:=0) (Nat.succ_pos _)
   have hca0:offa+0*4+4≤ca.size∧ca.extract (offa+0*4) (offa+0*4+4)=x.cells.toArray:=hca 0 (Nat.succ_pos _)
   have hxh:=hka x (List.mem_cons_self ..)
   refine su ?_
   refine XC_lex A1e Y kR ?_
   refine su ?_
   rw [show decide (((x::a').length:Int) > 0)=true from decide_eq_true (by simp only [List.length_cons];omega)]
   refine su ?_
   refine A1m tab 0 Y Y Y Y Y Y Y (Nat.succ_pos _) ?_
   refine su ?_
   refine A4l tab Y Y Y hva (A1g tab Y Y Y hca0) ?_
   refine su ?_
   refine A2w bod135 Y Y Y Y Y (B3e hd hxh) ?_
   cases hr:refd w.dusk x with
   | true=>
    rw [show A2j To.ways (x::a') b w 1=[]from by simp [A2j,A4g,hr],List.append_nil]
    refine su ?_
    exact A0b ⟨_,_,⟨Y,ao,co,segO,segR,rows,Y,hO,hon,hR⟩,⟨Y,rg,cntL⟩,Le.refl _⟩
   | false=>
    rw [show A2j To.ways (x::a') b w 1=To.ways a' b (w.add 1 x)from by simp [A2j,A4g,hr]]
    have hlen2:a'.length+b.length≤n:=by simp only [List.length_cons]at hn;omega
    refine su ?_
    refine A1d [8,9,10] [0,1,2,3,4,5,6,7,8,9,10,11] A1e Y kR ?_
    refine su ?_
    refine S_slice_l tab (l':=1) Y Y Y kR Y Y Y Y (Nat.succ_le_succ (Nat.zero_le _)) ?_
    refine su ?_
    refine A0s tab 0 Y Y Y kR Y Y Y Y Y (Nat.succ_pos _) ?_
    refine su ?_
    refine A8v tab Y Y Y kR Y hva (A1g tab Y Y Y hca0) ?_
    refine su ?_
    refine S_do kR (A0o [] ((bx,(rwC am w.marks.length cm ab w.book.length cb ad w.dusk.length cd).toArray,131)::(segO++segR)) Y bod136 Y Y Y Y Y A7s (nextR_x (mark:=1) (hy.le (A0g _ _)) hxh oM oM oM) (fun r1 β1 hR1=>⟨Le.refl _,kp,?_⟩))
    obtain⟨y1,rfl,hnx⟩:=hR1
    refine su ?_
    refine S_do kR (A_bok fun hbk1=>A0o [] (β1++((bx,(rwC am w.marks.length cm ab w.book.length cb ad w.dusk.length cd).toArray,131)::(segO++segR))) Y bod102 Y Y Y Y Y A7s (ih (a:=a') (b:=b) (cA:=cA-1) (cB:=cB) (w:=w.add 1 x) (y:=y1) hlen2 oM ((B3d ha hcA).le (A0g _ _)) (hb.le (A0g _ _)) (by simp only [List.length_cons]at hcA;omega) (hcB) (by rw [A0v hbk1];exact hnx _ (bok_append.1 hbk1).2) (by rw [B3g];exact fun q hq=>hka q (List.mem_cons_of_mem _ hq)) (by rw [B3g];exact hkb) (by show(w.marks++[_]).length+n≤100;rw [List.length_append];show w.marks.length+1+n≤100;omega) (by show(w.book++[_]).length+n≤100;rw [List.length_append];show w.book.length+1+n≤100;omega) (by rw [B3g];exact hdl)) (fun r2 β2 hR2=>⟨Le.refl _,kp,?_⟩))
    obtain⟨a2,c2,sO2,sR2,rows2,rfl,rfl,hO2,hon2,hR2⟩:=hR2
    have hcnt:=A9d (a:=a') (b:=b) (w:=w.add 1 x) (n:=8) (by simp only [List.length_cons]at hab;omega)
    rw [show(3:Nat)^8=6561 from rfl]at hcnt
    generalize To.ways a' b (w.add 1 x)=l2 at *
    refine su ?_
    refine S_do kR (A3x tab (xs:=rows2.flatten) segO sO2 (sR2++(β1++((bx,(rwC am w.marks.length cm ab w.book.length cb ad w.dusk.length cd).toArray,131)::segR))) Y Y Y Y Y Y Y Y Y Y Y cntA hO (fun hb=>RowAt.own hb cntL hO2) (own_len hO2) hon2 (by(try simp only [List.length_nil]);omega) oM (fun sg a' cap' hS'=>⟨Le.refl _,kp,?_⟩))
    refine su ?_
    refine A0b ⟨_,_,⟨Y,a',cap',sg,sR2++(β1++segR),rows++rows2,Y,?_,?_,rows_go hR hnx hR2⟩,⟨Y,?_,cntL⟩,Le.refl _⟩
    ·rw [List.flatten_append,List.length_append];exact hS'
    ·rw [List.flatten_append,List.all_append,hon,hon2];rfl
    ·rw [List.length_append];exact rg
 have hL1:(L0++A2j To.ways a b w 1).length≤13122:=by rw [List.length_append];have:=B3f (w:=w) (m:=1) hab;omega
 generalize L0++A2j To.ways a b w 1=L1 at *
 rintro σ v ⟨rfl,ao,co,segO,segR,rows,rfl,hO,hon,hR⟩
 refine A6q (WSt (rwC am w.marks.length cm ab w.book.length cb ad w.dusk.length cd) w aA a.length cA aB b.length cB bx v (L1++A2j To.ways a b w 2)) ?_ ?_
 rotate_left
 ·rcases b with _|⟨x,b'⟩
  ·rw [show A2j To.ways a ([]) w 2=[]from Y,List.append_nil]
   refine su ?_
   refine XC_lex A1e Y kR ?_
   refine su ?_
   exact A0b ⟨_,_,⟨Y,ao,co,segO,segR,rows,Y,hO,hon,hR⟩,⟨Y,rg,cntL⟩,Le.refl _⟩
  ·obtain⟨bbb,offb,pb,cbb,eb,fb,rfl,hvb,hcb⟩:=hb.get (i:=0) (Nat.succ_pos _)
   have hcb0:offb+0*4+4≤cbb.size∧cbb.extract (offb+0*4) (offb+0*4+4)=x.cells.toArray:=hcb 0 (Nat.succ_pos _)
   have hxh:=hkb x (List.mem_cons_self ..)
   refine su ?_
   refine XC_lex A1e Y kR ?_
   refine su ?_
   rw [show decide (((x::b').length:Int) > 0)=true from decide_eq_true (by simp only [List.length_cons];omega)]
   refine su ?_
   refine A1m tab 0 Y Y Y Y Y Y Y (Nat.succ_pos _) ?_
   refine su ?_
   refine A4l tab Y Y Y hvb (A1g tab Y Y Y hcb0) ?_
   refine su ?_
   refine A2w bod135 Y Y Y Y Y (B3e hd hxh) ?_
   cases hr:refd w.dusk x with
   | true=>
    rw [show A2j To.ways a (x::b') w 2=[]from by simp [A2j,A4g,hr],List.append_nil]
    refine su ?_
    exact A0b ⟨_,_,⟨Y,ao,co,segO,segR,rows,Y,hO,hon,hR⟩,⟨Y,rg,cntL⟩,Le.refl _⟩
   | false=>
    rw [show A2j To.ways a (x::b') w 2=To.ways a b' (w.add 2 x)from by simp [A2j,A4g,hr]]
    have hlen2:a.length+b'.length≤n:=by simp only [List.length_cons]at hn;omega
    refine su ?_
    refine A1d [8,9,10] [0,1,2,3,4,5,6,7,8,9,10,11] A1e Y kR ?_
    refine su ?_
    refine S_slice_l tab (l':=1) Y Y Y kR Y Y Y Y (Nat.succ_le_succ (Nat.zero_le _)) ?_
    refine su ?_
    refine A0s tab 0 Y Y Y kR Y Y Y Y Y (Nat.succ_pos _) ?_
    refine su ?_
    refine A8v tab Y Y Y kR Y hvb (A1g tab Y Y Y hcb0) ?_
    refine su ?_
    refine S_do kR (A0o [] ((bx,(rwC am w.marks.length cm ab w.book.length cb ad w.dusk.length cd).toArray,131)::(segO++segR)) Y bod136 Y Y Y Y Y A7s (nextR_x (mark:=2) (hy.le (A0g _ _)) hxh oM oM oM) (fun r1 β1 hR1=>⟨Le.refl _,kp,?_⟩))
    obtain⟨y1,rfl,hnx⟩:=hR1
    refine su ?_
    refine S_do kR (A_bok fun hbk1=>A0o [] (β1++((bx,(rwC am w.marks.length cm ab w.book.length cb ad w.dusk.length cd).toArray,131)::(segO++segR))) Y bod102 Y Y Y Y Y A7s (ih (a:=a) (b:=b') (cA:=cA) (cB:=cB-1) (w:=w.add 2 x) (y:=y1) hlen2 oM (ha.le (A0g _ _)) ((B3d hb hcB).le (A0g _ _)) (hcA) (by simp only [List.length_cons]at hcB;omega) (by rw [A0v hbk1];exact hnx _ (bok_append.1 hbk1).2) (by rw [B3g];exact hka) (by rw [B3g];exact fun q hq=>hkb q (List.mem_cons_of_mem _ hq)) (by show(w.marks++[_]).length+n≤100;rw [List.length_append];show w.marks.length+1+n≤100;omega) (by show(w.book++[_]).length+n≤100;rw [List.length_append];show w.book.length+1+n≤100;omega) (by rw [B3g];exact hdl)) (fun r2 β2 hR2=>⟨Le.refl _,kp,?_⟩))
    obtain⟨a2,c2,sO2,sR2,rows2,rfl,rfl,hO2,hon2,hR2⟩:=hR2
    have hcnt:=A9d (a:=a) (b:=b') (w:=w.add 2 x) (n:=8) (by simp only [List.length_cons]at hab;omega)
    rw [show(3:Nat)^8=6561 from rfl]at hcnt
    generalize To.ways a b' (w.add 2 x)=l2 at *
    refine su ?_
    refine S_do kR (A3x tab (xs:=rows2.flatten) segO sO2 (sR2++(β1++((bx,(rwC am w.marks.length cm ab w.book.length cb ad w.dusk.length cd).toArray,131)::segR))) Y Y Y Y Y Y Y Y Y Y Y cntA hO (fun hb=>RowAt.own hb cntL hO2) (own_len hO2) hon2 (by(try simp only [List.length_nil]);omega) oM (fun sg a' cap' hS'=>⟨Le.refl _,kp,?_⟩))
    refine su ?_
    refine A0b ⟨_,_,⟨Y,a',cap',sg,sR2++(β1++segR),rows++rows2,Y,?_,?_,rows_go hR hnx hR2⟩,⟨Y,?_,cntL⟩,Le.refl _⟩
    ·rw [List.flatten_append,List.length_append];exact hS'
    ·rw [List.flatten_append,List.all_append,hon,hon2];rfl
    ·rw [List.length_append];exact rg
 rintro σ v ⟨rfl,ao,co,segO,segR,rows,rfl,hO,hon,hR⟩
 refine su ?_
 refine A0f tab (segO++segR) (by exact .tmp rfl .nil) (Back.here cntL) ?_
 exact⟨ao,co,segO,segR,rows,Y,Y,hO,hon,hR⟩
end
section
variable{v:View}{mn:Who}{P:Int}{aD aA aB:Option Addr}{cD cA cB:Nat}{d:List Int}{a b:List MA}
theorem sameMorns_x{aE:Option Addr}{cE:Nat}(hd:RowAt v aD (d.map intV))(he:RowAt v aE (d.map intV))(hdl:d.length<2^30) :
  Ret1 prog mn 24 [moV P aD d.length cD,moV P aE d.length cE] (.bool true) v:=by
 refine A0d tab func24 Y nB (args:=[_,_]) ?_
 refine sw fun bx=>?_;refine sw fun bx=>?_
 rw [show(P==P)=true from beq_self_eq_true P]
 refine su ?_
 refine Q_op fun ho=>A0u ho bod39 Y Y Y Y Y (A5v (A9n (cA:=_) (cB:=_) hd he oM oM)) ?_
 clear ho
 refine su ?_
 refine A0f tab [] (by exact .tmp rfl .nil) (Back.here cntL) ?_
 exact⟨Y,Y⟩
def longB(n a b:Nat):Bool:=decide (n > 20)||decide (a > 20)||decide (b > 20)
theorem long_x{n na nb:Nat}:Ret1 prog mn 31 [moV P aD n cD,.slice aA na cA,.slice aB nb cB] (.bool (longB n na nb)) v:=by
 refine A0d tab func31 Y nB (args:=[_,_,_]) ?_
 refine sw fun bx=>?_
 unfold longB
 by_cases h1:n > 20
 ·rw [show decide ((n:Int) > 20)=true from decide_eq_true oM,decide_eq_true h1]
  refine su ?_
  refine A0f tab [] (by exact .tmp rfl .nil) (Back.here cntL) ?_
  exact⟨Y,Y⟩
 rw [show decide ((n:Int) > 20)=false from decide_eq_false oM,decide_eq_false h1]
 refine su ?_
 by_cases h2:na > 20
 ·rw [show decide ((na:Int) > 20)=true from decide_eq_true oM,decide_eq_true h2]
  refine su ?_
  refine A0f tab [] (by exact .tmp rfl .nil) (Back.here cntL) ?_
  exact⟨Y,Y⟩
 rw [show decide ((na:Int) > 20)=false from decide_eq_false oM,decide_eq_false h2]
 refine su ?_
 refine A0f tab [] (by exact .tmp rfl .nil) (Back.here cntL) ?_
 refine⟨?_,Y⟩
 by_cases h3:nb > 20
 ·rw [decide_eq_true h3];exact congrArg Value.bool (decide_eq_true oM)
 ·rw [decide_eq_false h3];exact congrArg Value.bool (decide_eq_false oM)
end
def mkS(e:TypeId)(k:Nat)(x:Value)(β:A0e)(cs:List Value):Prop:=∃b c,x = .slice (some ⟨b,0,none⟩) 3 3∧β=[(b,c,e)]∧OwnS e k [(b,c,e)] (some ⟨b,0,none⟩) 3 3 cs
def spS(m1 m2 p1 p2 q1 q2:Value)(ys:List MA)(x:MA):Nat→Value→A0e→Prop
 | 3,y,β|16,y,β=>mkS 24 2 y β (m1.cells.toList++(m2.cells.toList++m2.cells.toList))
 | 7,y,β|17,y,β=>mkS 42 1 y β [p1,p2,p2]
 | 11,y,β=>OwnI 26 4 y β ys.length (ys.map MA.cells).flatten
 | 13,y,β=>OwnI 26 4 y β 1 x.cells
 | 14,y,β=>OwnI 26 4 y β (ys.length+1) ((ys.map MA.cells).flatten++x.cells)
 | _,y,β=>∃b c a cap seg,y = .slice (some ⟨b,0,none⟩) 3 3∧β=(b,c,42)::seg∧OwnS 42 1 [(b,c,42)] (some ⟨b,0,none⟩) 3 3 [q1,q2,.slice a (ys.length+1) cap]∧OwnS 26 4 seg a (ys.length+1) cap ((ys.map MA.cells).flatten++x.cells)
def preS:Nat→List Nat|14=>[11,13]|15=>[14]|16=>[3]|17=>[7]|18=>[15]|_=>[]
def dstS(i:Nat):Nat:=bif Nat.blt i 16 then i+24 else i-6
section
variable{mn:Who}{v:View}
theorem several_x{P:Int}{aD aP aQ a0:Option Addr}{nD cD nP cP nQ cQ bg cap0:Nat}{ns:List Int}{x:MA}{β:A0e}(hns:RowAt v a0 (ns.map (.int .i64)))(hB:(Bg.mk bg a0 cap0 ns).at 0 β) :
  CallsB prog mn 32 #[moV P aD nD cD,.slice aP nP cP,.slice aQ nQ cQ,x.val,(Bg.mk bg a0 cap0 ns).ptr] (RetB fun r β'=>∃(b1 b2 b3:Nat) (c1 c2 c3:Array Value) (M:Int) (dw:List Int) (aw:Option Addr) (cw:Nat) (xs ys:List MA) (ax ay az:Option Addr) (cx cy cz:Nat) (segM segX segY segZ:A0e),
   r = .tuple (List.toArray [.slice (some ⟨b1,0,none⟩) 3 3,.slice (some ⟨b2,0,none⟩) 3 3,.slice (some ⟨b3,0,none⟩) 3 3])∧β'=(b1,c1,24)::(b2,c2,42)::(b3,c3,42)::(segM++(segX++(segY++segZ)))∧
   OwnS 24 2 [(b1,c1,24)] (some ⟨b1,0,none⟩) 3 3 [intV P,.slice aD nD cD,intV M,.slice aw dw.length cw,intV M,.slice aw dw.length cw]∧
   OwnS 42 1 [(b2,c2,42)] (some ⟨b2,0,none⟩) 3 3 [.slice aP nP cP,.slice ax xs.length cx,.slice ax xs.length cx]∧
   OwnS 42 1 [(b3,c3,42)] (some ⟨b3,0,none⟩) 3 3 [.slice aQ nQ cQ,.slice ay ys.length cy,.slice az (ys.length+1) cz]∧
   OwnS 3 1 segM aw dw.length cw (dw.map intV)∧OwnS 26 4 segX ax xs.length cx (xs.map MA.cells).flatten∧OwnS 26 4 segY ay ys.length cy (ys.map MA.cells).flatten∧OwnS 26 4 segZ az (ys.length+1) cz ((ys++[x]).map MA.cells).flatten∧
   MOk M dw∧xs.length≤4∧ys.length≤4∧(∀x∈xs,Ok M dw.length x)∧∀x∈ys,Ok M dw.length x) β v:=by
 refine A0d tab func32 Y nB (args:=[_,_,_,_,_]) ?_
 refine sw fun bx=>?_;refine sw fun bx=>?_
 rename_i b5
 obtain⟨b8,rfl⟩:∃x:Nat,x=bx:=⟨bx,rfl⟩
 refine Q_op fun ho=>A0o β [(b8,x.val.cells,26),(b5,(moV P aD nD cD).cells,24)] ho bod19 Y Y Y Y Y cntA (mornOf_z (RowAt.le hns (A0g _ _)) hB dM) (fun x β' hR=>?_)
 clear ho
 obtain⟨M,dw,aw,cw,n1,βb,segM,rfl,rfl,hB1,hn1,hS,hM,hP2⟩:=hR
 refine sw fun bx=>?_
 obtain⟨b13,rfl⟩:∃x:Nat,x=bx:=⟨bx,rfl⟩
 rw [putV_mo]
 refine Q_op fun ho=>A_bok fun hbk=>A0o βb ((b13,(moV M aw dw.length cw).cells,24)::(segM++[(b8,x.val.cells,26),(b5,(moV P aD nD cD).cells,24)])) ho bod44 Y Y Y Y Y cntA (twoOf_z (g:=Bg.mk bg a0 cap0 ns) (N:=4) (RowAt.le hns (A0g _ _)) hB1 oM (row_rest (bin:=βb) hbk cntA hS cntL) hM hP2 dM) (fun x β' hR=>?_)
 clear ho
 obtain⟨xs,ys,ax,ay,cx,cy,n2,βb2,segX,segY,rfl,rfl,hB2,hn2,hSx,hSy,hx4,hy4,hxa,hya⟩:=hR
 refine su ?_
 refine A1d [3,7,11,13,14,15,16,17,18] [0,1,2,4,5,6,8,9,10,12,3,7,11,13,14,15,16,17,18] A1e Y kR ?_
 refine su ?_
 refine XS_by (ρ':=[(24,moV P aD nD cD),(25,moV M aw dw.length cw),(26,moV M aw dw.length cw),(28,.slice aP nP cP),(29,.slice ax xs.length cx),(30,.slice ax xs.length cx),(32,.slice aQ nQ cQ),(33,.slice ay ys.length cy),(34,.slice ay ys.length cy),(36,x.val)]) (β':=(βb2++(segX++segY))++((b13,(moV M aw dw.length cw).cells,24)::(segM++[(b8,x.val.cells,26),(b5,(moV P aD nD cD).cells,24)]))) ?_ Y Y (SubR.get rg) (fun _=>Nat.le_refl _)
 refine S_tree (Sp:=spS (moV P aD nD cD) (moV M aw dw.length cw) (.slice aP nP cP) (.slice ax xs.length cx) (.slice aQ nQ cQ) (.slice ay ys.length cy) ys x) (pre:=preS) [3,7,11,13,14,15,16,17,18] dstS dM dM (fun i hi=>?_) dM dM (fun i hi=>?_) (by repeat (first|exact trivial|(refine⟨?_,?_⟩;focus exact ib))) kR (fun j hj c hc u' hu'=>?_) (fun c hc hz=>?_)
 ·simp only [List.mem_cons,List.not_mem_nil,or_false]at hi
  rcases hi with rfl|rfl|rfl|rfl|rfl|rfl|rfl|rfl|rfl<;>rfl
 ·simp only [List.mem_cons,List.not_mem_nil,or_false]at hi
  rcases hi with rfl|rfl|rfl|rfl|rfl|rfl|rfl|rfl|rfl<;>exact⟨fun o ho=>by cases ho;rfl,rfl⟩
 ·simp only [List.mem_cons,List.not_mem_nil,or_false]at hj
  rcases hj with rfl|rfl|rfl|rfl|rfl|rfl|rfl|rfl|rfl
  ·exact A3w tab Y Y Y Y Y Y Y Y Y Y (fun b c hL=>⟨Y,_,_,⟨_,_,Y,Y,hL⟩,Y⟩)
  ·exact A3w tab Y Y Y Y Y Y Y Y Y Y (fun b c hL=>⟨Y,_,_,⟨_,_,Y,Y,hL⟩,Y⟩)
  ·exact A_bok fun hbk=>A0o [] _ Y bod33 Y Y Y Y Y A7s (ownActs_x (RowAt.own hbk (show Subm segY ((βb2++(segX++segY))++((b13,(moV M aw dw.length cw).cells,24)::(segM++[(b8,x.val.cells,26),(b5,(moV P aD nD cD).cells,24)])))from cntL) hSy) oM) (fun y β' hR=>⟨Y,_,_,hR,Y⟩)
  ·exact A3w tab Y Y Y Y Y Y Y Y Y Y (fun b c hL=>⟨Y,_,_,⟨_,_,Y,hL⟩,Y⟩)
  ·obtain⟨a0,c0,h1,hL⟩:=hc 11 dM
   obtain⟨a1,c1,h2,hL2⟩:=hc 13 dM
   simp only [show preS 14=[11,13]from Y,netR,netβ,h1,h2]
   exact A3x tab (xs:=x.cells) (c 11).2 (c 13).2 _ Y Y Y Y Y Y Y Y Y Y Y cntA hL (fun hb=>RowAt.own hb cntL hL2) Y Y oM oM (fun sg a1 c1 hS=>⟨Y,_,_,⟨_,_,Y,hS⟩,Y⟩)
  ·obtain⟨a0,c0,h1,hL⟩:=hc 14 dM
   simp only [show preS 15=[14]from Y,netR,netβ,h1]
   exact A3w tab Y Y Y Y Y Y Y Y Y Y (fun b c' hL'=>⟨Y,_,(b,c',42)::(c 14).2,⟨_,_,_,_,_,Y,Y,hL',hL⟩,Y⟩)
  ·have h:=hc 3 dM
   obtain⟨b,c0,h1,h2,hL⟩:=id h
   simp only [show preS 16=[3]from Y,netR,netβ,h1]
   exact A_mk tab Y Y Y Y ⟨Y,_,(c 3).2,⟨b,c0,Y,h2,hL⟩,Y⟩
  ·have h:=hc 7 dM
   obtain⟨b,c0,h1,h2,hL⟩:=id h
   simp only [show preS 17=[7]from Y,netR,netβ,h1]
   exact A_mk tab Y Y Y Y ⟨Y,_,(c 7).2,⟨b,c0,Y,h2,hL⟩,Y⟩
  ·have h:=hc 15 dM
   obtain⟨b,c0,a,cap,seg,h1,h2,hL,hL2⟩:=id h
   simp only [show preS 18=[15]from Y,netR,netβ,h1]
   exact A_mk tab Y Y Y Y ⟨Y,_,(c 15).2,⟨b,c0,a,cap,seg,Y,h2,hL,hL2⟩,Y⟩
 obtain⟨b1,c1,e1,f1,hL1⟩:=hc 16 dM dM
 obtain⟨b2,c2,e2,f2,hL2⟩:=hc 17 dM dM
 obtain⟨b3,c3,az,cz,segZ,e3,f3,hL3,hSz⟩:=hc 18 dM dM
 simp only [netR,netβ,e1,e2,e3,f1,f2,f3,hz 3 dM dM,hz 7 dM dM,hz 11 dM dM,hz 13 dM dM,hz 14 dM dM,hz 15 dM dM,List.nil_append]
 clear hc hz e1 e2 e3 f1 f2 f3
 refine su ?_
 refine A0f tab ((b1,c1,24)::(b2,c2,42)::(b3,c3,42)::(segM++(segX++(segY++segZ)))) (by exact .tmp rfl (.tmp rfl (.tmp rfl .nil))) (Back.here cntL) ?_
 refine⟨b1,b2,b3,c1,c2,c3,M,dw,aw,cw,xs,ys,ax,ay,az,cx,cy,cz,segM,segX,segY,segZ,Y,Y,hL1,hL2,hL3,hS,hSx,hSy,?_,hM,hx4,hy4,hxa,hya⟩
 rw [List.map_append,List.flatten_append]
 simpa using hSz
end
structure CaseAt(u:View)(m:List Value)(x y:Value)(P:Int)(d:List Int)(p q:List MA):Prop where
 m:∃aD cD,m=[intV P,.slice aD d.length cD]∧RowAt u aD (d.map intV)
 x:∃a c,x = .slice a p.length c∧p.length≤c∧ActsAt u a p
 y:∃a c,y = .slice a q.length c∧q.length≤c∧ActsAt u a q
 ld:d.length≤20
 lp:p.length≤20
 lq:q.length≤20
def spL(P:Int)(d:List Int)(p q:List MA):Nat→Value→A0e→Prop
 | 4,y,β=>∃a c,y=moV P a d.length c∧OwnS 3 1 β a d.length c (d.map intV)
 | 9,y,β=>OwnI 26 4 y β p.length (p.map MA.cells).flatten
 | 14,y,β=>OwnI 26 4 y β q.length (q.map MA.cells).flatten
 | _,y,β=>∃b,y = .pointer (some ⟨b,0,none⟩)∧β=[(b,(Value.agg (List.toArray [.int .i64 0,.slice none 0 0])).cells,24)]
end Go.Proofs.YtclejblcnfaeaaaGreat
end
