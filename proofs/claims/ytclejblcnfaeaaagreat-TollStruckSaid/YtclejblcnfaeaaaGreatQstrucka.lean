/- Part 46. -/
import Derived.Test.YtclejblcnfaeaaaGreatPbr
import Derived.Test.YtclejblcnfaeaaaGreatPbs
set_option linter.all false
section
namespace Go.Proofs.YtclejblcnfaeaaaGreat
open Go Go.Pal Go.Proofs.Tryz
theorem bod17:A0i Tryz.prog 17:=⟨_,_,func17,Y,by decide⟩
theorem bod18:A0i Tryz.prog 18:=⟨_,_,func18,Y,by decide⟩
theorem bod19:A0i Tryz.prog 19:=⟨_,_,func19,Y,by decide⟩
theorem bod44:A0i Tryz.prog 44:=⟨_,_,func44,Y,by decide⟩
theorem bod45:A0i Tryz.prog 45:=⟨_,_,func45,Y,by decide⟩
theorem bod46:A0i Tryz.prog 46:=⟨_,_,func46,Y,by decide⟩
theorem bod47:A0i Tryz.prog 47:=⟨_,_,func47,Y,by decide⟩
end Go.Proofs.YtclejblcnfaeaaaGreat
end
section
namespace Go.Pal
open Go Go.Conc View
section
variable{P:Program}{mn:Who}(T:Tab P){rd:Option Nat}{n:Nat}{Q:Exit→St→View→Prop}{ds:List Deferred}{ρ:Regs}{β:A0f}{v:View}
 {ops:Array Oper}{i:Nat}{K:St→View→Prop}
theorem Back.retired{β1 β' β:A0f}{u:View}(h1:Bok β1 v)(h:Back (v.union (A0c β1)) β' u β):Back v (β'++β1) u β:=fun hb=>by
 obtain⟨h2,h3⟩:=h hb
 have:=bok_append.2 ⟨h1,h2⟩
 exact⟨this,(A0v this) ▸ h3⟩
end
section
variable{P:Program}{mn:Who}(T:Tab P){rd:Option Nat}{n:Nat}{Q:Exit→St→View→Prop}{ds:List Deferred}{ρ:Regs}{β:A0f}{v:View}
 {ops:Array Oper}{i k:Nat}{S:List Rec}{done:List Nat}{ms:List Nat}{v0:View}{todo:List Nat}
def twoB(ops:Array Oper)(ms done:List Nat)(i k:Nat):Bool:=(Region.ready .any ops (mkL ops done)).contains i&&(Region.ready .any ops (mkL ops done)).all (fun j=>Nat.beq j i||Nat.beq j k)&&ms.contains i&&ms.contains k
theorem S_two(k:Nat)(hB:twoB ops ms done i k=true)(h1:XOp P mn (some 4294967295) n ops i (fun _ _ _=>False) (fun σ' u=>v.Le u∧KeepS ops i S σ'.β∧XS P mn n ops ms v0 Q (k::todo) S (i::done) σ' u) ⟨ds,ρ,β⟩ v)
  (h2:XOp P mn (some 4294967295) n ops k (fun _ _ _=>False) (fun σ' u=>v.Le u∧KeepS ops k S σ'.β∧XS P mn n ops ms v0 Q (i::todo) S (k::done) σ' u) ⟨ds,ρ,β⟩ v):XS P mn n ops ms v0 Q (i::k::todo) S done ⟨ds,ρ,β⟩ v:=fun a hf hb hv hc=>by
 simp only [twoB,Bool.and_eq_true]at hB
 obtain⟨⟨⟨hb1,hb2⟩,hb3⟩,hb4⟩:=hB
 have hri:i∈Region.ready .any ops (mkL ops done):=by simpa using hb1
 show AnyS P mn ops ms v0 (fun a u=>Post n Q .normal a u) (todo.length+1+1) (SV S) (mkL ops done) a (v.union (A0c β))
 refine⟨fun e=>(by rw [e]at hri;cases hri),fun j hj=>?_⟩
 have hr:=hj
 have hx:ms.contains j=true∧XOp P mn (some 4294967295) n ops j (fun _ _ _=>False) (fun σ' u=>v.Le u∧KeepS ops j S σ'.β∧XS P mn n ops ms v0 Q (k::todo) S (j::done) σ' u) ⟨ds,ρ,β⟩ v:=by
  have hji:=List.all_eq_true.1 hb2 j hj
  rw [Bool.or_eq_true]at hji
  rcases hji with hji|hji
  ·have:=Nat.eq_of_beq_eq_true hji;subst this;exact⟨hb3,h1⟩
  ·have:=Nat.eq_of_beq_eq_true hji;subst this;exact⟨hb4,h2⟩
 obtain⟨h3,h⟩:=hx
 obtain⟨o,ho,hw,hd,hs⟩:=h a hf hb
 unfold OpS
 simp only [ho,hw,if_true]
 have key:∀{a' w},KP n (fun σ' u=>v.Le u∧KeepS ops j S σ'.β∧XS P mn n ops ms v0 Q (k::todo) S (j::done) σ' u) a' w→Keeps ops ms v0 (SV S) j (v.union (A0c β)) w∧AnyS P mn ops ms v0 (fun a u=>Post n Q .normal a u) (todo.length+1) (SV S) ((mkL ops done).setIfInBounds j true) a' w:=by
  rintro a' w ⟨σ',u,⟨hl,hk,hx⟩,hf',hb',hw'⟩
  refine⟨?_,?_⟩
  ·unfold Keeps
   rw [if_pos h3]
   refine⟨((hv.trans hl).trans (A0e _ _)).trans hw',fun p hp hdp=>?_⟩
   obtain⟨b,c,t,he,hin⟩:=B0o hk p hp hdp
   rw [he]
   intro j' x e
   simp only [A0c]at e
   split at e
   ·rename_i hj';subst hj';cases e;exact hw' _ _ (A0p hb' hin)
   ·cases e
  ·exact A5k (K:=fun a u=>Post n Q .normal a u) (fun a u v hl hp=>post_le hl hp) _ _ _ _ _ _ hw' (hx _ hf' hb' (hv.trans hl) (A4z hc hr A9f))
 refine A2c _ (fun nx w hK=>?_) (fun x w hE=>?_) hs
 ·cases nx with
  | value x=>exact key hK
  | skip=>exact key hK
  | defer d=>exact absurd hK.1 sM
  | enter f args=>exact CallsX.mono hK fun e w' hR=>⟨w',Le.refl _,by
    cases e with
    | ret x=>exact key hR
    | pan ch=>obtain⟨_,_,hq,_⟩:=hR;exact hq⟩
  | round l f tmps assign body=>exact absurd rfl hK.1
  | _=>exact hK.elim
 ·obtain⟨_,_,hq,_⟩:=hE;exact hq
end
end Go.Pal
end
section
namespace Go.Pal.To
open Go
theorem len_subG{α:Type}[DecidableEq α]:∀{l m:List α},l.Nodup→(∀x∈l,x∈m)→l.length≤m.length
 | [],_,_,_=>Nat.zero_le _
 | x::l,m,hn,h=>by
  have hx:=h x sM
  rw [List.nodup_cons]at hn
  have:=len_subG (l:=l) (m:=m.erase x) hn.2 fun y hy=>(List.mem_erase_of_ne (show y≠x from fun e=>hn.1 (by rw [←e];exact hy))).2 (h y (by simp [hy]))
  rw [List.length_erase_of_mem hx]at this
  have:=List.length_pos_of_mem hx
  simp only [List.length_cons];omega
theorem asc_one:∀{l m:List Int},l.Pairwise (· < ·)→m.Pairwise (· < ·)→(∀x,x∈l↔x∈m)→l=m
 | [],[],_,_,_=>rfl
 | [],y::m,_,_,h=>by have:=(h y).2 sM;cases this
 | x::l,[],_,_,h=>by have:=(h x).1 sM;cases this
 | x::l,y::m,hl,hm,h=>by
  rw [List.pairwise_cons]at hl hm
  have hxy:x=y:=by
   rcases List.mem_cons.1 ((h x).1 sM)with e|h1
   ·exact e
   ·rcases List.mem_cons.1 ((h y).2 sM)with e|h2
    ·exact e.symm
    ·have:=hm.1 x h1;have:=hl.1 y h2;omega
  subst hxy
  have:l=m:=asc_one hl.2 hm.2 fun z=>by
   constructor
   ·intro hz
    rcases List.mem_cons.1 ((h z).1 (by simp [hz]))with e|h1
    ·subst e;have:=hl.1 z hz;omega
    ·exact h1
   ·intro hz
    rcases List.mem_cons.1 ((h z).2 (by simp [hz]))with e|h1
    ·subst e;have:=hm.1 z hz;omega
    ·exact h1
  rw [this]
end Go.Pal.To
end
section
namespace Go.Proofs.YtclejblcnfaeaaaGreat
open Go Go.Pal Go.Pal.To Go.Conc View
open Go.Proofs.Tryz
set_option maxHeartbeats 4000000
set_option maxRecDepth 20000
section
variable{mn:Who}{v:View}
theorem own_box{e:TypeId}{k:Nat}{seg:A0f}{a:Option Addr}{len cap:Nat}{xs:List Value}(h:OwnS e k seg a len cap xs)(hl:0<len):∃b c,seg=[(b,c,e)]∧a=some ⟨b,0,none⟩∧len≤cap∧c.size=cap*k∧∀(i:Nat) (x:Value),xs[i]?=some x→c[i]?=some x:=by
 cases h with
 | nil=>cases hl
 | @box b c _ _ _ h1 h2 h3 h4=>exact⟨b,c,rfl,rfl,h2,h3,h4⟩
end
end Go.Proofs.YtclejblcnfaeaaaGreat
end
section
namespace Go.Pal.To
open Go
abbrev LP:=List Int×List Int
def ltP(u v:LP):Prop:=ltL u.1 v.1=true∨(u.1=v.1∧ltL u.2 v.2=true)
def Best(R S:LP→Prop):Option LP→Prop
 | none=>∀u,S u→¬R u
 | some v=>S v∧R v∧∀u,S u→R u→¬ltP u v
theorem ltP_irrefl(u:LP):¬ltP u u:=by
 unfold ltP;rw [A7z,A7z];simp
theorem ltP_ntrans{u v w:LP}(h:¬ltP u v)(k:¬ltP v w):¬ltP u w:=by
 have:=keyLt_ntrans (c:=0) (c':=0) (c'':=0) (p:=u.1) (q:=u.2) (p':=v.1) (q':=v.2) (p'':=w.1) (q'':=w.2) (by simpa [A4w,ltP]using h) (by simpa [A4w,ltP]using k)
 simpa [A4w,ltP]using this
theorem ltP_asymm{u v:LP}(h:ltP u v):¬ltP v u:=fun k=>by
 have h':A4w 0 u.1 u.2 0 v.1 v.2:=.inr ⟨Y,h⟩
 have k':A4w 0 v.1 v.2 0 u.1 u.2:=.inr ⟨Y,k⟩
 exact B1g (B2v h' k')
theorem Best.congr{R S S':LP→Prop}{st:Option LP}(h:Best R S st)(e:∀u,S u↔S' u):Best R S' st:=by
 cases st with
 | none=>exact fun u hu=>h u ((e u).2 hu)
 | some v=>exact⟨(e v).1 h.1,h.2.1,fun u hu=>h.2.2 u ((e u).2 hu)⟩
theorem Best.no{R S:LP→Prop}{st:Option LP}(h:Best R S st){u:LP}(hu:¬R u):Best R (fun w=>S w∨w=u) st:=by
 cases st with
 | none=>
  rintro w (hw|rfl)
  ·exact h w hw
  ·exact hu
 | some v=>
  refine⟨.inl h.1,h.2.1,?_⟩
  rintro w (hw|rfl) hr
  ·exact h.2.2 w hw hr
  ·exact absurd hr hu
theorem Best.one{R S:LP→Prop}(h:Best R S none){u:LP}(hu:R u):Best R (fun w=>S w∨w=u) (some u):=by
 refine⟨.inr Y,hu,?_⟩
 rintro w (hw|rfl) hr
 ·exact absurd hr (h w hw)
 ·exact ltP_irrefl _
theorem Best.less{R S:LP→Prop}{v:LP}(h:Best R S (some v)){u:LP}(hu:R u)(hl:ltP u v):Best R (fun w=>S w∨w=u) (some u):=by
 refine⟨.inr Y,hu,?_⟩
 rintro w (hw|rfl) hr
 ·exact ltP_ntrans (h.2.2 w hw hr) (ltP_asymm hl)
 ·exact ltP_irrefl _
theorem Best.more{R S:LP→Prop}{v:LP}(h:Best R S (some v)){u:LP}(hl:¬ltP u v):Best R (fun w=>S w∨w=u) (some v):=by
 refine⟨.inl h.1,h.2.1,?_⟩
 rintro w (hw|rfl) hr
 ·exact h.2.2 w hw hr
 ·exact hl
structure Sub(n:Nat)(l:List Int):Prop where
 asc:l.Pairwise (· < ·)
 all:∀x∈l,0≤x∧x<n
def bitsN(f:Nat→Bool):Nat→Nat
 | 0=>0
 | n+1=>bitsN f n ||| (if f n then 2 ^ n else 0)
theorem B3q(f:Nat→Bool):∀(n i:Nat),hasN (bitsN f n) i=(decide (i<n)&&f i)
 | 0,i=>by rw [hasN_bit];simp [bitsN]
 | n+1,i=>by
  have ih:=B3q f n i
  rw [hasN_bit]at ih⊢
  show(bitsN f n ||| (if f n then 2 ^ n else 0)).testBit i=_
  rw [Nat.testBit_or,ih]
  by_cases e:i=n
  ·subst e
   have h1:decide (i<i)=false:=decide_eq_false oM
   have h2:decide (i<i+1)=true:=decide_eq_true oM
   rw [h1,h2]
   cases h:f i<;>simp
  ·have h3:(if f n=true then 2 ^ n else 0).testBit i=false:=by
    cases h:f n
    ·simp
    ·simp only [if_true,Nat.testBit_two_pow]
     exact decide_eq_false (fun e'=>e e'.symm)
   rw [h3,Bool.or_false]
   by_cases h4:i<n
   ·rw [decide_eq_true h4,decide_eq_true (show i<n+1 by omega)]
   ·rw [decide_eq_false h4,decide_eq_false (show ¬i<n+1 by omega)]
theorem bitsN_lt(f:Nat→Bool)(n:Nat):bitsN f n<2 ^ n:=by
 refine Nat.lt_pow_two_of_testBit _ fun i hi=>?_
 rw [←hasN_bit,B3q,decide_eq_false oM]
 rfl
theorem pL_asc(s na i:Nat):(pL s na i).Pairwise (· < ·):=by
 unfold pL
 rw [List.pairwise_map]
 exact(List.pairwise_lt_range.filter _).imp fun h=>by omega
theorem qL_asc(s na i:Nat):(qL s na i).Pairwise (· < ·):=by
 unfold qL
 rw [List.pairwise_map]
 exact(List.pairwise_lt_range.filter _).imp fun h=>by omega
theorem set_of{na nb:Nat}{x y:List Int}(hx:Sub na x)(hy:Sub nb y):∃s,s<2 ^ (na+nb)∧pL s na (na+nb)=x∧qL s na (na+nb)=y:=by
 refine⟨bitsN (fun i=>if i<na then decide ((i:Int)∈x)else decide (((i:Int)-na)∈y)) (na+nb),bitsN_lt _ _,?_,?_⟩
 ·refine asc_one (pL_asc _ _ _) hx.asc fun z=>?_
  rw [mem_pL]
  constructor
  ·rintro⟨n,h1,h2,h3,rfl⟩
   rw [B3q,if_pos h3]at h2
   simpa [h1]using h2
  ·intro hz
   have h1:=hx.all z hz
   refine⟨z.toNat,oM,?_,oM,oM⟩
   rw [B3q,if_pos oM]
   have e:((z.toNat:Nat):Int)=z:=oM
   rw [e,decide_eq_true oM,decide_eq_true hz];rfl
 ·refine asc_one (qL_asc _ _ _) hy.asc fun z=>?_
  rw [mem_qL]
  constructor
  ·rintro⟨n,h1,h2,h3,rfl⟩
   rw [B3q,if_neg oM]at h2
   simpa [h1]using h2
  ·intro hz
   have h1:=hy.all z hz
   refine⟨na+z.toNat,oM,?_,oM,oM⟩
   rw [B3q,if_neg oM]
   have e:((na+z.toNat:Nat):Int)-na=z:=oM
   rw [e,decide_eq_true oM,decide_eq_true hz];rfl
theorem sub_pL(s na nb:Nat):Sub na (pL s na (na+nb)):=⟨pL_asc _ _ _,fun x hx=>by
 obtain⟨n,_,_,h3,rfl⟩:=mem_pL.1 hx
 omega⟩
theorem sub_qL(s na nb:Nat):Sub nb (qL s na (na+nb)):=⟨qL_asc _ _ _,fun x hx=>by
 obtain⟨n,h1,_,h3,rfl⟩:=mem_qL.1 hx
 omega⟩
def Two(na nb many:Nat)(u:LP):Prop:=Sub na u.1∧Sub nb u.2∧u.1.length+u.2.length=many
def RightP(d:List Int)(a b:List MA)(u:LP):Prop:=B1b d a b u.1 u.2
theorem struck_pick{P:Int}{d:List Int}{a b:List MA}(hL:LOk P d a b){r:Int×List Int×List Int}(h:A4y P d a b r){many:Nat}{v:LP}
  (h1:∀k,k<many→∀u,Two a.length b.length k u→¬RightP d a b u)(h2:Best (RightP d a b) (Two a.length b.length many) (some v)):r=(0,v.1,v.2):=by
 unfold A4y at h
 rw [if_neg (by simpa using layE_ok.2 hL)]at h
 obtain⟨s,hs,rfl,hr,hmin⟩:=h
 obtain⟨⟨g1,g2,g3⟩,h4,h5⟩:=h2
 have hla:=hL.la
 have hlb:=hL.lb
 obtain⟨t,ht,e1,e2⟩:=set_of g1 g2
 have lt:=len_pq ht oM
 have ls:=len_pq hs oM
 have rt:A7a d a b t:=by unfold A7a;rw [e1,e2];exact h4
 have k1:=hmin t ht rt
 have hTs:Two a.length b.length (cntN s) (pL s a.length (a.length+b.length),qL s a.length (a.length+b.length)):=⟨sub_pL _ _ _,sub_qL _ _ _,ls⟩
 have hm:many≤cntN s:=Nat.le_of_not_lt fun hlt=>h1 _ hlt _ hTs hr
 have ct:cntN t=many:=by rw [←lt,e1,e2];exact g3
 have k0:=keyLt_of k1
 have cs:cntN s=many:=oM
 have k2:¬A4w (cntN s) (pL s a.length (a.length+b.length)) (qL s a.length (a.length+b.length)) (cntN t) (pL t a.length (a.length+b.length)) (qL t a.length (a.length+b.length)):=fun k=>by
  have:=h5 (pL s a.length (a.length+b.length),qL s a.length (a.length+b.length)) (by rw [←cs];exact hTs) hr
  rw [e1,e2]at k
  unfold A4w at k
  rcases k with k|⟨_,k⟩
  ·omega
  ·exact this k
 have:cntN s=cntN t∧pL s a.length (a.length+b.length)=pL t a.length (a.length+b.length)∧qL s a.length (a.length+b.length)=qL t a.length (a.length+b.length):=Classical.byContradiction fun e=>by
  rcases keyLt_total e with k|k
  ·exact k2 k
  ·exact k1 k
 rw [this.2.1,this.2.2,e1,e2]
theorem two_all{d:List Int}{a b:List MA}(h:a.length+b.length≤8):∃u k,k≤a.length+b.length∧Two a.length b.length k u∧RightP d a b u:=by
 have h1:=all_right (d:=d) (a:=a) (b:=b) h
 refine⟨(pL (2 ^ (a.length+b.length)-1) a.length (a.length+b.length),qL (2 ^ (a.length+b.length)-1) a.length (a.length+b.length)),_,?_,⟨sub_pL _ _ _,sub_qL _ _ _,Y⟩,h1⟩
 have hlt:2 ^ (a.length+b.length)-1<2 ^ (a.length+b.length):=by have:=Nat.two_pow_pos (a.length+b.length);omega
 rw [len_pq hlt h]
 unfold cntN
 obtain⟨k,hk⟩:∃k,8=a.length+b.length+k:=⟨8-(a.length+b.length),oM⟩
 rw [hk,show List.range (a.length+b.length+k)=List.range (a.length+b.length)++(List.range k).map (fun x=>a.length+b.length+x)from List.range_add,List.countP_append]
 have:List.countP (hasN (2 ^ (a.length+b.length)-1)) (List.map (fun x=>a.length+b.length+x) (List.range k))=0:=by
  rw [List.countP_eq_zero]
  intro x hx
  obtain⟨y,_,rfl⟩:=List.mem_map.1 hx
  rw [hasN_bit,Nat.testBit_lt_two_pow (Nat.lt_of_lt_of_le hlt (Nat.pow_le_pow_right dM oM))]
  decide
 rw [this,Nat.add_zero]
 exact Nat.le_trans List.countP_le_length sM
end Go.Pal.To
end
section
namespace Go.Pal.To
def B3r(l:List Nat):Nat:=match l.getLast? with
 | some x=>x+1
 | none=>0
def more(n:Nat)(l:List Nat):List (List Nat):=(List.range' (B3r l) (n-B3r l)).map fun x=>l++[x]
def level(n:Nat):Nat→List (List Nat)
 | 0=>[[]]
 | k+1=>(level n k).flatMap (more n)
def extC(n k i:Nat)(l:List Nat):List (List Nat):=(List.range' (B3r l) (n-k+i+1-B3r l)).map fun y=>l++[y]
def chN(n k:Nat):Nat→List (List Nat)
 | 0=>[[]]
 | i+1=>(chN n k i).flatMap (extC n k i)
def nxC(n k i x:Nat):List (List Nat):=((chN n k i).take x).flatMap (extC n k i)
theorem ch_tab:(List.range 4).all (fun n=>(List.range (n+1)).all fun k=>(List.range (k+1)).all fun i=>decide ((chN n k i).length≤256)&&(chN n k i).all (fun l=>l.length==i&&decide (B3r l≤n-k+i)&&l.all (fun x=>decide (x<n)))&&(i != k||chN n k i==level n k))=true:=by decide +kernel
structure ChOk(n k i:Nat):Prop where
 len:(chN n k i).length≤256
 size:∀l∈chN n k i,l.length=i
 low:∀l∈chN n k i,B3r l≤n-k+i
 lt:∀l∈chN n k i,∀x∈l,x<n
theorem ch_ok{n k i:Nat}(hn:n≤3)(hk:k≤n)(hi:i≤k):ChOk n k i:=by
 have h:=List.all_eq_true.1 (List.all_eq_true.1 (List.all_eq_true.1 ch_tab n (List.mem_range.2 oM)) k (List.mem_range.2 oM)) i (List.mem_range.2 oM)
 simp only [Bool.and_eq_true,decide_eq_true_eq]at h
 obtain⟨⟨h1,h2⟩,_⟩:=h
 have h3:=fun l hl=>(by have:=List.all_eq_true.1 h2 l hl;simp only [Bool.and_eq_true,decide_eq_true_eq,beq_iff_eq]at this;exact this:(l.length=i∧B3r l≤n-k+i)∧l.all (fun x=>decide (x<n))=true)
 exact⟨h1,fun l hl=>(h3 l hl).1.1,fun l hl=>(h3 l hl).1.2,fun l hl x hx=>by simpa using List.all_eq_true.1 (h3 l hl).2 x hx⟩
theorem ch_end{n k:Nat}(hn:n≤3)(hk:k≤n):chN n k k=level n k:=by
 have h:=List.all_eq_true.1 (List.all_eq_true.1 (List.all_eq_true.1 ch_tab n (List.mem_range.2 oM)) k (List.mem_range.2 oM)) k (List.mem_range.2 oM)
 simp only [Bool.and_eq_true]at h
 have:=h.2
 simpa using this
theorem nxC_succ{n k i x:Nat}(h:x<(chN n k i).length):nxC n k i (x+1)=nxC n k i x++extC n k i (chN n k i)[x]:=by
 unfold nxC
 rw [List.take_succ_eq_append_getElem h,List.flatMap_append]
 simp
theorem nxC_end{n k i:Nat}:nxC n k i (chN n k i).length=chN n k (i+1):=by
 unfold nxC
 rw [List.take_length];rfl
theorem nxC_le{n k i x:Nat}:(nxC n k i x).length≤(chN n k (i+1)).length:=by
 rw [←nxC_end]
 unfold nxC
 rw [List.take_length]
 conv=>rhs;rw [←List.take_append_drop x (chN n k i),List.flatMap_append,List.length_append]
 exact Nat.le_add_right _ _
theorem low_last{l:List Nat}(h:0<l.length):B3r l=l[l.length-1]+1:=by
 unfold B3r
 rw [List.getLast?_eq_getElem?,List.getElem?_eq_getElem (show l.length-1<l.length by omega)]
def B3s(l:List Nat)(x:Nat):List (List Nat):=(List.range' (B3r l) (x-B3r l)).map fun x=>l++[x]
theorem partL_succ{l:List Nat}{x:Nat}(h:B3r l≤x):B3s l (x+1)=B3s l x++[l++[x]]:=by
 unfold B3s
 rw [show x+1-B3r l=x-B3r l+1 by omega,List.range'_1_concat,List.map_append]
 simp
 omega
theorem low_snoc(l:List Nat)(y:Nat):B3r (l++[y])=y+1:=by
 unfold B3r
 rw [List.getLast?_append]
 simp
theorem low_le{l:List Nat}{x:Nat}(h:(l++[x]).Pairwise (· < ·)):B3r l≤x:=by
 rcases List.eq_nil_or_concat l with rfl|⟨m,y,rfl⟩
 ·exact Nat.zero_le _
 ·rw [List.concat_eq_append]at h⊢
  rw [List.pairwise_append]at h
  have:=h.2.2 y sM x sM
  rw [low_snoc]
  omega
theorem lt_low{l:List Nat}(h:l.Pairwise (· < ·)){a:Nat}(ha:a∈l):a<B3r l:=by
 rcases List.eq_nil_or_concat l with rfl|⟨m,y,rfl⟩
 ·cases ha
 ·rw [List.concat_eq_append]at h ha⊢
  rw [low_snoc]
  rw [List.pairwise_append]at h
  rcases List.mem_append.1 ha with ha|ha
  ·have:=h.2.2 a ha y sM
   omega
  ·rw [List.mem_singleton.1 ha];omega
theorem mem_level{n:Nat}:∀{k:Nat} {l:List Nat},l∈level n k↔l.length=k∧l.Pairwise (· < ·)∧∀x∈l,x<n
 | 0,l=>by
  simp only [level,List.mem_singleton]
  constructor
  ·rintro rfl;simp
  ·rintro⟨h,_⟩;exact List.length_eq_zero_iff.1 h
 | k+1,l=>by
  simp only [level,List.mem_flatMap]
  constructor
  ·rintro⟨m,hm,hl⟩
   obtain⟨h1,h2,h3⟩:=mem_level.1 hm
   unfold more at hl
   obtain⟨x,hx,rfl⟩:=List.mem_map.1 hl
   rw [List.mem_range'_1]at hx
   refine⟨by simp [h1],?_,fun y hy=>?_⟩
   ·rw [List.pairwise_append]
    refine⟨h2,by simp,fun a ha b hb=>?_⟩
    rw [List.mem_singleton]at hb
    subst hb
    have:=lt_low h2 ha
    omega
   ·rcases List.mem_append.1 hy with hy|hy
    ·exact h3 y hy
    ·rw [List.mem_singleton.1 hy];omega
  ·rintro⟨h1,h2,h3⟩
   rcases List.eq_nil_or_concat l with rfl|⟨l,x,rfl⟩
   ·cases h1
   ·rw [List.concat_eq_append]at h1 h2 h3⊢
    refine⟨l,mem_level.2 ⟨by simpa using h1,(List.pairwise_append.1 h2).1,fun y hy=>h3 y (by simp [hy])⟩,?_⟩
    unfold more
    refine List.mem_map.2 ⟨x,?_,Y⟩
    rw [List.mem_range'_1]
    have:=low_le h2
    have:=h3 x sM
    omega
theorem sub_level{n k:Nat}{l:List Int}:(Sub n l∧l.length=k)↔∃m∈level n k,l=m.map fun x:Nat=>(x:Int):=by
 constructor
 ·rintro⟨⟨h1,h2⟩,h3⟩
  have e:l=(l.map Int.toNat).map fun x:Nat=>(x:Int):=by
   rw [List.map_map]
   conv=>lhs;rw [←List.map_id l]
   refine List.map_congr_left fun x hx=>?_
   have:=h2 x hx
   simp only [id_eq,Function.comp_apply];omega
  refine⟨l.map Int.toNat,mem_level.2 ⟨by simp [h3],?_,fun x hx=>?_⟩,e⟩
  ·rw [List.pairwise_map]
   refine List.Pairwise.imp_of_mem (fun {a b} ha hb h=>?_) h1
   have:=h2 a ha
   have:=h2 b hb
   omega
  ·obtain⟨y,hy,rfl⟩:=List.mem_map.1 hx
   have:=h2 y hy
   omega
 ·rintro⟨m,hm,rfl⟩
  obtain⟨h1,h2,h3⟩:=mem_level.1 hm
  refine⟨⟨?_,fun x hx=>?_⟩,by simp [h1]⟩
  ·rw [List.pairwise_map]
   exact h2.imp fun h=>by omega
  ·obtain⟨y,hy,rfl⟩:=List.mem_map.1 hx
   have:=h3 y hy
   omega
end Go.Pal.To
end
section
namespace Go.Proofs.YtclejblcnfaeaaaGreat
open Go Go.Pal Go.Pal.To Go.Conc View
open Go.Proofs.Tryz
set_option maxHeartbeats 4000000
set_option maxRecDepth 20000
def RowsOf(v:View)(rows:List Value)(ls:List (List Nat)):Prop:=rows.length=ls.length∧∀(i:Nat) (h:i<ls.length),∃ai ci,rows[i]?=some (.slice ai ls[i].length ci)∧RowAt v ai (ls[i].map natV)
theorem RowsOf.le{u v:View}{rows:List Value}{ls:List (List Nat)}(h:RowsOf u rows ls)(hl:u.Le v):RowsOf v rows ls:=⟨h.1,fun i hi=>by
 obtain⟨ai,ci,h1,h2⟩:=h.2 i hi
 exact⟨ai,ci,h1,RowAt.le h2 hl⟩⟩
theorem RowsOf.snoc{v:View}{rows:List Value}{ls:List (List Nat)}{l:List Nat}{a:Option Addr}{c m:Nat}(h:RowsOf v rows ls)(hm:m=l.length)(hr:RowAt v a (l.map natV)):RowsOf v (rows++[.slice a m c]) (ls++[l]):=by
 subst hm
 refine⟨by simp [h.1],fun i hi=>?_⟩
 by_cases e:i<ls.length
 ·obtain⟨ai,ci,h1,h2⟩:=h.2 i e
  have e1:(ls++[l])[i]=ls[i]:=by rw [List.getElem_append_left e]
  rw [e1]
  exact⟨ai,ci,by rw [List.getElem?_append_left (by rw [h.1];exact e)];exact h1,h2⟩
 ·have hi':i=ls.length:=by simp at hi;omega
  subst hi'
  have e1:(ls++[l])[ls.length]=l:=by simp
  rw [e1]
  exact⟨a,c,by rw [List.getElem?_append_right (by rw [h.1];exact Nat.le_refl _),h.1];simp,hr⟩
def OwnLL(β:A0f)(r:Value)(ls:List (List Nat)):Prop:=∃a cap segO segR rows,r = .slice a ls.length cap∧β=segO++segR∧OwnS 22 1 segO a ls.length cap rows∧∀v,Bok segR v→RowsOf (v.union (A0c segR)) rows ls
structure TS where
 x:Nat
 a:Option Addr
 cap:Nat
 seg:A0f
 rows:List Value
 segR:A0f
section
variable{mn:Who}{v:View}
theorem chosen_x{n k:Nat}(hn:n≤3)(hk:k≤n):CallsB prog mn 45 #[.int .i64 n,.int .i64 k] (RetB fun r β'=>OwnLL β' r (level n k)) [] v:=by
 refine A0d tab func45 Y nB (args:=[_,_]) ?_
 repeat (first|refine st ?_|refine qb fun bx=>?_)
 refine Q_op fun ho=>A3i tab ho Y Y Y Y Y Y Y Y Y (fun b3 c3 hL=>?_)
 clear ho
 repeat (first|refine st ?_|refine qb fun bx=>?_)
 refine A1k (α:=TS) (fun z=>⟨[],[(6,.int .i64 z.x),(5,.slice z.a (chN n k z.x).length z.cap),(0,.int .i64 n),(1,.int .i64 k)],z.seg⟩)
  (fun z u=>u=v.union (A0c z.segR)∧Bok z.segR v∧z.x≤k∧OwnS 22 1 z.seg z.a (chN n k z.x).length z.cap z.rows∧∀v,Bok z.segR v→RowsOf (v.union (A0c z.segR)) z.rows (chN n k z.x)) (fun z=>k-z.x)
  ⟨0,some ⟨b3,0,none⟩,1,[(b3,c3,22)],[.slice none 0 0],[]⟩ ⟨Y,rg,cntL⟩ (by rw [A1t];exact Le.refl _) ⟨Y,A4h v,Nat.zero_le _,hL,fun v _=>⟨Y,fun i hi=>?_⟩⟩ ?_
 ·have:i=0:=by simp [chN]at hi;omega
  subst this
  exact⟨none,0,Y,.inl Y⟩
 rintro⟨i,a,cap,seg,rows,segR⟩ u ⟨rfl,hbR,hi,hO,hR⟩
 dsimp only at hbR hi hO hR⊢
 have hch:=ch_ok hn hk hi
 have hlen:=hch.len
 repeat (first|refine st ?_|refine qb fun bx=>?_)
 refine A0y Y (fun h=>?_) (fun h=>?_)
 ·have hik:i<k:=by have:=of_decide_eq_true h;omega
  clear h
  have hlen2:=(ch_ok hn hk (i:=i+1) hik).len
  repeat (first|refine st ?_|refine qb fun bx=>?_)
  refine A1k (α:=TS) (fun z=>⟨[],[(8,.int .i64 z.x),(7,.slice z.a (nxC n k i z.x).length z.cap),(6,.int .i64 i),(5,.slice a (chN n k i).length cap),(0,.int .i64 n),(1,.int .i64 k)],z.seg++seg⟩)
   (fun z u=>u=v.union (A0c z.segR)∧Bok z.segR v∧z.x≤(chN n k i).length∧OwnS 22 1 z.seg z.a (nxC n k i z.x).length z.cap z.rows∧(∀v,Bok z.segR v→RowsOf (v.union (A0c z.segR)) z.rows (nxC n k i z.x))∧∀v,Bok z.segR v→RowsOf (v.union (A0c z.segR)) rows (chN n k i)) (fun z=>(chN n k i).length-z.x)
   ⟨0,none,0,[],[],segR⟩ ⟨Y,rg,cntL⟩ (Le.refl _) ⟨Y,hbR,Nat.zero_le _,.nil,fun v _=>⟨Y,fun i hi=>absurd hi (Nat.not_lt_zero _)⟩,hR⟩ ?_
  clear hR hbR segR
  rintro⟨x,a',cap',seg',rows',segR⟩ u ⟨rfl,hbR,hx,hO',hR',hR⟩
  dsimp only at hbR hx hO' hR' hR⊢
  repeat (first|refine st ?_|refine qb fun bx=>?_)
  refine A0y Y (fun h=>?_) (fun h=>?_)
  ·have hlt:x<(chN n k i).length:=by have:=of_decide_eq_true h;omega
   clear h
   have hsucc:=nxC_succ hlt
   have hnx:=nxC_le (n:=n) (k:=k) (i:=i) (x:=x)
   have hnx2:=nxC_le (n:=n) (k:=k) (i:=i) (x:=x+1)
   have hget:∀v,Bok segR v→∃ai ci,rows[x]?=some (.slice ai (chN n k i)[x].length ci)∧RowAt (v.union (A0c segR)) ai ((chN n k i)[x].map natV):=fun v hb=>(hR v hb).2 x hlt
   have hmem:=hch.size _ (List.getElem_mem hlt)
   have hlow:=hch.low _ (List.getElem_mem hlt)
   generalize (chN n k i)[x]=l at hsucc hget hmem hlow
   have hl16:l.length≤16:=oM
   rw [show extC n k i l=B3s l (n-k+i+1)from rfl]at hsucc
   obtain⟨b,c,rfl,rfl,hcap,hcs,hcc⟩:=own_box hO oM
   repeat (first|refine sr ?_|refine qb fun bx=>?_)
   refine A4q ?_
   repeat (first|refine sr ?_|refine qb fun bx=>?_)
   refine A5l (fun σ w=>w=v.union (A0c segR)∧σ=⟨[],[(9,.int .i64 (B3r l)),(8,.int .i64 x),(7,.slice a' (nxC n k i x).length cap'),(6,.int .i64 i),(5,.slice (some ⟨b,0,none⟩) (chN n k i).length cap),(0,.int .i64 n),(1,.int .i64 k)],seg'++[(b,c,22)]⟩) ?_ ?_
   rotate_left
   ·obtain⟨ai,ci,hri,hrowi⟩:=hget v hbR
    repeat (first|refine st ?_|refine qb fun bx=>?_)
    refine A0y Y (fun h=>?_) (fun h=>?_)
    ·have hi0:0<l.length:=by have:=of_decide_eq_true h;omega
     clear h
     have hlast:l.length-1<l.length:=oM
     obtain⟨b',off,p,c',e,f,rfl,hv,hc⟩:=hrowi.get hlast
     repeat (first|refine st ?_|refine qb fun bx=>?_)
     refine A4j tab x Y Y Y Y Y Y Y hlt ?_
     refine Q_loadB tab Y Y Y ib (A0j tab Y Y Y (by rw [Nat.mul_one,Nat.zero_add];exact hcc _ _ hri)) ?_
     repeat (first|refine st ?_|refine qb fun bx=>?_)
     refine A4j tab (l.length-1) Y Y Y Y oM Y Y hlast ?_
     refine A1w tab Y Y Y hv (A0j tab Y Y Y (by rw [Nat.mul_one];exact hc _ hlast)) ?_
     have hb8:l[l.length-1]<2^30:=by have:=low_last hi0;omega
     repeat (first|refine st ?_|refine qb fun bx=>?_)
     exact A0a ⟨_,_,⟨Y,Y⟩,⟨Y,(by rw [low_last hi0];exact rg),cntL⟩,Le.refl _⟩
    ·have h0:l=[]:=List.length_eq_zero_iff.1 (by have:=of_decide_eq_false h;omega)
     clear h
     subst h0
     repeat (first|refine st ?_|refine qb fun bx=>?_)
     exact A0a ⟨_,_,⟨Y,Y⟩,⟨Y,rg,cntL⟩,Le.refl _⟩
   rintro σ w ⟨rfl,rfl⟩
   repeat (first|refine st ?_|refine qb fun bx=>?_)
   refine A1k (α:=TS) (fun z=>⟨[],[(10,.int .i64 z.x),(8,.int .i64 x),(7,.slice z.a (nxC n k i x++B3s l z.x).length z.cap),(6,.int .i64 i),(5,.slice (some ⟨b,0,none⟩) (chN n k i).length cap),(0,.int .i64 n),(1,.int .i64 k)],z.seg++[(b,c,22)]⟩)
    (fun z u=>u=v.union (A0c z.segR)∧Bok z.segR v∧(B3r l≤z.x∧z.x≤n-k+i+1)∧OwnS 22 1 z.seg z.a (nxC n k i x++B3s l z.x).length z.cap z.rows∧(∀v,Bok z.segR v→RowsOf (v.union (A0c z.segR)) z.rows (nxC n k i x++B3s l z.x))∧(∀v,Bok z.segR v→RowsOf (v.union (A0c z.segR)) rows (chN n k i))∧
     ∀v,Bok z.segR v→∃ai ci,rows[x]?=some (.slice ai l.length ci)∧RowAt (v.union (A0c z.segR)) ai (l.map natV)) (fun z=>n-k+i+1-z.x)
    ⟨B3r l,a',cap',seg',rows',segR⟩ ⟨Y,?_,cntL⟩ (Le.refl _) ⟨Y,hbR,⟨Nat.le_refl _,by dsimp only;omega⟩,?_,?_,hR,hget⟩ ?_
   ·show SubR [_,_,(7,.slice a' (nxC n k i x++B3s l (B3r l)).length cap'),_,_,_,_] _
    rw [show B3s l (B3r l)=[]from by simp [B3s],List.append_nil]
    exact rg
   ·show OwnS 22 1 seg' a' (nxC n k i x++B3s l (B3r l)).length cap' rows'
    rw [show B3s l (B3r l)=[]from by simp [B3s],List.append_nil];exact hO'
   ·show ∀v,Bok segR v→RowsOf (v.union (A0c segR)) rows' (nxC n k i x++B3s l (B3r l))
    rw [show B3s l (B3r l)=[]from by simp [B3s],List.append_nil];exact hR'
   clear hR hR' hbR hget hO' segR rows' seg' a' cap'
   rintro⟨y,a',cap',seg',rows',segR⟩ u ⟨rfl,hbR,⟨hy1,hy⟩,hO',hR',hRo,hget⟩
   dsimp only at hbR hy1 hy hO' hR' hRo hget⊢
   have hpl:(nxC n k i x++B3s l y).length≤256:=by
    refine Nat.le_trans ?_ (Nat.le_trans hnx2 hlen2)
    rw [hsucc,List.length_append,List.length_append]
    simp [B3s];omega
   repeat (first|refine st ?_|refine qb fun bx=>?_)
   refine A0y Y (fun h=>?_) (fun h=>?_)
   ·have hyn:y<n-k+i+1:=by have:=of_decide_eq_true h;omega
    clear h
    obtain⟨ai,ci,hri,hrowi⟩:=hget v hbR
    repeat (first|refine st ?_|refine qb fun bx=>?_)
    refine A4j tab x Y Y Y Y Y Y Y hlt ?_
    refine Q_loadB tab Y Y Y ib (A0j tab Y Y Y (by rw [Nat.mul_one,Nat.zero_add];exact hcc _ _ hri)) ?_
    refine Q_op fun ho=>A0k [] _ ho bod51 Y Y Y Y Y A6z (ownInts_x (RowAt.le hrowi (A0e _ _)) oM) (fun x β' hR=>?_)
    clear ho
    obtain⟨ac,cc,rfl,hSc⟩:=hR
    repeat (first|refine st ?_|refine qb fun bx=>?_)
    refine Q_op fun ho=>A3i tab ho Y Y Y Y Y Y Y Y Y (fun b4 c4 hL4=>?_)
    clear ho
    refine Q_op fun ho=>A2r tab (xs:=[natV y]) β' [(b4,c4,3)] (seg'++[(b,c,22)]) ho Y Y Y Y Y Y Y Y Y Y cntA hSc
     (fun hb=>RowAt.own hb cntL hL4) Y Y (by show(2*(l.length+1)+768)*8≤2^48;omega) oM (fun seg2 a2 cap2 hS2=>?_)
    clear ho
    refine Q_op fun ho=>A3i tab ho Y Y Y Y Y Y Y Y Y (fun b5 c5 hL5=>?_)
    clear ho
    refine Q_op fun ho=>A2r tab (xs:=[.slice a2 (l.length+1) cap2]) seg' [(b5,c5,22)] (seg2++[(b,c,22)]) ho Y Y Y Y Y Y Y Y Y Y cntA hO'
     (fun hb=>RowAt.own hb cntL hL5) Y Y (by show(2*((nxC n k i x++B3s l y).length+1)+768)*24≤2^48;omega) oM (fun seg3 a3 cap3 hS3=>?_)
    clear ho
    refine A8d (β1:=seg2) (β2:=seg3++[(b,c,22)]) cntA (fun hb2=>?_)
    have hbn:Bok (seg2++segR) v:=bok_append.2 ⟨hbR,hb2⟩
    have hun:=A0v hbn
    rw [←hun]
    have hpl2:(nxC n k i x++B3s l (y+1)).length=(nxC n k i x++B3s l y).length+1:=by rw [partL_succ hy1,←List.append_assoc,List.length_append];rfl
    repeat (first|refine st ?_|refine qb fun bx=>?_)
    refine A0a ⟨⟨y+1,a3,cap3,seg3,rows'++[.slice a2 (l.length+1) cap2],seg2++segR⟩,_,(show n-k+i+1-(y+1)<n-k+i+1-y by omega),⟨Y,?_,cntL⟩,Le.refl _,Y,hbn,⟨by dsimp only;omega,hyn⟩,?_,?_,?_,?_⟩
    ·show SubR [_,_,(7,.slice a3 (nxC n k i x++B3s l (y+1)).length cap3),_,_,_,_] _
     rw [hpl2]
     exact rg
    ·show OwnS 22 1 seg3 a3 (nxC n k i x++B3s l (y+1)).length cap3 _
     rw [hpl2]
     exact hS3
    ·intro v' hb'
     obtain⟨k1,k2⟩:=bok_append.1 hb'
     rw [partL_succ hy1,←List.append_assoc]
     refine RowsOf.snoc ((hR' v' k1).le ?_) sM ?_
     ·rw [A0v hb'];exact A0e _ _
     ·rw [A0v hb',List.map_append]
      exact RowAt.own k2 (fun _=>Nat.le_refl _) hS2
    ·intro v' hb'
     obtain⟨k1,k2⟩:=bok_append.1 hb'
     exact(hRo v' k1).le (by rw [A0v hb'];exact A0e _ _)
    ·intro v' hb'
     obtain⟨k1,k2⟩:=bok_append.1 hb'
     obtain⟨ai,ci,h1,h2⟩:=hget v' k1
     exact⟨ai,ci,h1,RowAt.le h2 (by rw [A0v hb'];exact A0e _ _)⟩
   ·have hyn:y=n-k+i+1:=by have:=of_decide_eq_false h;omega
    subst hyn
    clear h
    rw [←hsucc]at hO' hR'⊢
    repeat (first|refine st ?_|refine qb fun bx=>?_)
    exact A0a ⟨⟨x+1,a',cap',seg',rows',segR⟩,_,by dsimp only;omega,⟨Y,rg,cntL⟩,Le.refl _,Y,hbR,hlt,hO',hR',hRo⟩
  ·have hlt:x=(chN n k i).length:=by have:=of_decide_eq_false h;omega
   clear h
   subst hlt
   rw [nxC_end]at hO' hR'⊢
   repeat (first|refine st ?_|refine qb fun bx=>?_)
   exact A0a ⟨⟨i+1,a',cap',seg',rows',segR⟩,_,by dsimp only;omega,⟨Y,rg,cntL⟩,Le.refl _,Y,hbR,hik,hO',hR'⟩
 ·have hik:i=k:=by have:=of_decide_eq_false h;omega
  subst hik
  clear h
  rw [ch_end hn hk]at hO hR⊢
  repeat (first|refine st ?_|refine qb fun bx=>?_)
  refine A0g tab (β':=seg++segR) (by exact .tmp rfl .nil) (Back.retired hbR (Back.here cntL)) ?_
  exact⟨a,cap,seg,segR,rows,Y,Y,hO,hR⟩
end
theorem ltL_drop{l m:List Int}{i:Nat}(h:l.take i=m.take i):ltL l m=ltL (l.drop i) (m.drop i):=by
 conv=>lhs;rw [←List.take_append_drop i l,←List.take_append_drop i m,h,ltL_pre]
section
variable{mn:Who}{v:View}
theorem earlier_x{a a':Option Addr}{cap cap':Nat}{l m:List Int}(hl:RowAt v a (l.map intV))(hm:RowAt v a' (m.map intV))(h1:l.length<2^30)(h2:m.length<2^30) :
  Ret1 prog mn 47 [.slice a l.length cap,.slice a' m.length cap'] (.bool (ltL l m)) v:=by
 refine A0d tab func47 Y nB (args:=[_,_]) ?_
 repeat (first|refine st ?_|refine qb fun bx=>?_)
 refine A1k (α:=Nat) (fun i=>⟨[],[(5,.int .i64 i),(0,.slice a l.length cap),(1,.slice a' m.length cap')],[]⟩)
  (fun i u=>u=v∧i≤l.length∧i≤m.length∧l.take i=m.take i) (fun i=>m.length-i) 0 ⟨Y,rg,cntL⟩ (Le.refl _) ⟨Y,Nat.zero_le _,Nat.zero_le _,Y⟩ ?_
 rintro i u ⟨rfl,hi,hi',hp⟩
 have hd:=ltL_drop hp
 repeat (first|refine st ?_|refine qb fun bx=>?_)
 refine A0y Y (fun h=>?_) (fun h=>?_)
 ·have hlt':i<m.length:=by have:=of_decide_eq_true h;omega
  clear h
  repeat (first|refine st ?_|refine qb fun bx=>?_)
  refine A0y Y (fun h=>?_) (fun h=>?_)
  ·have hin:i=l.length:=by have:=eq_of_beq h;omega
   clear h
   repeat (first|refine st ?_|refine qb fun bx=>?_)
   refine A0g tab [] (by exact .tmp rfl .nil) (Back.here cntL) ?_
   have:ltL l m=true:=by
    rw [hd,List.drop_eq_getElem_cons hlt',show l.drop i=[]from by rw [hin,List.drop_length]]
    rfl
   rw [this];exact⟨Y,Y⟩
  ·have hlt:i<l.length:=by have:=beq_eq_false_iff_ne.1 h;omega
   clear h
   obtain⟨b1,o1,p1,k1,e1,f1,rfl,hv1,hc1⟩:=hl.get hlt
   obtain⟨b2,o2,p2,k2,e2,f2,rfl,hv2,hc2⟩:=hm.get hlt'
   rw [List.drop_eq_getElem_cons hlt,List.drop_eq_getElem_cons hlt']at hd
   repeat (first|refine st ?_|refine qb fun bx=>?_)
   refine A1l tab i Y Y Y Y Y Y Y hlt ?_
   refine A4s tab Y Y Y hv1 (A0j tab Y Y Y (by rw [Nat.mul_one];exact hc1 i hlt)) ?_
   repeat (first|refine st ?_|refine qb fun bx=>?_)
   refine A1l tab i Y Y Y Y Y Y Y hlt' ?_
   refine A4s tab Y Y Y hv2 (A0j tab Y Y Y (by rw [Nat.mul_one];exact hc2 i hlt')) ?_
   repeat (first|refine st ?_|refine qb fun bx=>?_)
   refine A0y Y (fun h=>?_) (fun h=>?_)
   ·have hne:¬l[i]=m[i]:=bne_iff_ne.1 h
    clear h
    repeat (first|refine st ?_|refine qb fun bx=>?_)
    refine A1l tab i Y Y Y Y Y Y Y hlt ?_
    refine A4s tab Y Y Y hv1 (A0j tab Y Y Y (by rw [Nat.mul_one];exact hc1 i hlt)) ?_
    repeat (first|refine st ?_|refine qb fun bx=>?_)
    refine A1l tab i Y Y Y Y Y Y Y hlt' ?_
    refine A4s tab Y Y Y hv2 (A0j tab Y Y Y (by rw [Nat.mul_one];exact hc2 i hlt')) ?_
    repeat (first|refine st ?_|refine qb fun bx=>?_)
    refine A0g tab [] (by exact .tmp rfl .nil) (Back.here cntL) ?_
    rw [hd]
    refine⟨?_,Y⟩
    unfold ltL
    rw [if_neg hne]
    rfl
   ·have he:l[i]=m[i]:=by simpa using h
    clear h
    repeat (first|refine st ?_|refine qb fun bx=>?_)
    refine A0a ⟨i+1,u,oM,⟨Y,rg,cntL⟩,Le.refl _,Y,hlt,hlt',?_⟩
    rw [List.take_succ_eq_append_getElem hlt,List.take_succ_eq_append_getElem hlt',hp,he]
 ·have hin:i=m.length:=by have:=of_decide_eq_false h;omega
  clear h
  repeat (first|refine st ?_|refine qb fun bx=>?_)
  refine A0g tab [] (by exact .tmp rfl .nil) (Back.here cntL) ?_
  have:ltL l m=false:=by
   rw [hd,show m.drop i=[]from by rw [hin,List.drop_length]]
   cases l.drop i<;>rfl
  rw [this];exact⟨Y,Y⟩
theorem inL_snoc{out:List Int}{x n:Int}:inL (out++[x]) n=(inL out n||(n==x)):=by
 simp [inL,List.any_append]
theorem left_x{aA aO:Option Addr}{cA cO:Nat}{a:List MA}{out:List Int}(ha:ActsAt v aA a)(hro:RowAt v aO (out.map intV))(hal:a.length<2^20)(hol:out.length<2^30) :
  CallsB prog mn 46 #[.slice aA a.length cA,.slice aO out.length cO] (RetB fun r β'=>∃a' cap,r = .slice a' (A2x a out).length cap∧OwnS 26 4 β' a' (A2x a out).length cap ((A2x a out).map MA.cells).flatten) [] v:=by
 refine A0d tab func46 Y nB (args:=[_,_]) ?_
 repeat (first|refine st ?_|refine qb fun bx=>?_)
 refine A1k (α:=WoS) (fun z=>⟨[],[(6,.int .i64 z.i),(0,.slice aA a.length cA),(5,.slice z.a (A2x (a.take z.i) out).length z.cap),(1,.slice aO out.length cO)],z.sg⟩)
  (fun z u=>u=v∧z.i≤a.length∧OwnS 26 4 z.sg z.a (A2x (a.take z.i) out).length z.cap ((A2x (a.take z.i) out).map MA.cells).flatten) (fun z=>a.length-z.i) ⟨0,[],none,0⟩ ⟨Y,rg,cntL⟩ (Le.refl _) ⟨Y,Nat.zero_le _,.nil⟩ ?_
 rintro⟨i,sg,a',cap⟩ u ⟨rfl,hi,hS⟩
 simp only at hi hS
 dsimp only
 repeat (first|refine st ?_|refine qb fun bx=>?_)
 refine A0y Y (fun h=>?_) (fun h=>?_)
 ·replace h:=fa h
  have hlt:i<a.length:=oM
  obtain⟨bb,off,p,c,e,f,rfl,hv,hc⟩:=ha.get hlt
  have hll:(A2x (a.take i) out).length≤i:=Nat.le_trans A5q (by rw [List.length_take];omega)
  have hsu:=leftN_succ (out:=out) hlt
  have hci:=hc i hlt
  generalize a[i]=x at hsu hci
  repeat (first|refine st ?_|refine qb fun bx=>?_)
  refine A1k (α:=Nat) (fun k=>⟨[],[(8,.int .i64 k),(7,.bool (inL (out.take k) (i:Int))),(6,.int .i64 i),(0,.slice (some ⟨bb,off,none⟩) a.length cA),(5,.slice a' (A2x (a.take i) out).length cap),(1,.slice aO out.length cO)],sg⟩)
   (fun k w=>w=u∧k≤out.length) (fun k=>out.length-k) 0 ⟨Y,rg,cntL⟩ (Le.refl _) ⟨Y,Nat.zero_le _⟩ ?_
  rintro k w ⟨rfl,hk⟩
  repeat (first|refine st ?_|refine qb fun bx=>?_)
  refine A0y Y (fun hlk=>?_) (fun hlk=>?_)
  ·simp only [decide_eq_true_eq]at hlk
   have hlk:k<out.length:=oM
   obtain⟨b2,o2,p2,k2,e2,f2,rfl,hv2,hc2⟩:=hro.get hlk
   replace hc2:=hc2 k hlk
   have hst:inL (out.take (k+1)) (i:Int)=(inL (out.take k) (i:Int)||((i:Int)==out[k])):=by rw [List.take_succ_eq_append_getElem hlk,inL_snoc]
   generalize out[k]=y at hc2 hst
   repeat (first|refine st ?_|refine qb fun bx=>?_)
   cases hg:inL (out.take k) (i:Int)with
   | true=>
    rw [hg,Bool.true_or]at hst
    repeat (first|refine st ?_|refine qb fun bx=>?_)
    refine A0a ⟨k+1,w,oM,⟨Y,?_,cntL⟩,Le.refl _,Y,hlk⟩
    rw [hst]
    exact rg
   | false=>
    rw [hg,Bool.false_or]at hst
    repeat (first|refine st ?_|refine qb fun bx=>?_)
    refine A4j tab k Y Y Y Y Y Y Y hlk ?_
    refine A1w tab Y Y Y hv2 (A0j tab Y Y Y (by rw [Nat.mul_one];exact hc2)) ?_
    repeat (first|refine st ?_|refine qb fun bx=>?_)
    refine A0a ⟨k+1,w,oM,⟨Y,?_,cntL⟩,Le.refl _,Y,hlk⟩
    rw [hst,show((i:Int)==y)=(y==(i:Int))from BEq.comm]
    exact rg
  ·obtain rfl:k=out.length:=by simp only [decide_eq_false_iff_not]at hlk;omega
   rw [List.take_length]
   cases h:inL out (i:Int)with
   | true=>
    rw [h,if_pos Y,List.append_nil]at hsu
    repeat (first|refine st ?_|refine qb fun bx=>?_)
    refine A0a ⟨⟨i+1,sg,a',cap⟩,w,by simp only;omega,⟨Y,?_,cntL⟩,Le.refl _,Y,hlt,?_⟩
    ·simp only
     rw [hsu]
     exact rg
    ·simp only
     rw [hsu];exact hS
   | false=>
    rw [h,if_neg dM]at hsu
    repeat (first|refine st ?_|refine qb fun bx=>?_)
    refine A4j tab i Y Y Y Y Y Y Y hlt ?_
    refine A1w tab Y Y Y hv (A1i tab Y Y Y hci) ?_
    refine Q_op fun ho'=>A3i tab ho' Y Y Y Y Y Y Y Y Y (fun b3 c3 hL=>?_)
    clear ho'
    refine Q_op fun ho'=>A2r tab (xs:=x.cells) sg [(b3,c3,26)] [] ho' Y Y Y Y Y Y Y Y Y Y (show ∀p,Pal.cnt p ((b3,c3,26)::sg)=Pal.cnt p (sg++([(b3,c3,26)]++[]))from cntA) hS
     (fun hb=>RowAt.own hb cntL hL) Y Y (by show(2*((A2x (a.take i) out).length+1)+768)*32≤2^48;omega) oM (fun sg' a'' cap' hS'=>?_)
    clear ho'
    repeat (first|refine st ?_|refine qb fun bx=>?_)
    refine A0a ⟨⟨i+1,sg',a'',cap'⟩,w,by simp only;omega,⟨Y,?_,cntL⟩,Le.refl _,Y,hlt,?_⟩
    ·simp only
     rw [hsu,List.length_append]
     exact rg
    ·simp only
     rw [hsu,List.length_append,List.map_append,List.flatten_append]
     simpa using hS'
 ·replace h:=fa h
  have hin:i=a.length:=oM
  subst hin
  rw [List.take_length]at hS⊢
  repeat (first|refine st ?_|refine qb fun bx=>?_)
  refine A0g tab sg (by exact .tmp rfl .nil) (Back.here cntL) ?_
  exact⟨a',cap,Y,hS⟩
end
end Go.Proofs.YtclejblcnfaeaaaGreat
end
