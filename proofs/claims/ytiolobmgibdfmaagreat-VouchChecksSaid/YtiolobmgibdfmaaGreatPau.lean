/- Part 21. -/
import Derived.Sort.AssemblyPlain
import Derived.Test.YtiolobmgibdfmaaGreatPat
set_option linter.all false
section
namespace Go.Pal
open Go Go.Conc View
section
variable{P:Program}{mn:Who}(T:Tab P){rd:Option Nat}{n:Nat}{Q:Exit→St→View→Prop}{ds:List Deferred}{ρ:Regs}{β:A0j}{v v0:View}{ops:Array Oper}{i:Nat}{todo:List Nat}{S:List Rec}{done:List Nat}{ms:List Nat}
theorem S_start0{id:Nat}(ms todo:List Nat)(hk:todo.length=ops.size)(hm:P.follows .mixedOrders=true)(hd:ops.all (fun o=>!A3g o.op)=true)(hv0:v0.Le v)(h:XS P mn n ops ms v0 Q todo [] [] ⟨ds,ρ,β⟩ v):XC P mn rd n (.region id ops true) Q ⟨ds,ρ,β⟩ v:=fun a hf hb=>
 A3u (A9q (Q:=fun e a u=>e = .normal∧Post n Q .normal a u) (ms:=ms) (v0:=v0) hm hd (by
  have hkk:(fun(a:Act) (u:View)=>(Exit.normal=Exit.normal∧Post n Q .normal a u))=(fun a u=>Post n Q .normal a u):=by funext a u;simp
  rw [hkk]
  have h':=h a hf hb hv0 (fun j o ho hj=>by
   simp only [mkL,Array.getD_eq_getD_getElem?,Array.getElem?_replicate]at hj
   rw [if_pos (Array.getElem?_eq_some_iff.1 ho).1]at hj
   cases hj)
  rw [hk]at h'
  exact h')) fun e a u ⟨he,hp⟩=>⟨u,Le.refl _,he ▸ hp⟩
theorem S_do0(hB:onlyB ops ms done i=true)(h:XOp P mn (some 4294967295) n ops i (fun _ _ _=>False) (fun σ' u=>v0.Le u∧KeepS ops i S σ'.β∧XS P mn n ops ms v0 Q todo S (i::done) σ' u) ⟨ds,ρ,β⟩ v):XS P mn n ops ms v0 Q (i::todo) S done ⟨ds,ρ,β⟩ v:=fun a hf hb hv hc=>by
 simp only [onlyB,Bool.and_eq_true]at hB
 obtain⟨⟨h1,h2⟩,h3⟩:=hB
 have hr:i∈Region.ready .any ops (mkL ops done):=by simpa using h1
 show AnyS P mn ops ms v0 (fun a u=>Post n Q .normal a u) (todo.length+1) (SV S) (mkL ops done) a (v.union (A0e β))
 refine⟨fun e=>(by rw [e]at hr;cases hr),fun j hj=>?_⟩
 have hji:j=i:=Nat.eq_of_beq_eq_true (List.all_eq_true.1 h2 j hj)
 subst hji
 obtain⟨o,ho,hw,hd,hs⟩:=h a hf hb
 unfold OpS
 simp only [ho,hw,if_true]
 have key:∀{a' w},KP n (fun σ' u=>v0.Le u∧KeepS ops j S σ'.β∧XS P mn n ops ms v0 Q todo S (j::done) σ' u) a' w→Keeps ops ms v0 (SV S) j (v.union (A0e β)) w∧AnyS P mn ops ms v0 (fun a u=>Post n Q .normal a u) todo.length (SV S) ((mkL ops done).setIfInBounds j true) a' w:=by
  rintro a' w ⟨σ',u,⟨hl,hk,hx⟩,hf',hb',hw'⟩
  refine⟨?_,?_⟩
  ·unfold Keeps
   rw [if_pos h3]
   refine⟨(hl.trans (A0b _ _)).trans hw',fun p hp hdp=>?_⟩
   obtain⟨b,c,t,he,hin⟩:=A8l hk p hp hdp
   rw [he]
   intro j' x e
   simp only [A0e]at e
   split at e
   ·rename_i hj';subst hj';cases e;exact hw' _ _ (A1f hb' hin)
   ·cases e
  ·exact A6c (K:=fun a u=>Post n Q .normal a u) (fun a u v hl hp=>post_le hl hp) _ _ _ _ _ _ hw' (hx _ hf' hb' hl (A7f hc hr B0g))
 refine A2c _ (fun nx w hK=>?_) (fun x w hE=>?_) hs
 ·cases nx with
  | value x=>exact key hK
  | skip=>exact key hK
  | defer d=>exact absurd hK.1 sM
  | enter f args=>exact CallsX.mono hK fun e w' hR=>⟨w',Le.refl _,by
    cases e with
    | ret x=>exact key hR
    | pan ch=>obtain⟨_,_,hq,_⟩:=hR;exact hq⟩
  | round l f tmps assign body=>exact absurd rfl hK.1
  | _=>exact hK.elim
 ·obtain⟨_,_,hq,_⟩:=hE;exact hq
theorem A_delete_{K:St→View→Prop}{d0:TypeId}{pos:String}{af:Array Edge}{gu:Option (Nat×Bool)}{κ:Type}[DecidableEq κ]{t:TypeId}{val:κ→Value}{mt el t2:TypeId}{x y:Operand}{k:κ}{r ck:Nat}{l:Ents κ}(hk:KeyT P t val)(ho:ops[i]?=some ⟨none,.call {callee:=.builtin .delete,args:=#[x,y],argTypes:=#[mt,t2] },d0,pos,af,gu⟩)(hw:A0x ops gu ρ=some true)(hx:ρ.val x=some (.map (some r)))(hy:ρ.val y=some (val k))
  (hm:T.und mt=some (.map t el))(hv:v r=some (true,mapO val l ck))
  (h:K ⟨ds,ρ,β⟩ (v.set r true (mapO val (match A3l k l 0 with|some (j,_)=>l.eraseIdx j|none=>l) ck))):XOp P mn rd n ops i Q K ⟨ds,ρ,β⟩ v:=by
 refine A2x ho (A0p hw) (.inr Z) Z fun ev hev hbk=>?_
 simp only [execOp,resolve,show(#[x,y]:Array Operand).map ev=#[ev x,ev y]from by simp,hev _ _ hx,hev _ _ hy,A0d,A0m,invoke,builtin]
 refine sx_delete T hm hk Z (A1p hv) ?_
 obtain⟨h1,h2⟩:=A4r (p:=true) (o:=mapO val (match A3l k l 0 with|some (j,_)=>l.eraseIdx j|none=>l) ck) hbk (A4e hbk hv)
 exact⟨β,_,⟨h1,h2 ▸ Le.refl _⟩,h⟩
end
end Go.Pal
end
section
namespace Go.Proofs.YtiolobmgibdfmaaGreat
open Go Go.Pal Go.Pal.Mu Go.Pal.Vo Go.Conc View
open Go.Proofs.Tryz
set_option maxHeartbeats 4000000
section
variable{v:View}
def conW(P F:Nat)(L:List Nat):Obj:=mapO wlV ((A4i P F (2 ^ P*2 ^ F)).filter fun e=>decide (e.2.2∉L)) (2 ^ P*2 ^ F)
theorem alone_of{A:Par}{base:Nat}{K:View→Goroutine→Prop}{j:Nat}{cs:List Frame}{c:Code}{ρ0 ρ1:Regs}{v0 v1:View}
  (h:XC prog ⟨false,false⟩ none f131.ntmps c (fun e σ u=>e = .normal∧σ.ds=wkDs A∧σ.β=[]∧RIn σ.ρ ρ1∧u=v1) ⟨wkDs A,ρ0,[]⟩ v0):Alone A base K j cs c ρ0 ρ1 v0 v1:=by
 intro q m b k ρ c' hc hbk hbr hbf hρ hgo
 subst hc
 have hsub:∀{l:Regs},RIn ρ l→SubR l ρ:=by
  intro l
  induction l with
  | nil=>intro _;trivial
  | cons p l ih=>intro h;exact⟨h.1,ih h.2⟩
 have h1:=XC_sub (σ:=⟨wkDs A,ρ,[]⟩) (v:=v0) h ⟨Z,hsub hρ,fun _=>Nat.le_refl _⟩ (Le.refl _)
 refine F_code (mn:=⟨false,false⟩) Z (c:=c') hbk (by rw [hbr];exact h1) fun e σ u hq=>?_
 obtain⟨rfl,h2,h3,h4,rfl⟩:=hq
 obtain⟨ds,ρ',β⟩:=σ
 simp only at h2 h3 h4
 subst h2 h3
 exact⟨Z,ρ',Z,hgo ρ' h4⟩
theorem A9r{a:Option Addr}{l:List Wl}(h:RowAt v a (wsC l)){i:Nat}(hi:i<l.length):∃b off p c e f,a=some ⟨b,off,none⟩∧v b=some (p,.cells c e f)∧∀j (hj:j<l.length),off+j*2+2≤c.size∧c.extract (off+j*2) (off+j*2+2)=(wC l[j]).toArray:=by
 obtain⟨b,off,p,c,e,f,h1,h2,h3⟩:=RowAt.recs (k:=2) (xs:=l.map wC) h (by intro x hx;obtain⟨w,_,rfl⟩:=List.mem_map.1 hx;rfl) dM (by simpa using hi)
 refine⟨b,off,p,c,e,f,h1,h2,fun j hj=>?_⟩
 have:=h3 j (by simpa using hj)
 simpa using this
theorem every_ok{P F:Nat}{w:Wl}(hP:P≤4)(hF:F≤3)(h:w∈A2a P F):w.1<256∧w.2<256:=by
 unfold A2a at h
 obtain⟨t,ht,h⟩:=List.mem_flatMap.1 h
 obtain⟨s,hs,rfl⟩:=List.mem_map.1 h
 rw [List.mem_range]at ht hs
 have h1:2 ^ P≤2^4:=Nat.pow_le_pow_right dM hP
 have h2:2 ^ F≤2^3:=Nat.pow_le_pow_right dM hF
 exact⟨by simp only;omega,by simp only;omega⟩
theorem B3p{κ:Type}[DecidableEq κ]{k:κ}:∀(l:Ents κ) (i:Nat),(l.map (·.1)).Nodup→(match A3l k l i with|some (j,_)=>l.eraseIdx (j-i)|none=>l)=l.filter fun e=>decide (e.1≠k)
 | [],i,_=>rfl
 | e::es,i,hn=>by
  rw [List.map_cons,List.nodup_cons]at hn
  unfold A3l
  by_cases h:k=e.1
  ·subst h
   rw [if_pos rfl]
   simp only [Nat.sub_self,List.eraseIdx_zero,List.tail_cons]
   rw [List.filter_cons_of_neg sM,List.filter_eq_self.2 fun e' he'=>by
    simp only [ne_eq,decide_eq_true_eq]
    intro h'
    exact hn.1 (by rw [←h'];exact List.mem_map_of_mem he')]
  ·rw [if_neg h,List.filter_cons_of_pos (by simp only [ne_eq,decide_eq_true_eq];exact fun h'=>h h'.symm),←B3p es (i+1) hn.2]
   cases hf:A3l k es (i+1)with
   | none=>rfl
   | some y=>
    obtain⟨j,x⟩:=y
    have h1:=(A8o hf).1
    simp only
    rw [show j-i=(j-(i+1))+1 by omega,List.eraseIdx_cons_succ]
theorem B3r{P F n:Nat}{e:Wl×Value×Nat}(h:e∈A4i P F n):e.2.1 = .bool true∧(A2a P F)[e.2.2]?=some e.1:=by
 unfold A4i at h
 obtain⟨p,hp,rfl⟩:=List.mem_map.1 h
 obtain⟨i,hi,he⟩:=List.getElem_of_mem hp
 rw [List.getElem_zipIdx,List.getElem_take]at he
 simp only [List.length_zipIdx,List.length_take]at hi
 refine⟨Z,?_⟩
 rw [←he]
 simp only
 rw [Nat.zero_add,List.getElem?_eq_getElem oM]
theorem entsW_keys(P F n:Nat):((A4i P F n).map (·.1)).Nodup:=by
 have:(A4i P F n).map (·.1)=(A2a P F).take n:=by
  unfold A4i
  rw [List.map_map]
  show List.map Prod.fst _=_
  rw [List.zipIdx_map_fst]
 rw [this]
 exact(A4z P F).sublist (List.take_sublist _ _)
theorem conW_del{P F t:Nat}{L:List Nat}(ht:t<(A2a P F).length) :
  (match A3l (A2a P F)[t] ((A4i P F (2 ^ P*2 ^ F)).filter fun e=>decide (e.2.2∉L)) 0 with|some (j,_)=>((A4i P F (2 ^ P*2 ^ F)).filter fun e=>decide (e.2.2∉L)).eraseIdx j|none=>(A4i P F (2 ^ P*2 ^ F)).filter fun e=>decide (e.2.2∉L))=(A4i P F (2 ^ P*2 ^ F)).filter fun e=>decide (e.2.2∉L++[t]):=by
 refine(B3p _ 0 (((entsW_keys P F _).sublist (List.filter_sublist.map _)))).trans ?_
 rw [List.filter_filter]
 refine List.filter_congr fun e he=>?_
 have h1:=(B3r he).2
 obtain⟨hn,h2⟩:=List.getElem?_eq_some_iff.1 h1
 have h3:e.1≠(A2a P F)[t]↔e.2.2≠t:=by
  rw [←h2]
  refine not_congr ⟨fun h=>?_,fun h=>by simp only [h]⟩
  rcases Nat.lt_trichotomy e.2.2 t with h'|h'|h'
  ·exact absurd h (List.pairwise_iff_getElem.1 (A4z P F) _ _ hn ht h')
  ·exact h'
  ·exact absurd h.symm (List.pairwise_iff_getElem.1 (A4z P F) _ _ ht hn h')
 rw [Bool.eq_iff_iff]
 simp only [Bool.and_eq_true,decide_eq_true_eq,h3,List.mem_append,List.mem_singleton]
 constructor
 ·rintro⟨a1,a2⟩ (a3|a3)
  ·exact a2 a3
  ·exact a1 a3
 ·intro h
  exact⟨fun h'=>h (.inr h'),fun h'=>h (.inl h')⟩
theorem deeds_x{A:Par}{P F:Nat}{ws:List Wd}{wa a:Option Addr}{wc cp bal bb bca:Nat}{p1 p2 p3:Bool}{e1 e2 e3:TypeId}{f1 f2 f3:Nat×Nat}(hP:P≤4)(hF:F≤3)
    (hN:A.N=2 ^ P*2 ^ F)(hkeep:∀t w,(A2a P F)[t]?=some w→A.keep t=can P ws w)(hcon:A.con=conW P F)
    (h1:v bal=some (p1,.cells #[.slice a A.N cp] e1 f1))(h2:v bb=some (p2,.cells (boV P F wa ws.length wc).cells e2 f2))(h3:v bca=some (p3,.cells #[.map (some A.Cm)] e3 f3))
    (hrow:RowAt v a (wsC (A2a P F)))(hws:WdsAt v wa ws)(hx:∀x∈ws,Fit x)(hwl:ws.length<2^30)(hcm:v A.Cm=none) :
    Deeds A v (.pointer (some ⟨bal,0,none⟩)) (.pointer (some ⟨bb,0,none⟩)) (.pointer (some ⟨bca,0,none⟩)) where
  r2:=fun base K j cf t ht=>alone_of (by
    unfold wkR
    refine A8v ?_
    repeat refine st ?_
    refine A2p tab Z Z Z h1 (x:=.slice a A.N cp) Z ?_
    repeat refine st ?_
    refine⟨Z,Z,Z,⟨?_,Z,Z,Z,Z,Z,Z,Z,trivial⟩,Z⟩
    show some (Value.bool (decide ((t:Int)≥(A.N:Int))))=some (Value.bool (decide (A.N≤t)))
    congr 3
    exact propext oM)
  r3:=fun base K j cf t ht=>alone_of (by
    unfold wkR
    have hlt:t<(A2a P F).length:=by rw [A3w,←hN];exact ht
    obtain⟨b,off,p,c,e,f,ha,hv,hc⟩:=A9r hrow hlt
    have hw:=hc t hlt
    obtain⟨g1,g2⟩:=every_ok hP hF (List.getElem_mem hlt)
    have hw0:c[off+t*2+0]?=some (u8 (A2a P F)[t].1):=by
      have:=congrArg (fun z:Array Value=>z[0]?) hw.2
      simp only [Array.getElem?_extract]at this
      rw [if_pos oM]at this
      rw [Nat.add_zero]
      simpa using this
    have hk:=hkeep t _ (List.getElem?_eq_getElem hlt)
    subst ha
    refine lexL A1w Z kR ?_
    repeat refine st ?_
    refine A9d tab Z Z Z h2 (A2d tab (k:=3) (x:=(boV P F wa ws.length wc).cells.toList) Z Z Z ⟨Nat.le_refl _,Z⟩) ?_
    repeat refine st ?_
    refine A9d tab Z Z Z h1 (x:=.slice (some ⟨b,off,none⟩) A.N cp) Z ?_
    repeat refine st ?_
    refine A2i tab t Z Z Z Z Z Z Z ht ?_
    refine A9d tab Z Z Z hv (A2d tab Z Z Z hw) ?_
    repeat refine st ?_
    refine A3r bod118 Z Z Z Z Z (honest_x (w:=(A2a P F)[t]) oM hws hx hwl g1 g2).1 ?_
    repeat refine st ?_
    refine A9d tab Z Z Z h1 (x:=.slice (some ⟨b,off,none⟩) A.N cp) Z ?_
    repeat refine st ?_
    refine A2i tab t Z Z Z Z Z Z Z ht ?_
    repeat refine st ?_
    refine A9d tab Z Z Z hv (A1b tab Z Z Z hw0) ?_
    repeat refine st ?_
    refine⟨Z,Z,Z,⟨?_,Z,Z,Z,Z,Z,Z,Z,trivial⟩,Z⟩
    rw [hk]
    show some (Value.bool _)=some (Value.bool _)
    congr 2
    unfold can
    rw [Bool.eq_iff_iff,beq_iff_eq,beq_iff_eq]
    omega)
  r5:=fun base K j cf t L ht=>alone_of (by
    unfold wkR
    have hlt:t<(A2a P F).length:=by rw [A3w,←hN];exact ht
    obtain⟨b,off,p,c,e,f,ha,hv,hc⟩:=A9r hrow hlt
    have hw:=hc t hlt
    have hle:v.Le (v.set A.Cm true (A.con L)):=fun b' x hx=>by
      by_cases e:b'=A.Cm
      · subst e;rw [hcm]at hx;cases hx
      · rw [A2v e];exact hx
    subst ha
    refine S_start0 (v0:=v) [5] [0,1,2,3,4,5] Z A1w kR hle ?_
    repeat refine st ?_
    refine A8d tab Z Z Z kR Z h3 (x:=.map (some A.Cm)) Z ?_
    refine A8d tab Z Z Z kR Z h1 (x:=.slice (some ⟨b,off,none⟩) A.N cp) Z ?_
    repeat refine st ?_
    refine A0v tab t Z Z Z kR Z Z Z Z Z ht ?_
    refine A8d tab Z Z Z kR Z hv (A2d tab Z Z Z hw) ?_
    refine S_do0 kR (A_delete_ tab wl_key (k:=(A2a P F)[t]) Z Z Z Z Z (by rw [A5g,hcon];rfl) ⟨?_,?_,?_⟩)
    · rw [A6p]
      intro b' x hx
      by_cases e:b'=A.Cm
      · subst e;rw [hcm]at hx;cases hx
      · rw [A2v e];exact hx
    · exact kp
    repeat refine st ?_
    refine⟨Z,Z,Z,⟨Z,Z,Z,Z,Z,Z,trivial⟩,?_⟩
    rw [A6p,hcon]
    congr 1
    unfold conW
    exact congrArg (fun z=>mapO wlV z (2 ^ P*2 ^ F)) (conW_del hlt))
end
end Go.Proofs.YtiolobmgibdfmaaGreat
end
section
namespace Go.Proofs.YtiolobmgibdfmaaGreat
open Go Go.Pal Go.Pal.Vo Go.Conc View
open Go.Proofs.Tryz
open Go.Sort (swp PermIn SortedIn Below SWO)
set_option maxHeartbeats 4000000
section
variable{mn:Who}{v:View}
theorem A1n{β:A0j}:∀p,Pal.cnt p β=Pal.cnt p ([]++β):=fun _=>rfl
def WOk(P:Nat)(w:Wl):Prop:=w.1<2 ^ P∧w.2<256
structure DB(P cap:Nat)(d:Array Wl)(c:Array Value):Prop where
 size:c.size=cap*2
 le:d.size≤cap
 ok:∀{i:Nat},i<d.size→WOk P d[i]!
 get:∀i,i<d.size→c[i*2]?=some (u8 d[i]!.1)∧c[i*2+1]?=some (u8 d[i]!.2)
variable{P cap:Nat}{d:Array Wl}{c:Array Value}
theorem DB.read(h:DB P cap d c){i:Nat}(hi:i<d.size):A5t tab 102 c (0+i*2)=some (wlV d[i]!):=by
 obtain⟨h1,h2⟩:=h.get i hi
 have hs:=h.size
 have hl:=h.le
 refine A2d tab (k:=2) (x:=[u8 d[i]!.1,u8 d[i]!.2]) Z Z Z ⟨oM,?_⟩
 rw [Nat.zero_add]
 apply Array.ext_getElem?
 intro k
 rw [Array.getElem?_extract]
 rcases (by omega:k=0∨k=1∨2≤k)with rfl|rfl|hk
 ·rw [if_pos oM];simpa using h1
 ·rw [if_pos oM];simpa using h2
 ·rw [if_neg oM]
  simp;omega
theorem DB.off(h:DB P cap d c){i:Nat}(hi:i<d.size):Nat.ble (0+i*2+2) c.size=true:=by
 have hs:=h.size
 have hl:=h.le
 exact Nat.ble_eq_true_of_le oM
theorem DB.set(h:DB P cap d c){i:Nat}(hi:i<d.size){x:Wl}(hx:WOk P x):DB P cap (d.setIfInBounds i x) (A1l c (0+i*2) (wlV x).cells.toList):=by
  have hs:=h.size
  have hl:=h.le
  refine⟨by rw [A5q,hs],by simpa using hl,fun {k} hk=>?_,fun k hk=>?_⟩
  · by_cases e:i=k
    · subst e
      rw [getElem!_pos (d.setIfInBounds i x) i hk,Array.getElem_setIfInBounds_self]
      exact hx
    · have hk':k<d.size:=by simpa using hk
      rw [getElem!_pos (d.setIfInBounds i x) k hk,Array.getElem_setIfInBounds_ne (by simpa using hk') e,←getElem!_pos]
      exact h.ok hk'
  · have hk':k<d.size:=by simpa using hk
    have hw:∀j,(A1l c (0+i*2) (wlV x).cells.toList)[j]?=if i*2≤j∧j<i*2+2 then [u8 x.1,u8 x.2][j-i*2]? else c[j]?:=by
      intro j
      rw [A8h (by show 0+i*2+2≤c.size;omega)]
      rw [Nat.zero_add]
      rfl
    rw [hw,hw]
    by_cases e:i=k
    · subst e
      rw [if_pos oM,if_pos oM,getElem!_pos (d.setIfInBounds i x) i hk,Array.getElem_setIfInBounds_self]
      rw [show i*2-i*2=0 by omega,show i*2+1-i*2=1 by omega]
      exact⟨Z,Z⟩
    · rw [if_neg oM,if_neg oM,getElem!_pos (d.setIfInBounds i x) k hk,Array.getElem_setIfInBounds_ne (by simpa using hk') e,←getElem!_pos]
      exact h.get k hk'
theorem DB.swp(h:DB P cap d c){i j:Nat}(hi:i<d.size)(hj:j<d.size):DB P cap (swp d i j) (A1l (A1l c (0+i*2) (wlV d[j]!).cells.toList) (0+j*2) (wlV d[i]!).cells.toList):=
 (h.set hi (h.ok hj)).set (by simpa using hj) (h.ok hi)
abbrev SBox(P cap b:Nat)(post:Array Wl→Prop):A0j→Prop:=fun β'=>∃d' c',β'=[(b,c',102)]∧DB P cap d' c'∧post d'
abbrev slV(b n cap:Nat):Value:=.slice (some ⟨b,0,none⟩) n cap
theorem reverse_x{b i0 j0:Nat}{f:Value}(hD:DB P cap d c)(hcap:d.size<2^30)(hij:i0≤j0)(hj:j0≤d.size) :
  CallsB prog mn 189 #[slV b d.size cap,.int .i64 i0,.int .i64 j0,f] (RetB fun r β'=>r = .tuple #[]∧SBox P cap b (fun d'=>PermIn i0 j0 d d') β') [(b,c,102)] v:=by
 refine A0f tab func189 Z nB (args:=[_,_,_,_]) ?_
 have hle:=hD.le
 repeat refine st ?_
 refine A1o (α:=Int×Nat×Array Wl×Array Value) (fun z=>⟨[],[(9,.int .i64 z.1),(8,.int .i64 z.2.1),(0,slV b d.size cap)],[(b,z.2.2.2,102)]⟩)
  (fun z u=>u=v∧DB P cap z.2.2.1 z.2.2.2∧z.2.2.1.size=d.size∧PermIn i0 j0 d z.2.2.1∧i0≤z.2.1∧z.1<j0) (fun z=>(z.1-z.2.1+1).toNat) ((j0:Int)-1,i0,d,c)
  ⟨Z,rg,cntL⟩ (Le.refl _) ⟨Z,hD,Z,Go.Sort.permIn_refl _ _ _,Nat.le_refl _,by simp only;omega⟩ ?_
 rintro⟨jj,i,d1,c1⟩ u ⟨rfl,hD1,hs1,hp1,hi1,hj1⟩
 simp only at hD1 hs1 hp1 hi1 hj1
 dsimp only
 rw [←hs1]
 repeat refine st ?_
 refine A0t Z (fun h=>?_) (fun h=>?_)
 ·replace h:=fa h
  obtain⟨j,rfl⟩:=Int.eq_ofNat_of_zero_le (show(0:Int)≤jj by omega)
  repeat refine st ?_
  ((refine A2u [13,15] [0,1,2,3,4,5,6,7,8,9,10,11,12,13,14,15] A1w Z kR ?_);(repeat (refine ss ?_));(refine A0v tab (j) Z Z Z kR Z Z (by first|rfl|omega) Z Z oM ?_);(refine A1q tab Z Z Z kR Z ib (hD1.read oM) ?_);(repeat (refine ss ?_));(refine A0v tab (i) Z Z Z kR Z Z (by first|rfl|omega) Z Z oM ?_);(refine A1q tab Z Z Z kR Z ib (hD1.read oM) ?_);(refine A0v tab (i) Z Z Z kR Z Z (by first|rfl|omega) Z Z oM ?_);(refine S_do kR (A1j tab Z Z Z Z Z Z Z ib (hD1.off oM) sb ⟨Le.refl _,kp,?_⟩));(refine A0v tab (j) Z Z Z kR Z Z (by first|rfl|omega) Z Z oM ?_);(refine S_do kR (A1j tab Z Z Z Z Z Z Z ib ((hD1.set oM (hD1.ok oM)).off (by first|simpa using oM|(simp;omega))) sb ⟨Le.refl _,kp,?_⟩));(repeat (refine ss ?_)))
  repeat refine st ?_
  refine A0c ⟨((j:Int)-1,i+1,swp d1 i j,_),u,by simp only;omega,⟨Z,rg,cntL⟩,Le.refl _,Z,hD1.swp oM oM,by rw [Go.Sort.size_swp,hs1],?_,by simp only;omega,by simp only;omega⟩
  exact Go.Sort.permIn_trans _ _ _ _ _ hp1 (Go.Sort.swp_permIn _ _ _ _ _ hi1 oM oM oM oM)
 ·repeat refine st ?_
  refine A1t tab [(b,c1,102)] .nil (Back.here cntL) ?_
  exact⟨Z,d1,c1,Z,hD1,hp1⟩
end
end Go.Proofs.YtiolobmgibdfmaaGreat
end
section
namespace Go.Proofs.YtiolobmgibdfmaaGreat
open Go Go.Pal Go.Pal.Vo Go.Conc View
open Go.Proofs.Tryz
open Go.Sort (swp PermIn SortedIn Below SWO insInner insOuter insertionSort)
set_option maxHeartbeats 4000000
section
variable{mn:Who}{v:View}
theorem fls_tab:(List.range 8).all (fun P=>(List.range (2 ^ P)).all fun t=>IntKind.u8.wrap ((BitVec.ofInt IntKind.u8.bits ((2 ^ P-1:Nat):Int) &&& ~~~ BitVec.ofInt IntKind.u8.bits ((t:Nat):Int)).toNat:Int)==((fls P t:Nat):Int))=true:=by decide +kernel
theorem fls_val{P t:Nat}(hP:P<8)(ht:t<2 ^ P):IntKind.u8.wrap ((BitVec.ofInt IntKind.u8.bits ((2 ^ P-1:Nat):Int) &&& ~~~ BitVec.ofInt IntKind.u8.bits ((t:Nat):Int)).toNat:Int)=((fls P t:Nat):Int):=by
 have:=List.all_eq_true.1 (List.all_eq_true.1 fls_tab _ (List.mem_range.2 hP)) _ (List.mem_range.2 ht)
 simpa using this
theorem pow_le8{P:Nat}(hP:P<8):2 ^ P≤128:=by have:2 ^ P≤2^7:=Nat.pow_le_pow_right dM oM;omega
theorem lst_len(g:Nat):(lst g).length≤8:=lstTo_le g 8
theorem A2s{P:Nat}{F:Int}{a:Option Addr}{n cap:Nat}{x y:Wl}(hP:P<8)(hx:WOk P x)(hy:WOk P y):Ret1 prog mn 138 [boV P F a n cap,wlV x,wlV y] (.int .i64 (cmpW P x y)) v:=by
 obtain⟨x1,x2⟩:=x
 obtain⟨y1,y2⟩:=y
 obtain⟨hx1,hx2⟩:=hx
 obtain⟨hy1,hy2⟩:=hy
 simp only at hx1 hx2 hy1 hy2
 have hp:=pow_le8 hP
 have hfx:fls P x1<256:=by unfold fls;omega
 have hfy:fls P y1<256:=by unfold fls;omega
 have hcx:=cnt_le hfx
 have hcy:=cnt_le hfy
 refine A0f tab func138 Z nB (args:=[_,_,_]) ?_
 repeat (first|refine st ?_|refine qb fun bx=>?_)
 rw [all_val hP]
 simp only [fls_val hP hx1,fls_val hP hy1]
 refine Q_op fun ho=>A0s ho bod85 Z Z Z Z Z (A7q hfx) ?_
 clear ho
 repeat (first|refine st ?_|refine qb fun bx=>?_)
 refine Q_op fun ho=>A0s ho bod85 Z Z Z Z Z (A7q hfy) ?_
 clear ho
 repeat (first|refine st ?_|refine qb fun bx=>?_)
 refine A0t Z (fun h=>?_) (fun h=>?_)
 ·replace h:=fa h
  repeat (first|refine st ?_|refine qb fun bx=>?_)
  refine Q_op fun ho=>A0s ho bod85 Z Z Z Z Z (A7q hfx) ?_
  clear ho
  repeat (first|refine st ?_|refine qb fun bx=>?_)
  refine Q_op fun ho=>A0s ho bod85 Z Z Z Z Z (A7q hfy) ?_
  clear ho
  repeat (first|refine st ?_|refine qb fun bx=>?_)
  refine A0l tab [] (by exact .tmp rfl .nil) (Back.here cntL) ?_
  refine⟨?_,Z⟩
  unfold cmpW
  rw [if_pos (by simp only;omega)]
  rfl
 ·replace h:=fa h
  have hne:cnt (fls P x1)=cnt (fls P y1):=oM
  clear h
  repeat (first|refine st ?_|refine qb fun bx=>?_)
  refine Q_op fun ho=>A0i [] _ ho B3w Z Z Z Z Z A1n (B3i hfx) (fun x β' hR=>?_)
  clear ho
  obtain⟨a1,cap1,rfl,hS1⟩:=hR
  rename A0j=>β1
  repeat (first|refine st ?_|refine qb fun bx=>?_)
  refine Q_op fun ho=>A0i [] _ ho B3w Z Z Z Z Z A1n (B3i hfy) (fun x β' hR=>?_)
  clear ho
  obtain⟨a2,cap2,rfl,hS2⟩:=hR
  rename A0j=>β2
  repeat (first|refine st ?_|refine qb fun bx=>?_)
  have l1:=lst_len (fls P x1)
  have l2:=lst_len (fls P y1)
  refine Q_op fun ho=>A0i (β2++β1) _ ho bod173 Z Z Z Z Z (fun p=>congrArg (Pal.cnt p) (List.append_assoc β2 β1 _).symm) (Ret1.box fun hb=>compareL_x (RowAt.own hb cntL hS1) (RowAt.own hb cntL hS2) oM oM) (fun r β' hR=>?_)
  clear ho
  obtain⟨rfl,rfl⟩:=hR
  repeat (first|refine st ?_|refine qb fun bx=>?_)
  refine A0t Z (fun h=>?_) (fun h=>?_)
  ·replace h:=fa h
   repeat (first|refine st ?_|refine qb fun bx=>?_)
   refine A0l tab [] (by exact .tmp rfl .nil) (Back.here cntL) ?_
   refine⟨?_,Z⟩
   unfold cmpW
   rw [if_neg (by simp only;omega),if_pos h]
   rfl
  ·replace h:=fa h
   have hne2:lexI (lst (fls P x1)) (lst (fls P y1))=0:=h
   clear h
   repeat (first|refine st ?_|refine qb fun bx=>?_)
   refine A2u [2,5,6] [0,1,3,4,2,5,6,7] A1w Z kR ?_
   repeat (first|refine st ?_|refine qb fun bx=>?_)
   refine S_do kR (A0i [] _ Z B3w Z Z Z Z Z A1n (B3i hx2) (fun x β' hR=>⟨Le.refl _,?_,?_⟩))
   ·exact kp
   obtain⟨a3,cap3,rfl,hS3⟩:=hR
   rename A0j=>β3
   repeat (first|refine st ?_|refine qb fun bx=>?_)
   refine S_do kR (A0i [] _ Z B3w Z Z Z Z Z A1n (B3i hy2) (fun x β' hR=>⟨Le.refl _,?_,?_⟩))
   ·exact kp
   obtain⟨a4,cap4,rfl,hS4⟩:=hR
   rename A0j=>β4
   repeat (first|refine st ?_|refine qb fun bx=>?_)
   have l3:=lst_len x2
   have l4:=lst_len y2
   refine S_do kR (A0i (β4++β3) _ Z bod173 Z Z Z Z Z (fun p=>congrArg (Pal.cnt p) (List.append_assoc β4 β3 _).symm) (Ret1.box fun hb=>compareL_x (l:=lst x2) (m:=lst y2) (RowAt.own hb cntL hS3) (RowAt.own hb cntL hS4) oM oM) (fun r β' hR=>⟨Le.refl _,?_,?_⟩))
   ·exact kp
   obtain⟨rfl,rfl⟩:=hR
   repeat (first|refine st ?_|refine qb fun bx=>?_)
   refine A0l tab [] (by exact .tmp rfl .nil) (Back.here cntL) ?_
   refine⟨?_,Z⟩
   unfold cmpW
   rw [if_neg (by simp only;omega),if_neg (by simpa using hne2)]
   rfl
end
section
variable{mn:Who}{v:View}{P cap:Nat}{d:Array Wl}{c:Array Value}
abbrev cmV(P:Nat)(F:Int)(a:Option Addr)(n cap:Nat):Value:=.func (.func 138) #[boV P F a n cap] #[]
abbrev AS:=Nat×Array Wl×Array Value
theorem insertion_x{b x y:Nat}{F:Int}{wa:Option Addr}{wn wc:Nat}(hP:P<8)(hD:DB P cap d c)(hcap:d.size<2^30)(hxy:x≤y)(hy:y≤d.size) :
  CallsB prog mn 185 #[slV b d.size cap,.int .i64 x,.int .i64 y,cmV P F wa wn wc] (RetB fun r β'=>r = .tuple #[]∧SBox P cap b (fun d'=>d'.size=d.size∧d'=insertionSort (ltW P) d x y) β') [(b,c,102)] v:=by
 refine A0f tab func185 Z nB (args:=[_,_,_,_]) ?_
 have hle:=hD.le
 repeat refine st ?_
 refine A1o (α:=AS) (fun z=>⟨[],[(8,.int .i64 z.1),(0,slV b d.size cap),(1,.int .i64 x),(2,.int .i64 y),(3,cmV P F wa wn wc)],[(b,z.2.2,102)]⟩)
  (fun z u=>u=v∧DB P cap z.2.1 z.2.2∧z.2.1.size=d.size∧x<z.1∧z.1≤y+1∧insOuter (ltW P) x y z.1 z.2.1=insertionSort (ltW P) d x y) (fun z=>y+1-z.1) (x+1,d,c)
  ⟨Z,rg,cntL⟩ (Le.refl _) ⟨Z,hD,Z,by simp only;omega,by simp only;omega,Z⟩ ?_
 rintro⟨i,d1,c1⟩ u ⟨rfl,hD1,hs1,hxi,hiy,hr1⟩
 simp only at hD1 hs1 hxi hiy hr1
 dsimp only
 rw [insOuter]at hr1
 repeat refine st ?_
 refine A0t Z (fun h=>?_) (fun h=>?_)
 ·replace h:=fa h
  rw [if_pos oM]at hr1
  repeat refine st ?_
  refine A1o (α:=AS) (fun z=>⟨[],[(9,.int .i64 z.1),(8,.int .i64 i),(0,slV b d.size cap),(1,.int .i64 x),(2,.int .i64 y),(3,cmV P F wa wn wc)],[(b,z.2.2,102)]⟩)
   (fun z w=>w=u∧DB P cap z.2.1 z.2.2∧z.2.1.size=d.size∧z.1≤i∧insInner (ltW P) x z.1 z.2.1=insInner (ltW P) x i d1) (fun z=>z.1) (i,d1,c1)
   ⟨Z,rg,cntL⟩ (Le.refl _) ⟨Z,hD1,hs1,Nat.le_refl _,Z⟩ ?_
  rintro⟨j,d2,c2⟩ w ⟨rfl,hD2,hs2,hji,hr2⟩
  simp only at hD2 hs2 hji hr2
  dsimp only
  repeat refine st ?_
  refine lexL A1w Z kR ?_
  repeat refine st ?_
  refine A8f Z Z (fun h=>?_) (fun h=>?_)
  ·replace h:=fa h
   obtain⟨j,rfl⟩:∃k,j=k+1:=⟨j-1,oM⟩
   repeat refine st ?_
   refine A2i tab (j+1) Z Z Z Z Z Z Z oM ?_
   refine A1y tab Z Z Z InB.head (hD2.read oM) ?_
   repeat refine st ?_
   refine A2i tab j Z Z Z Z oM Z Z oM ?_
   refine A1y tab Z Z Z InB.head (hD2.read oM) ?_
   repeat refine st ?_
   refine A3r A5i Z Z Z Z Z (A2s hP (hD2.ok oM) (hD2.ok oM)) ?_
   repeat refine st ?_
   rw [show insInner (ltW P) x (j+1) d2=(if decide (j+1 > x)&&ltW P d2[j+1]! d2[j]! then insInner (ltW P) x j (swp d2 (j+1) j)else d2)from rfl]at hr2
   refine A0t Z (fun h=>?_) (fun h=>?_)
   ·have h':ltW P d2[j+1]! d2[j]! = true:=h
    rw [if_pos (by rw [h'];simp;omega)]at hr2
    repeat refine st ?_
    ((refine A2u [15,17] [0,1,2,3,4,5,6,7,8,9,10,11,12,13,14,15,16,17] A1w Z kR ?_);(repeat (refine ss ?_));(refine A0v tab (j) Z Z Z kR Z Z (by first|rfl|omega) Z Z oM ?_);(refine A1q tab Z Z Z kR Z ib (hD2.read oM) ?_);(repeat (refine ss ?_));(refine A0v tab (j+1) Z Z Z kR Z Z (by first|rfl|omega) Z Z oM ?_);(refine A1q tab Z Z Z kR Z ib (hD2.read oM) ?_);(refine A0v tab (j+1) Z Z Z kR Z Z (by first|rfl|omega) Z Z oM ?_);(refine S_do kR (A1j tab Z Z Z Z Z Z Z ib (hD2.off oM) sb ⟨Le.refl _,kp,?_⟩));(refine A0v tab (j) Z Z Z kR Z Z (by first|rfl|omega) Z Z oM ?_);(refine S_do kR (A1j tab Z Z Z Z Z Z Z ib ((hD2.set oM (hD2.ok oM)).off (by first|simpa using oM|(simp;omega))) sb ⟨Le.refl _,kp,?_⟩));(repeat (refine ss ?_)))
    repeat refine st ?_
    refine A0c ⟨(j,swp d2 (j+1) j,_),w,by simp only;omega,⟨Z,?_,cntL⟩,Le.refl _,Z,hD2.swp oM oM,by rw [Go.Sort.size_swp,hs2],by simp only;omega,hr2⟩
    refine⟨?_,rg⟩
    show some (Value.int .i64 (((j+1:Nat):Int)-1))=some (Value.int .i64 (j:Int))
    congr 2;omega
   ·have h':ltW P d2[j+1]! d2[j]! = false:=h
    rw [if_neg (by rw [h'];simp)]at hr2
    repeat refine st ?_
    refine A0c ⟨(i+1,d2,c2),w,by simp only;omega,⟨Z,rg,cntL⟩,Le.refl _,Z,hD2,hs2,by simp only;omega,by simp only;omega,?_⟩
    rw [hr2];exact hr1
  ·replace h:=fa h
   have hr3:d2=insInner (ltW P) x i d1:=by
    rw [←hr2]
    cases j with
    | zero=>rfl
    | succ j=>unfold insInner;rw [if_neg (by simp;omega)]
   repeat refine st ?_
   refine A0c ⟨(i+1,d2,c2),w,by simp only;omega,⟨Z,rg,cntL⟩,Le.refl _,Z,hD2,hs2,by simp only;omega,by simp only;omega,?_⟩
   rw [hr3];exact hr1
 ·replace h:=fa h
  rw [if_neg oM]at hr1
  repeat refine st ?_
  refine A1t tab [(b,c1,102)] .nil (Back.here cntL) ?_
  exact⟨Z,d1,c1,Z,hD1,hs1,hr1⟩
end
end Go.Proofs.YtiolobmgibdfmaaGreat
end
section
namespace Go.Proofs.YtiolobmgibdfmaaGreat
open Go Go.Pal Go.Pal.Vo Go.Conc View
open Go.Proofs.Tryz
open Go.Sort (swp PermIn SortedIn Below SWO siftDown heapBuild heapPop heapSort)
set_option maxHeartbeats 4000000
section
variable{mn:Who}{v:View}{P cap:Nat}{d:Array Wl}{c:Array Value}
theorem w2r{r:Nat}(h:r<2^40):IntKind.i64.wrap (IntKind.i64.wrap (2*(r:Int))+1)=((2*r+1:Nat):Int):=by
 rw [A4k (x:=2*(r:Int)) oM oM,A4k oM oM];omega
theorem sift_x{b lo hi first:Nat}{F:Int}{wa:Option Addr}{wn wc:Nat}(hP:P<8)(hD:DB P cap d c)(hcap:d.size<2^30)(h1:first+hi≤d.size)(hlo:lo<2^35) :
  CallsB prog mn 203 #[slV b d.size cap,.int .i64 lo,.int .i64 hi,.int .i64 first,cmV P F wa wn wc] (RetB fun r β'=>r = .tuple #[]∧SBox P cap b (fun d'=>d'.size=d.size∧d'=siftDown (ltW P) hi first lo d) β') [(b,c,102)] v:=by
 refine A0f tab func203 Z nB (args:=[_,_,_,_,_]) ?_
 have hle:=hD.le
 repeat refine st ?_
 refine A1o (α:=AS) (fun z=>⟨[],[(10,.int .i64 z.1),(0,slV b d.size cap),(2,.int .i64 hi),(3,.int .i64 first),(4,cmV P F wa wn wc)],[(b,z.2.2,102)]⟩)
  (fun z u=>u=v∧DB P cap z.2.1 z.2.2∧z.2.1.size=d.size∧z.1<2^35∧siftDown (ltW P) hi first z.1 z.2.1=siftDown (ltW P) hi first lo d) (fun z=>hi-z.1) (lo,d,c)
  ⟨Z,rg,cntL⟩ (Le.refl _) ⟨Z,hD,Z,hlo,Z⟩ ?_
 rintro⟨root,d1,c1⟩ u ⟨rfl,hD1,hs1,hrt,hr1⟩
 simp only at hD1 hs1 hrt hr1
 dsimp only
 rw [siftDown]at hr1
 repeat refine st ?_
 rw [w2r oM]
 by_cases hge:2*root+1≥hi
 ·rw [dif_pos hge]at hr1
  rw [show decide (((2*root+1:Nat):Int)≥(hi:Int))=true from decide_eq_true oM]
  repeat refine st ?_
  refine A1t tab [(b,c1,102)] .nil (Back.here cntL) ?_
  exact⟨Z,d1,c1,Z,hD1,hs1,hr1⟩
 ·rw [dif_neg hge]at hr1
  rw [show decide (((2*root+1:Nat):Int)≥(hi:Int))=false from decide_eq_false oM]
  repeat refine st ?_
  refine lexL A1w Z kR ?_
  repeat refine st ?_
  by_cases hlt:2*root+1+1<hi
  ·rw [show decide (((2*root+1:Nat):Int)+1<(hi:Int))=true from decide_eq_true oM]
   repeat refine st ?_
   refine A2i tab (first+(2*root+1)) Z Z Z Z oM Z Z oM ?_
   refine A1y tab Z Z Z InB.head (hD1.read oM) ?_
   repeat refine st ?_
   refine A2i tab (first+(2*root+1)+1) Z Z Z Z oM Z Z oM ?_
   refine A1y tab Z Z Z InB.head (hD1.read oM) ?_
   repeat refine st ?_
   refine A3r A5i Z Z Z Z Z (A2s hP (hD1.ok oM) (hD1.ok oM)) ?_
   repeat refine st ?_
   cases h4:ltW P d1[first+(2*root+1)]! d1[first+(2*root+1)+1]! with
   | true=>
    rw [show decide (cmpW P d1[first+(2*root+1)]! d1[first+(2*root+1)+1]! < 0)=true from h4]
    rw [if_pos (by rw [h4];simp;omega)]at hr1
    repeat refine st ?_
    refine lexL A1w Z kR ?_
    repeat refine st ?_
    refine A2i tab (first+root) Z Z Z Z oM Z Z oM ?_
    refine A1y tab Z Z Z InB.head (hD1.read oM) ?_
    repeat refine st ?_
    refine A2i tab (first+(2*root+2)) Z Z Z Z oM Z Z oM ?_
    refine A1y tab Z Z Z InB.head (hD1.read oM) ?_
    repeat refine st ?_
    refine A3r A5i Z Z Z Z Z (A2s hP (hD1.ok oM) (hD1.ok oM)) ?_
    repeat refine st ?_
    cases h5:ltW P d1[first+root]! d1[first+(2*root+2)]! with
    | true=>
     rw [show decide (cmpW P d1[first+root]! d1[first+(2*root+2)]! < 0)=true from h5]
     rw [if_neg (by rw [h5];simp)]at hr1
     rw [dif_pos oM]at hr1
     repeat refine st ?_
     ((refine A2u [21,23] [0,1,2,3,4,5,6,7,8,9,10,11,12,13,14,15,16,17,18,19,20,21,22,23] A1w Z kR ?_);(repeat (refine ss ?_));(refine A0v tab (first+(2*root+2)) Z Z Z kR Z Z (by first|rfl|omega) Z Z oM ?_);(refine A1q tab Z Z Z kR Z ib (hD1.read oM) ?_);(repeat (refine ss ?_));(refine A0v tab (first+root) Z Z Z kR Z Z (by first|rfl|omega) Z Z oM ?_);(refine A1q tab Z Z Z kR Z ib (hD1.read oM) ?_);(refine A0v tab (first+root) Z Z Z kR Z Z (by first|rfl|omega) Z Z oM ?_);(refine S_do kR (A1j tab Z Z Z Z Z Z Z ib (hD1.off oM) sb ⟨Le.refl _,kp,?_⟩));(refine A0v tab (first+(2*root+2)) Z Z Z kR Z Z (by first|rfl|omega) Z Z oM ?_);(refine S_do kR (A1j tab Z Z Z Z Z Z Z ib ((hD1.set oM (hD1.ok oM)).off (by first|simpa using oM|(simp;omega))) sb ⟨Le.refl _,kp,?_⟩));(repeat (refine ss ?_)))
     repeat refine st ?_
     refine A0c ⟨(2*root+2,swp d1 (first+root) (first+(2*root+2)),_),u,by simp only;omega,⟨Z,?_,cntL⟩,Le.refl _,Z,hD1.swp oM oM,by rw [Go.Sort.size_swp,hs1],by simp only;omega,hr1⟩
     refine⟨?_,rg⟩
     first|rfl|(show some (Value.int .i64 _)=some (Value.int .i64 _);congr 2;push_cast;omega)
    | false=>
     rw [show decide (cmpW P d1[first+root]! d1[first+(2*root+2)]! < 0)=false from h5]
     rw [if_pos (by rw [h5];rfl)]at hr1
     repeat refine st ?_
     refine A0l tab [(b,c1,102)] .nil (Back.here cntL) ?_
     exact⟨Z,d1,c1,Z,hD1,hs1,hr1⟩
   | false=>
    rw [show decide (cmpW P d1[first+(2*root+1)]! d1[first+(2*root+1)+1]! < 0)=false from h4]
    rw [if_neg (by rw [h4];simp)]at hr1
    repeat refine st ?_
    refine lexL A1w Z kR ?_
    repeat refine st ?_
    refine A2i tab (first+root) Z Z Z Z oM Z Z oM ?_
    refine A1y tab Z Z Z InB.head (hD1.read oM) ?_
    repeat refine st ?_
    refine A2i tab (first+(2*root+1)) Z Z Z Z oM Z Z oM ?_
    refine A1y tab Z Z Z InB.head (hD1.read oM) ?_
    repeat refine st ?_
    refine A3r A5i Z Z Z Z Z (A2s hP (hD1.ok oM) (hD1.ok oM)) ?_
    repeat refine st ?_
    cases h5:ltW P d1[first+root]! d1[first+(2*root+1)]! with
    | true=>
     rw [show decide (cmpW P d1[first+root]! d1[first+(2*root+1)]! < 0)=true from h5]
     rw [if_neg (by rw [h5];simp)]at hr1
     skip
     repeat refine st ?_
     ((refine A2u [21,23] [0,1,2,3,4,5,6,7,8,9,10,11,12,13,14,15,16,17,18,19,20,21,22,23] A1w Z kR ?_);(repeat (refine ss ?_));(refine A0v tab (first+(2*root+1)) Z Z Z kR Z Z (by first|rfl|omega) Z Z oM ?_);(refine A1q tab Z Z Z kR Z ib (hD1.read oM) ?_);(repeat (refine ss ?_));(refine A0v tab (first+root) Z Z Z kR Z Z (by first|rfl|omega) Z Z oM ?_);(refine A1q tab Z Z Z kR Z ib (hD1.read oM) ?_);(refine A0v tab (first+root) Z Z Z kR Z Z (by first|rfl|omega) Z Z oM ?_);(refine S_do kR (A1j tab Z Z Z Z Z Z Z ib (hD1.off oM) sb ⟨Le.refl _,kp,?_⟩));(refine A0v tab (first+(2*root+1)) Z Z Z kR Z Z (by first|rfl|omega) Z Z oM ?_);(refine S_do kR (A1j tab Z Z Z Z Z Z Z ib ((hD1.set oM (hD1.ok oM)).off (by first|simpa using oM|(simp;omega))) sb ⟨Le.refl _,kp,?_⟩));(repeat (refine ss ?_)))
     repeat refine st ?_
     refine A0c ⟨(2*root+1,swp d1 (first+root) (first+(2*root+1)),_),u,by simp only;omega,⟨Z,?_,cntL⟩,Le.refl _,Z,hD1.swp oM oM,by rw [Go.Sort.size_swp,hs1],by simp only;omega,hr1⟩
     refine⟨?_,rg⟩
     first|rfl|(show some (Value.int .i64 _)=some (Value.int .i64 _);congr 2;push_cast;omega)
    | false=>
     rw [show decide (cmpW P d1[first+root]! d1[first+(2*root+1)]! < 0)=false from h5]
     rw [if_pos (by rw [h5];rfl)]at hr1
     repeat refine st ?_
     refine A0l tab [(b,c1,102)] .nil (Back.here cntL) ?_
     exact⟨Z,d1,c1,Z,hD1,hs1,hr1⟩
  ·rw [show decide (((2*root+1:Nat):Int)+1<(hi:Int))=false from decide_eq_false oM]
   rw [if_neg (by simp;omega)]at hr1
   repeat refine st ?_
   refine lexL A1w Z kR ?_
   repeat refine st ?_
   refine A2i tab (first+root) Z Z Z Z oM Z Z oM ?_
   refine A1y tab Z Z Z InB.head (hD1.read oM) ?_
   repeat refine st ?_
   refine A2i tab (first+(2*root+1)) Z Z Z Z oM Z Z oM ?_
   refine A1y tab Z Z Z InB.head (hD1.read oM) ?_
   repeat refine st ?_
   refine A3r A5i Z Z Z Z Z (A2s hP (hD1.ok oM) (hD1.ok oM)) ?_
   repeat refine st ?_
   cases h5:ltW P d1[first+root]! d1[first+(2*root+1)]! with
   | true=>
    rw [show decide (cmpW P d1[first+root]! d1[first+(2*root+1)]! < 0)=true from h5]
    rw [if_neg (by rw [h5];simp)]at hr1
    skip
    repeat refine st ?_
    ((refine A2u [21,23] [0,1,2,3,4,5,6,7,8,9,10,11,12,13,14,15,16,17,18,19,20,21,22,23] A1w Z kR ?_);(repeat (refine ss ?_));(refine A0v tab (first+(2*root+1)) Z Z Z kR Z Z (by first|rfl|omega) Z Z oM ?_);(refine A1q tab Z Z Z kR Z ib (hD1.read oM) ?_);(repeat (refine ss ?_));(refine A0v tab (first+root) Z Z Z kR Z Z (by first|rfl|omega) Z Z oM ?_);(refine A1q tab Z Z Z kR Z ib (hD1.read oM) ?_);(refine A0v tab (first+root) Z Z Z kR Z Z (by first|rfl|omega) Z Z oM ?_);(refine S_do kR (A1j tab Z Z Z Z Z Z Z ib (hD1.off oM) sb ⟨Le.refl _,kp,?_⟩));(refine A0v tab (first+(2*root+1)) Z Z Z kR Z Z (by first|rfl|omega) Z Z oM ?_);(refine S_do kR (A1j tab Z Z Z Z Z Z Z ib ((hD1.set oM (hD1.ok oM)).off (by first|simpa using oM|(simp;omega))) sb ⟨Le.refl _,kp,?_⟩));(repeat (refine ss ?_)))
    repeat refine st ?_
    refine A0c ⟨(2*root+1,swp d1 (first+root) (first+(2*root+1)),_),u,by simp only;omega,⟨Z,?_,cntL⟩,Le.refl _,Z,hD1.swp oM oM,by rw [Go.Sort.size_swp,hs1],by simp only;omega,hr1⟩
    refine⟨?_,rg⟩
    first|rfl|(show some (Value.int .i64 _)=some (Value.int .i64 _);congr 2;push_cast;omega)
   | false=>
    rw [show decide (cmpW P d1[first+root]! d1[first+(2*root+1)]! < 0)=false from h5]
    rw [if_pos (by rw [h5];rfl)]at hr1
    repeat refine st ?_
    refine A0l tab [(b,c1,102)] .nil (Back.here cntL) ?_
    exact⟨Z,d1,c1,Z,hD1,hs1,hr1⟩
theorem half{n:Nat}(h:n<2^40):IntKind.i64.wrap (((n:Int)-1).tdiv 2)=((((n-1) / 2+1:Nat)):Int)-1:=by
 cases n with
 | zero=>rfl
 | succ n=>
  rw [show(((n+1:Nat):Int)-1)=(n:Int) by omega,show((n:Int).tdiv 2)=((n / 2:Nat):Int)from Z,A4k oM oM]
  omega
theorem heap_x{b x y:Nat}{F:Int}{wa:Option Addr}{wn wc:Nat}(hP:P<8)(hD:DB P cap d c)(hcap:d.size<2^30)(hxy:x≤y)(hy:y≤d.size) :
  CallsB prog mn 186 #[slV b d.size cap,.int .i64 x,.int .i64 y,cmV P F wa wn wc] (RetB fun r β'=>r = .tuple #[]∧SBox P cap b (fun d'=>d'.size=d.size∧d'=heapSort (ltW P) d x y) β') [(b,c,102)] v:=by
 refine A0f tab func186 Z nB (args:=[_,_,_,_]) ?_
 have hle:=hD.le
 repeat refine st ?_
 rw [show((y:Int)-(x:Int))=((y-x:Nat):Int) by omega,half oM]
 refine A1o (α:=AS) (fun z=>⟨[],[(11,.int .i64 ((z.1:Int)-1)),(8,.int .i64 x),(9,.int .i64 0),(10,.int .i64 (y-x:Nat)),(0,slV b d.size cap),(3,cmV P F wa wn wc)],[(b,z.2.2,102)]⟩)
  (fun z u=>u=v∧DB P cap z.2.1 z.2.2∧z.2.1.size=d.size∧z.1<2^31∧heapBuild (ltW P) (y-x) x z.1 z.2.1=heapBuild (ltW P) (y-x) x ((y-x-1) / 2+1) d) (fun z=>z.1) ((y-x-1) / 2+1,d,c)
  ⟨Z,rg,cntL⟩ (Le.refl _) ⟨Z,hD,Z,by simp only;omega,Z⟩ ?_
 rintro⟨k,d1,c1⟩ u ⟨rfl,hD1,hs1,hk,hr1⟩
 simp only at hD1 hs1 hk hr1
 dsimp only
 cases k with
 | succ k=>
  rw [show((k+1:Nat):Int)-1=(k:Int) by omega]
  repeat refine st ?_
  rw [show decide ((k:Int)≥0)=true from decide_eq_true oM]
  repeat refine st ?_
  refine Q_op fun ho=>A0i [(b,c1,102)] [] ho bod203 Z Z Z Z Z cntA (by rw [←hs1];exact sift_x hP hD1 oM oM oM) (fun x β' hR=>?_)
  clear ho
  obtain⟨rfl,d2,c2,rfl,hD2,hs2,hp2⟩:=hR
  rw [List.append_nil]
  repeat refine st ?_
  refine A0c ⟨(k,d2,c2),u,by simp only;omega,⟨Z,rg,cntL⟩,Le.refl _,Z,hD2,by simp only;omega,by simp only;omega,?_⟩
  rw [←hr1,hp2];rfl
 | zero=>
  repeat refine st ?_
  have hd1:d1=heapBuild (ltW P) (y-x) x ((y-x-1) / 2+1) d:=hr1
  refine A1o (α:=AS) (fun z=>⟨[],[(12,.int .i64 ((z.1:Int)-1)),(8,.int .i64 x),(9,.int .i64 0),(0,slV b d.size cap),(3,cmV P F wa wn wc)],[(b,z.2.2,102)]⟩)
   (fun z w=>w=u∧DB P cap z.2.1 z.2.2∧z.2.1.size=d.size∧z.1≤y-x∧heapPop (ltW P) x z.1 z.2.1=heapPop (ltW P) x (y-x) d1) (fun z=>z.1) (y-x,d1,c1)
   ⟨Z,rg,cntL⟩ (Le.refl _) ⟨Z,hD1,hs1,Nat.le_refl _,Z⟩ ?_
  rintro⟨k,d3,c3⟩ w ⟨rfl,hD3,hs3,hk3,hr3⟩
  simp only at hD3 hs3 hk3 hr3
  dsimp only
  cases k with
  | succ k=>
   rw [show((k+1:Nat):Int)-1=(k:Int) by omega]
   repeat refine st ?_
   rw [show decide ((k:Int)≥0)=true from decide_eq_true oM]
   repeat refine st ?_
   ((refine A2u [17,19] [0,1,2,3,4,5,6,7,8,9,10,11,12,13,14,15,16,17,18,19] A1w Z kR ?_);(repeat (refine ss ?_));(refine A0v tab (x+k) Z Z Z kR Z Z (by first|rfl|omega) Z Z oM ?_);(refine A1q tab Z Z Z kR Z ib (hD3.read oM) ?_);(repeat (refine ss ?_));(refine A0v tab (x) Z Z Z kR Z Z (by first|rfl|omega) Z Z oM ?_);(refine A1q tab Z Z Z kR Z ib (hD3.read oM) ?_);(refine A0v tab (x) Z Z Z kR Z Z (by first|rfl|omega) Z Z oM ?_);(refine S_do kR (A1j tab Z Z Z Z Z Z Z ib (hD3.off oM) sb ⟨Le.refl _,kp,?_⟩));(refine A0v tab (x+k) Z Z Z kR Z Z (by first|rfl|omega) Z Z oM ?_);(refine S_do kR (A1j tab Z Z Z Z Z Z Z ib ((hD3.set oM (hD3.ok oM)).off (by first|simpa using oM|(simp;omega))) sb ⟨Le.refl _,kp,?_⟩));(repeat (refine ss ?_)))
   repeat refine st ?_
   have hD4:=hD3.swp (i:=x) (j:=x+k) oM oM
   have hs4:=Go.Sort.size_swp d3 x (x+k)
   refine Q_op fun ho=>A0i [(b,A1l (A1l c3 (0+x*2) (wlV d3[x+k]!).cells.toList) (0+(x+k)*2) (wlV d3[x]!).cells.toList,102)] [] ho bod203 Z Z Z Z Z cntA (by rw [←hs3,←hs4];exact sift_x (lo:=0) hP hD4 oM oM oM) (fun x β' hR=>?_)
   clear ho
   obtain⟨rfl,d5,c5,rfl,hD5,hs5,hp5⟩:=hR
   rw [List.append_nil]
   repeat refine st ?_
   refine A0c ⟨(k,d5,c5),w,by simp only;omega,⟨Z,rg,cntL⟩,Le.refl _,Z,hD5,by simp only;omega,by simp only;omega,?_⟩
   rw [←hr3,hp5];rfl
  | zero=>
   repeat refine st ?_
   refine A1t tab [(b,c3,102)] .nil (Back.here cntL) ?_
   refine⟨Z,d3,c3,Z,hD3,hs3,?_⟩
   unfold heapSort
   rw [←hd1]
   exact hr3
end
end Go.Proofs.YtiolobmgibdfmaaGreat
end
section
namespace Go.Proofs.YtiolobmgibdfmaaGreat
open Go Go.Pal Go.Pal.Vo Go.Conc View
open Go.Proofs.Tryz
open Go.Sort (swp PermIn SortedIn Below SWO partition partLoop partitionEqual partEqLoop)
set_option maxHeartbeats 4000000
section
variable{mn:Who}{v:View}{P cap:Nat}{d:Array Wl}{c:Array Value}
abbrev AS2:=Nat×Nat×Array Wl×Array Value
theorem partEq_x{b x y p:Nat}{F:Int}{wa:Option Addr}{wn wc:Nat}(hP:P<8)(hD:DB P cap d c)(hcap:d.size<2^30)(hxp:x≤p)(hpy:p<y)(hy:y≤d.size) :
  CallsB prog mn 191 #[slV b d.size cap,.int .i64 x,.int .i64 y,.int .i64 p,cmV P F wa wn wc] (RetB fun r β'=>r=natV (partitionEqual (ltW P) d x y p).1∧SBox P cap b (fun d'=>d'.size=d.size∧d'=(partitionEqual (ltW P) d x y p).2) β') [(b,c,102)] v:=by
 refine A0f tab func191 Z nB (args:=[_,_,_,_,_]) ?_
 have hle:=hD.le
 repeat refine sr ?_
 ((refine A2u [13,15] [0,1,2,3,4,5,6,7,8,9,10,11,12,13,14,15] A1w Z kR ?_);(repeat (refine ss ?_));(refine A0v tab (p) Z Z Z kR Z Z (by first|rfl|omega) Z Z oM ?_);(refine A1q tab Z Z Z kR Z ib (hD.read oM) ?_);(repeat (refine ss ?_));(refine A0v tab (x) Z Z Z kR Z Z (by first|rfl|omega) Z Z oM ?_);(refine A1q tab Z Z Z kR Z ib (hD.read oM) ?_);(refine A0v tab (x) Z Z Z kR Z Z (by first|rfl|omega) Z Z oM ?_);(refine S_do kR (A1j tab Z Z Z Z Z Z Z ib (hD.off oM) sb ⟨Le.refl _,kp,?_⟩));(refine A0v tab (p) Z Z Z kR Z Z (by first|rfl|omega) Z Z oM ?_);(refine S_do kR (A1j tab Z Z Z Z Z Z Z ib ((hD.set oM (hD.ok oM)).off (by first|simpa using oM|(simp;omega))) sb ⟨Le.refl _,kp,?_⟩));(repeat (refine ss ?_)))
 repeat refine sr ?_
 have hD1:=hD.swp (i:=x) (j:=p) oM oM
 have hs1:=Go.Sort.size_swp d x p
 refine A6f (fun τ w=>w=v∧∃(k j:Nat) (d2:Array Wl) (c2:Array Value),τ=⟨[],[(11,.int .i64 k)],[(b,c2,102)]⟩∧DB P cap d2 c2∧d2.size=d.size∧(k,d2)=partitionEqual (ltW P) d x y p) ?hcO ?hsO
 case hsO=>
  repeat refine sr ?_
  refine A1o (α:=AS2) (fun z=>⟨[],[(11,.int .i64 z.1),(12,.int .i64 z.2.1),(0,slV b d.size cap),(1,.int .i64 x),(4,cmV P F wa wn wc)],[(b,z.2.2.2,102)]⟩)
   (fun z w=>w=v∧DB P cap z.2.2.1 z.2.2.2∧z.2.2.1.size=d.size∧x<z.1∧z.1≤z.2.1+1∧z.2.1<y∧partEqLoop (ltW P) x z.1 z.2.1 z.2.2.1=partitionEqual (ltW P) d x y p) (fun z=>z.2.1+1-z.1) (x+1,y-1,swp d x p,A1l (A1l c (0+(x)*2) (wlV d[p]!).cells.toList) (0+(p)*2) (wlV d[x]!).cells.toList)
   ⟨Z,?_,cntL⟩ (Le.refl _) ⟨Z,hD1,hs1,by simp only;omega,by simp only;omega,by simp only;omega,Z⟩ ?_
  ·refine⟨Z,?_,rg⟩
   show some (Value.int .i64 ((y:Int)-1))=some (Value.int .i64 ((y-1:Nat):Int))
   congr 2;omega
  rintro⟨i,j,d1,c1⟩ v ⟨rfl,hD2,hs2,hxi,hij,hjy,hr⟩
  simp only at hD2 hs2 hxi hij hjy hr
  dsimp only
  rw [Go.Sort.partEqLoop_eq]at hr
  repeat refine sr ?_
  refine A6f (fun τ w=>w=v∧∃k:Nat,τ=⟨[],[(11,.int .i64 (k:Nat)),(12,.int .i64 (j:Nat)),(0,slV b d.size cap),(1,.int .i64 x),(4,cmV P F wa wn wc)],[(b,c1,102)]⟩∧k=Go.Sort.scanUp (fun w=>!ltW P d1[x]! w) d1 (j) (i)) ?hc_i2 ?hs_i2
  case hs_i2=>
   repeat refine sr ?_
   refine A1o (α:=Nat) (fun z=>⟨[],[(11,.int .i64 (z:Nat)),(12,.int .i64 (j:Nat)),(0,slV b d.size cap),(1,.int .i64 x),(4,cmV P F wa wn wc)],[(b,c1,102)]⟩) (fun z w=>w=v∧i≤z∧z≤j+1∧Go.Sort.scanUp (fun w=>!ltW P d1[x]! w) d1 (j) (z)=Go.Sort.scanUp (fun w=>!ltW P d1[x]! w) d1 (j) (i)) (fun z=>j+1-z) (i) ⟨Z,rg,cntL⟩ (Le.refl _) ⟨Z,Nat.le_refl _,oM,Z⟩ ?_
   rintro z v ⟨rfl,hz1,hz2,hz3⟩
   rw [Go.Sort.scanUp]at hz3
   repeat refine st ?_
   refine lexL A1w Z kR ?_
   repeat refine st ?_
   refine A8f Z Z (fun h=>?_) (fun h=>?_)
   ·replace h:=fa h
    repeat refine st ?_
    refine A2i tab (x) Z Z Z Z oM Z Z oM ?_
    refine A1y tab Z Z Z InB.head (hD2.read oM) ?_
    repeat refine st ?_
    refine A2i tab (z) Z Z Z Z oM Z Z oM ?_
    refine A1y tab Z Z Z InB.head (hD2.read oM) ?_
    repeat refine st ?_
    refine A3r A5i Z Z Z Z Z (A2s hP (hD2.ok oM) (hD2.ok oM)) ?_
    repeat refine st ?_
    cases hlt:ltW P d1[x]! d1[z]! with
    | true=>
     rw [show decide (cmpW P d1[x]! d1[z]! < 0)=true from hlt]
     rw [if_neg (by rw [hlt];simp)]at hz3
     repeat refine sr ?_
     exact A0c ⟨_,v,⟨Z,z,Z,hz3⟩,⟨Z,rg,cntL⟩,Le.refl _⟩
    | false=>
     rw [show decide (cmpW P d1[x]! d1[z]! < 0)=false from hlt]
     rw [if_pos (by rw [hlt];simp;omega)]at hz3
     repeat refine sr ?_
     exact A0c ⟨z+1,v,oM,⟨Z,rg,cntL⟩,Le.refl _,Z,oM,oM,hz3⟩
   ·replace h:=fa h
    rw [if_neg (by simp;omega)]at hz3
    repeat refine sr ?_
    exact A0c ⟨_,v,⟨Z,z,Z,hz3⟩,⟨Z,rg,cntL⟩,Le.refl _⟩
  rintro _ v ⟨rfl,i2,rfl,hk_i2⟩
  have hb_i2:=Go.Sort.scanUp_spec (fun w=>!ltW P d1[x]! w) d1 (j) _ (i) Z
  rw [←hk_i2]at hb_i2
  have hc_i2:=hb_i2.1
  have hd_i2:=hb_i2.2.1 oM
  have he_i2:=hb_i2.2.2.2
  clear hb_i2
  rw [←hk_i2]at hr
  repeat refine sr ?_
  refine A6f (fun τ w=>w=v∧∃k:Nat,τ=⟨[],[(11,.int .i64 (i2:Nat)),(12,.int .i64 (k:Nat)),(0,slV b d.size cap),(1,.int .i64 x),(4,cmV P F wa wn wc)],[(b,c1,102)]⟩∧k=Go.Sort.scanDown (fun w=>ltW P d1[x]! w) d1 (i2) (j)) ?hc_j2 ?hs_j2
  case hs_j2=>
   repeat refine sr ?_
   refine A1o (α:=Nat) (fun z=>⟨[],[(11,.int .i64 (i2:Nat)),(12,.int .i64 (z:Nat)),(0,slV b d.size cap),(1,.int .i64 x),(4,cmV P F wa wn wc)],[(b,c1,102)]⟩) (fun z w=>w=v∧i2≤z+1∧z≤j∧Go.Sort.scanDown (fun w=>ltW P d1[x]! w) d1 (i2) (z)=Go.Sort.scanDown (fun w=>ltW P d1[x]! w) d1 (i2) (j)) (fun z=>z) (j) ⟨Z,rg,cntL⟩ (Le.refl _) ⟨Z,oM,Nat.le_refl _,Z⟩ ?_
   rintro z v ⟨rfl,hz1,hz2,hz3⟩
   repeat refine st ?_
   refine lexL A1w Z kR ?_
   repeat refine st ?_
   refine A8f Z Z (fun h=>?_) (fun h=>?_)
   ·replace h:=fa h
    obtain⟨z,rfl⟩:∃k,z=k+1:=⟨z-1,oM⟩
    rw [show Go.Sort.scanDown (fun w=>ltW P d1[x]! w) d1 (i2) (z+1)=(if decide (i2≤z+1)&&ltW P d1[x]! d1[z+1]! then Go.Sort.scanDown (fun w=>ltW P d1[x]! w) d1 (i2) (z)else z+1)from rfl]at hz3
    repeat refine st ?_
    refine A2i tab (x) Z Z Z Z oM Z Z oM ?_
    refine A1y tab Z Z Z InB.head (hD2.read oM) ?_
    repeat refine st ?_
    refine A2i tab (z+1) Z Z Z Z oM Z Z oM ?_
    refine A1y tab Z Z Z InB.head (hD2.read oM) ?_
    repeat refine st ?_
    refine A3r A5i Z Z Z Z Z (A2s hP (hD2.ok oM) (hD2.ok oM)) ?_
    repeat refine st ?_
    cases hlt:ltW P d1[x]! d1[z+1]! with
    | true=>
     rw [show decide (cmpW P d1[x]! d1[z+1]! < 0)=true from hlt]
     rw [if_pos (by rw [hlt];simp;omega)]at hz3
     repeat refine sr ?_
     refine A0c ⟨z,v,oM,⟨Z,?_,cntL⟩,Le.refl _,Z,oM,oM,hz3⟩
     refine⟨Z,?_,rg⟩
     show some (Value.int .i64 (((z+1:Nat):Int)-1))=some (Value.int .i64 (z:Int))
     congr 2;omega
    | false=>
     rw [show decide (cmpW P d1[x]! d1[z+1]! < 0)=false from hlt]
     rw [if_neg (by rw [hlt];simp)]at hz3
     repeat refine sr ?_
     exact A0c ⟨_,v,⟨Z,z+1,Z,hz3⟩,⟨Z,rg,cntL⟩,Le.refl _⟩
   ·replace h:=fa h
    have hz4:z=Go.Sort.scanDown (fun w=>ltW P d1[x]! w) d1 (i2) (z):=by
     cases z with
     | zero=>rfl
     | succ z=>rw [show Go.Sort.scanDown (fun w=>ltW P d1[x]! w) d1 (i2) (z+1)=(if decide (i2≤z+1)&&ltW P d1[x]! d1[z+1]! then Go.Sort.scanDown (fun w=>ltW P d1[x]! w) d1 (i2) (z)else z+1)from rfl,if_neg (by simp;omega)]
    rw [hz3]at hz4
    repeat refine sr ?_
    exact A0c ⟨_,v,⟨Z,z,Z,hz4⟩,⟨Z,rg,cntL⟩,Le.refl _⟩
  rintro _ v ⟨rfl,j2,rfl,hk_j2⟩
  have hb_j2:=Go.Sort.scanDown_spec (fun w=>ltW P d1[x]! w) d1 (i2) (j)
  rw [←hk_j2]at hb_j2
  have hc_j2:=hb_j2.1
  have hd_j2:=hb_j2.2.1 oM
  have he_j2:=hb_j2.2.2.2
  clear hb_j2
  rw [←hk_j2]at hr
  refine A5o ?_
  repeat refine sr ?_
  refine A0t Z (fun h=>?_) (fun h=>?_)
  ·replace h:=fa h
   rw [if_pos oM]at hr
   repeat refine sr ?_
   exact A0c ⟨_,v,⟨Z,i2,j2,d1,c1,Z,hD2,hs2,hr⟩,⟨Z,rg,cntL⟩,Le.refl _⟩
  ·replace h:=fa h
   rw [if_neg oM]at hr
   have hne:i2≠j2:=by
    intro e
    have e1:=he_i2 oM
    have e2:=he_j2 oM oM
    rw [e]at e1
    try simp only at e1 e2
    rw [e2]at e1
    cases e1
   repeat refine sr ?_
   ((refine A2u [13,15] [0,1,2,3,4,5,6,7,8,9,10,11,12,13,14,15] A1w Z kR ?_);(repeat (refine ss ?_));(refine A0v tab (j2) Z Z Z kR Z Z (by first|rfl|omega) Z Z oM ?_);(refine A1q tab Z Z Z kR Z ib (hD2.read oM) ?_);(repeat (refine ss ?_));(refine A0v tab (i2) Z Z Z kR Z Z (by first|rfl|omega) Z Z oM ?_);(refine A1q tab Z Z Z kR Z ib (hD2.read oM) ?_);(refine A0v tab (i2) Z Z Z kR Z Z (by first|rfl|omega) Z Z oM ?_);(refine S_do kR (A1j tab Z Z Z Z Z Z Z ib (hD2.off oM) sb ⟨Le.refl _,kp,?_⟩));(refine A0v tab (j2) Z Z Z kR Z Z (by first|rfl|omega) Z Z oM ?_);(refine S_do kR (A1j tab Z Z Z Z Z Z Z ib ((hD2.set oM (hD2.ok oM)).off (by first|simpa using oM|(simp;omega))) sb ⟨Le.refl _,kp,?_⟩));(repeat (refine ss ?_)))
   repeat refine sr ?_
   refine A0c ⟨(i2+1,j2-1,swp d1 i2 j2,_),v,by simp only;omega,⟨Z,?_,cntL⟩,Le.refl _,Z,hD2.swp oM oM,by rw [Go.Sort.size_swp,hs2],by simp only;omega,by simp only;omega,by simp only;omega,hr⟩
   refine⟨Z,?_,rg⟩
   show some (Value.int .i64 ((j2:Int)-1))=some (Value.int .i64 ((j2-1:Nat):Int))
   congr 2;omega
 rintro _ v ⟨rfl,k,j,d2,c2,rfl,hD2,hs2,hr⟩
 repeat refine st ?_
 refine A0l tab [(b,c2,102)] (by exact .tmp rfl .nil) (Back.here cntL) ?_
 exact⟨by rw [←hr];rfl,d2,c2,Z,hD2,hs2,by rw [←hr]⟩
end
end Go.Proofs.YtiolobmgibdfmaaGreat
end
