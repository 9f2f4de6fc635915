/- Part 9. -/
import Derived.Test.YtclejblcnfaeaaaGreatDoorPah
set_option linter.all false
section
namespace Go.Pal
open Go Go.Conc View
section
variable{P:Program}{mn:Who}{rd:Option Nat}{ops:Array Oper}{J:Nat}
def AnyJ(P:Program)(mn:Who)(ops:Array Oper)(J:Nat)(K:Act→View→Prop):Nat→Array Bool→Act→View→Prop
 | 0,listed,a,v=>Region.ready .any ops listed=[J]∧K a v
 | fuel+1,listed,a,v=>Region.ready .any ops listed≠[]∧∀i∈Region.ready .any ops listed,i≠J∧OpM P mn ops i (AnyJ P mn ops J K fuel (listed.setIfInBounds i true)) a v
theorem B2j{K:Act→View→Prop}(hK:∀a u v,View.Le u v→K a u→K a v):∀(fuel:Nat) (listed:Array Bool) (a:Act) (u v:View),View.Le u v→AnyJ P mn ops J K fuel listed a u→AnyJ P mn ops J K fuel listed a v
 | 0,_,_,_,_,hl,h=>⟨h.1,hK _ _ _ hl h.2⟩
 | fuel+1,listed,a,u,v,hl,h=>⟨h.1,fun i hi=>⟨(h.2 i hi).1,opM_weaken (fun a u v hl' hA=>B2j hK fuel _ a u v hl' hA) hl (h.2 i hi).2⟩⟩
theorem anyJ_first{K:Act→View→Prop}(hK:∀a u v,View.Le u v→K a u→K a v){i:Nat}{oi:Oper}{x:Value}(hi:ops[i]?=some oi)(hsel:∀(j:Nat) (o:Oper) cs b,ops[j]?=some o→o.op≠.select cs b)(hJ:depB ops i ops.size J=true)(hiJ:i≠J) :
  ∀ (fuel:Nat) (listed:Array Bool) (a:Act) (v:View),B0p ops listed→listed.size=ops.size→
   (∀j oj,ops[j]?=some oj→j≠i→listed.getD j true=false→(∀e∈oj.after,Region.binds .any e=true→e.on≠i)→oi.apart ops oj=true)→
   i∈Region.ready .any ops listed→YieldsX P mn ops oi x a v→
   AnyJ P mn ops J K fuel (listed.setIfInBounds i true) (a.put oi.dst x) v→AnyJ P mn ops J K (fuel+1) listed a v:=by
 have notJ:∀{listed:Array Bool} {j:Nat},B0p ops listed→listed.size=ops.size→i∈Region.ready .any ops listed→j∈Region.ready .any ops listed→j≠J:=fun {listed j} hc hsz hr hj e=>by
  subst e
  obtain⟨_,oj,hoj,hall⟩:=mem_ready.1 hj
  have h1:=dep_listed hc hsz _ j oj hoj hall hJ
  have h0:=(mem_ready.1 hr).1
  rcases Nat.lt_or_ge i listed.size with h'|h'
  ·simp [h']at h0 h1;rw [h0]at h1;cases h1
  ·simp [Array.getElem?_eq_none h']at h1
 have hKK:=fun fuel listed a u v hl hA=>B2j (P:=P) (mn:=mn) (ops:=ops) (J:=J) hK fuel listed a u v hl hA
 intro fuel
 induction fuel with
 | zero=>
  intro listed a v hc hsz _ hr hy H
  refine⟨fun h=>(by rw [h]at hr;cases hr),fun j hj=>⟨notJ hc hsz hr hj,?_⟩⟩
  by_cases hji:j=i
  ·subst hji;exact hy.opM hi (hKK 0 _) H
  ·have:=ready_mono hj hji
   rw [H.1]at this
   exact absurd (List.mem_singleton.1 this) (notJ hc hsz hr hj)
 | succ fuel ih=>
  intro listed a v hc hsz hfree hr hy H
  refine⟨fun h=>(by rw [h]at hr;cases hr),fun j hj=>⟨notJ hc hsz hr hj,?_⟩⟩
  by_cases hji:j=i
  ·subst hji;exact hy.opM hi (hKK _ _) H
  ·have h1:=(H.2 j (ready_mono hj hji)).2
   obtain⟨hjun,oj,hoj,hall⟩:=mem_ready.1 hj
   have hnot:∀e∈oj.after,Region.binds .any e=true→e.on≠i:=fun e he hb heq=>by
    have h1:=hall e he hb
    have h0:=(mem_ready.1 hr).1
    rw [heq]at h1
    rcases Nat.lt_or_ge i listed.size with h'|h'
    ·simp [h']at h0 h1;rw [h0]at h1;cases h1
    ·simp [Array.getElem?_eq_none h']at h1
   have h2:=opM_put hoj (hfree j oj hoj hji hjun hnot) (fun cs b=>hsel i oi cs b hi) (fun cs b=>hsel j oj cs b hoj) hy h1
   have hfree':∀k ok,ops[k]?=some ok→k≠i→(listed.setIfInBounds j true).getD k true=false→
     (∀e∈ok.after,Region.binds .any e=true→e.on≠i)→oi.apart ops ok=true:=fun k ok hk hki hun hno=>by
    refine hfree k ok hk hki ?_ hno
    by_cases hjk:j=k
    ·subst hjk;exact hjun
    ·rw [getD_set_ne true hjk]at hun;exact hun
   refine B0v (fun a' u _ h3=>ih (listed.setIfInBounds j true) a' u (A4q hc hj hsz) (by simp [hsz]) hfree' (ready_mono hr (Ne.symm hji)) h3.1 ?_) h2
   rw [Array.setIfInBounds_comm _ _ hji]
   exact h3.2
def lexJB(ops:Array Oper)(J:Nat):Nat→Nat→Array Bool→Bool
 | 0,_,listed=>(Region.ready .any ops listed) == [J]
 | n+1,k,listed=>(Region.ready .any ops listed).contains k&&Region.free .any ops listed k&&depB ops k ops.size J && !Nat.beq k J&&lexJB ops J n (k+1) (listed.setIfInBounds k true)
theorem anyJ_lex{K:Act→View→Prop}(hK:∀a u v,View.Le u v→K a u→K a v)(hs:Region.noSelect ops=true):∀(l:List Oper) (k:Nat) (listed:Array Bool) (a:Act) (v:View),B0p ops listed→listed.size=ops.size→(∀j,j<l.length→l[j]?=ops[k+j]?)→
  lexJB ops J l.length k listed=true→LexX P mn ops K l a v→AnyJ P mn ops J K l.length listed a v
 | [],_,_,_,_,_,_,_,hB,h=>⟨by simpa [lexJB]using hB,h⟩
 | o::l,k,listed,a,v,hc,hsz,hl,hB,h=>by
  have h0:ops[k]?=some o:=by simpa using (hl 0 sM).symm
  simp only [List.length_cons,lexJB,Bool.and_eq_true]at hB
  obtain⟨⟨⟨⟨hr,hf⟩,hd⟩,hkJ⟩,hB'⟩:=hB
  have hr':k∈Region.ready .any ops listed:=by simpa using hr
  obtain⟨x,hy,hA⟩:=h
  exact anyJ_first hK h0 (Region.noSelect_spec hs) hd (fun e=>by subst e;simp at hkJ) l.length listed a v hc hsz (Region.free_spec h0 hf) hr' hy
   (anyJ_lex hK hs l (k+1) _ _ _ (A4q hc hr' hsz) (by simp [hsz]) (fun j hj=>by have:=hl (j+1) (by simp;omega);simpa [Nat.add_assoc,Nat.add_comm 1 j]using this) hB' hA)
section
variable{R:View→Goroutine→Prop}{b:Frame}{k:List Item}{cs:List Frame}
theorem opM_run{i:Nat}{rest:List Nat}{a:Act}{v:View}(hk:b.kind≠.early)(hd:∀o,ops[i]?=some o→A1t o.op=false)(h:OpM P mn ops i (fun a' u=>Run P mn R u (G (b.on a' (.inRegion ops rest::k)) cs)) a v):Run P mn R v (G (b.on a (.inRegion ops (i::rest)::k)) cs):=by
 unfold OpM at h
 split at h
 ·rename_i ho
  refine Run.ctl Y (g':=G (b.on a (.inRegion ops rest::k)) cs) (fun w=>?_) h
  simp [G,stepG,stepG.exec,Frame.on,ho,Frame.finish]
 ·rename_i o ho
  split at h
  ·rename_i hw
   have hst:=fun w=>A2a (P:=P) (mn:=mn) (b:=b) (k:=k) (cs:=cs) (w:=w) (rest:=rest) ho hw (.inr (hd o ho))
   have hk':((b.on a (.inRegion ops (i::rest)::k)).kind==CallKind.early)=false:=by simpa [Frame.on]using hk
   have hfin:∀x,(b.on a (.inRegion ops (i::rest)::k)).finish x=b.on (a.put o.dst x) (.inRegion ops rest::k):=fun x=>A2g b a ops i rest k o x ho
   refine A5s (m:=execOp a.eval o) Y h (fun nx v' hK=>?_) (fun x v' hE=>hE.elim)
   cases nx with
   | value x=>
    refine⟨G (b.on (a.put o.dst x) (.inRegion ops rest::k)) cs,fun w w' es hrun=>⟨seen P b.fn es++#[],?_,fun e he=>mem_seen (by simpa using he)⟩,hK.2⟩
    rw [hst w,←hfin x]
    unfold stepG.apply
    simp only [if_true,hrun,hk',Bool.false_eq_true,if_false]
    rfl
   | skip=>
    refine⟨G (b.on (a.put o.dst undef) (.inRegion ops rest::k)) cs,fun w w' es hrun=>⟨seen P b.fn es++#[],?_,fun e he=>mem_seen (by simpa using he)⟩,hK.2⟩
    rw [hst w,←hfin undef]
    unfold stepG.apply
    simp only [if_true,hrun,hk',Bool.false_eq_true,if_false]
    rfl
   | enter f args=>
    refine⟨G (Frame.enter P f args .normal) (b.on a (.inRegion ops (i::rest)::k)::cs),fun w w' es hrun=>⟨seen P b.fn es++#[],?_,fun e he=>mem_seen (by simpa using he)⟩,?_⟩
    ·rw [hst w]
     unfold stepG.apply
     simp only [if_true,hrun,hk',Bool.false_eq_true,if_false]
     rfl
    ·refine hK _ _ cs Y fun e v'' hR=>?_
     cases e with
     | ret x=>show Run _ _ _ _ (G (Frame.finish _ _) _);rw [hfin x];exact hR.2
     | pan ch=>exact hR.2.elim
   | _=>exact hK.elim
  ·rename_i hw
   refine Run.ctl Y (g':=G (b.on (a.put o.dst undef) (.inRegion ops rest::k)) cs) (fun w=>?_) h
   rw [←A2g b a ops i rest k o undef ho]
   simp [G,stepG,stepG.exec,Frame.on,ho,hw]
theorem anyJ_run{K:Act→View→Prop}(hk:b.kind≠.early)(hd:∀(i:Nat) o,ops[i]?=some o→A1t o.op=false)(hK:∀a u,K a u→Run P mn R u (G (b.on a (.inRegion ops [J]::k)) cs)):∀(fuel t:Nat) (listed:Array Bool) (a:Act) (v:View),AnyJ P mn ops J K fuel listed a v→
  Run P mn R v (G (b.on a (.inRegion ops (Region.linearise.go .any ops (fuel+1) t listed [])::k)) cs):=by
 intro fuel
 induction fuel with
 | zero=>
  intro t listed a v h
  have e:Region.linearise.go .any ops (0+1) t listed []=[J]:=by
   simp only [Region.linearise.go]
   change (match (Region.ready .any ops listed)[t % (Region.ready .any ops listed).length]? with
    | some i=>Region.linearise.go .any ops 0 (t / (Region.ready .any ops listed).length) (listed.setIfInBounds i true) [i]
    | none=>[].reverse)=[J]
   rw [h.1]
   simp [Nat.mod_one,Region.linearise.go]
  rw [e]
  exact hK _ _ h.2
 | succ fuel ih=>
  intro t listed a v h
  obtain⟨h₀,h₁⟩:=h
  rw [show Region.linearise.go .any ops (fuel+1+1) t listed []=(match (Region.ready .any ops listed)[t % (Region.ready .any ops listed).length]? with
   | some i=>Region.linearise.go .any ops (fuel+1) (t / (Region.ready .any ops listed).length) (listed.setIfInBounds i true) [i]
   | none=>[].reverse)from by simp only [Region.linearise.go];rfl]
  cases hi:(Region.ready .any ops listed)[t % (Region.ready .any ops listed).length]? with
  | none=>
   exfalso
   cases hr:Region.ready .any ops listed with
   | nil=>exact h₀ hr
   | cons x xs=>
    rw [hr]at hi
    have hlt:t % (x::xs).length<(x::xs).length:=Nat.mod_lt _ sM
    rw [List.getElem?_eq_getElem hlt]at hi
    cases hi
  | some i=>
   simp only []
   rw [linearise_go_acc,List.reverse_singleton,List.singleton_append]
   exact opM_run hk (hd i) (B0v (fun a u _ hA=>ih _ _ a u hA) (h₁ i (List.mem_of_getElem? hi)).2)
end
section
variable{R:View→Goroutine→Prop}[A:Abs P mn R]{n:Nat}{b:Frame}{k:List Item}{cs:List Frame}{ρ:Regs}{v:View}{ds:List Deferred}{β:A0e}
def drawJB(ops:Array Oper)(J m:Nat):Bool:=Region.noSelect ops&&lexJB ops J m 0 (Array.replicate ops.size false)&&Nat.beq (m+1) ops.size&&ops.all (fun o=>!A1t o.op)
theorem R_drawJ{id:Nat}(J:Nat)(hk:b.kind≠.early)(hb:Bok β v)(hm:P.follows .mixedOrders=true)(hB:drawJB ops J J=true)
  (h:XL P mn n ops (Then R n b (.inRegion ops [J]::k) cs) (ops.toList.take J) ⟨ds,ρ,β⟩ v):XG (R (v.union (A0c β))) n b (.code (.region id ops true)::k) cs ds ρ:=fun a hf=>by
 obtain⟨l,hl0⟩:∃l,l=ops.toList.take J:=⟨_,rfl⟩
 have hlJ:l.length=J:=by
  simp only [drawJB,Bool.and_eq_true]at hB
  have:=Nat.eq_of_beq_eq_true hB.1.2
  rw [hl0,List.length_take,Array.length_toList];omega
 have hl:ops.toList.take l.length=l:=by rw [hlJ,←hl0]
 rw [←hl0]at h
 have hB:drawJB ops J l.length=true:=by rw [hlJ];exact hB
 simp only [drawJB,Bool.and_eq_true]at hB
 obtain⟨⟨⟨hb1,hb2⟩,hb3⟩,hb4⟩:=hB
 have hsz:l.length+1=ops.size:=Nat.eq_of_beq_eq_true hb3
 have hd:∀(i:Nat) o,ops[i]?=some o→A1t o.op=false:=fun i o ho=>by
  have:=Array.all_eq_true_iff_forall_mem.1 hb4 o (Array.mem_of_getElem? ho)
  simpa using this
 have hx:=h a ⟨hf.size,hf.defers,hf.get⟩ hb
 have hJ:=anyJ_lex (P:=P) (ops:=ops) (J:=J) (K:=fun a u=>Post n (Then R n b (.inRegion ops [J]::k) cs) .normal a u) (fun a u v hl hp=>by obtain⟨σ,u',h1,h2,h3,h4⟩:=hp;exact⟨σ,u',h1,h2,h3,h4.trans hl⟩) hb1 l 0 (Array.replicate ops.size false) a (v.union (A0c β))
  (fun j o ho hj=>by
   simp only [Array.getD_eq_getD_getElem?,Array.getElem?_replicate]at hj
   rw [if_pos (Array.getElem?_eq_some_iff.1 ho).1]at hj
   cases hj) sM (fun j hj=>by
   rw [←Array.getElem?_toList,Nat.zero_add]
   conv=>{lhs;rw [←hl] }
   rw [List.getElem?_take,if_pos hj]) hb2 hx
 refine A.run ?_
 refine Run.mk Y fun w hw=>?_
 refine⟨G (b.on a (.inRegion ops (Region.schedule (P.follows .mixedOrders) ops (w.tape w.drawn (.order b.fn id)))::k)) cs,{w with drawn:=w.drawn+1 },#[],v.union (A0c β),?_,?_,?_⟩
 ·simp [G,stepG,stepG.exec,Frame.on,choose,Sem.run,Question.forced,Question.cut]
 ·exact⟨hw,Y,Y,Y,Nat.le_refl _,fun _ _ _=>rfl,fun _ h=>.inl h,fun _ h=>.inl h,by simp⟩
 ·simp only [Region.schedule,hm,Bool.true_or,if_true]
  show Run _ _ _ _ (G (b.on a (.inRegion ops (Region.linearise.go .any ops ops.size _ (Array.replicate ops.size false) [])::k)) cs)
  rw [←hsz]
  rw [hsz]
  have:=anyJ_run (R:=R) (b:=b) (k:=k) (cs:=cs) hk hd (fun a u hp=>by
   obtain⟨σ,u',h1,h2,h3,h4⟩:=hp
   exact .stop h4 (h1.2 h3 a ⟨h2.size,h2.defers,h2.get⟩)) l.length (w.tape w.drawn (.order b.fn id)) _ a _ hJ
  rw [hsz]at this
  exact this
end
end
section
variable{P:Program}{mn:Who}(T:Tab P){rd:Option Nat}{n:Nat}{Q:Exit→St→View→Prop}{ds:List Deferred}{ρ:Regs}{β:A0e}{v:View}{K:St→View→Prop}
 {ops:Array Oper}{i:Nat}{d:Nat}{ty:TypeId}{pos:String}{af:Array Edge}{gu:Option (Nat×Bool)}
theorem A_clear0{t e:TypeId}{y:Operand}{a:Option Addr}{cap:Nat}(ho:ops[i]?=some ⟨none,.call {callee:=.builtin .clear,args:=#[y],argTypes:=#[t] },ty,pos,af,gu⟩)(hw:A0p ops gu ρ=some true)
  (hy:ρ.val y=some (.slice a 0 cap))(ht:T.und t=some (.slice e))(h:K ⟨ds,ρ,β⟩ v):XOp P mn rd n ops i Q K ⟨ds,ρ,β⟩ v:=by
 refine A1w ho (A0j hw) (.inr Y) Y fun ev hev hbk=>?_
 unfold execOp
 simp only [resolve,A0a,A0h,invoke,builtin]
 have h0:(#[y]:Array Operand).map ev=#[.slice a 0 cap]:=by simp [hev _ _ hy]
 rw [h0]
 unfold Builtin.clear_
 cases a<;>(simp only [List.getElem?_toArray,List.getElem?_cons_zero,A0a,A1k T ht,A0h];exact⟨β,v,⟨hbk,Le.refl _⟩,h⟩)
theorem A_clearS{t e:TypeId}{y:Operand}{a:Option Addr}{len cap k:Nat}{z:Value}{cs:List Value}{seg rest:A0e}(ho:ops[i]?=some ⟨none,.call {callee:=.builtin .clear,args:=#[y],argTypes:=#[t] },ty,pos,af,gu⟩)(hw:A0p ops gu ρ=some true)
  (hy:ρ.val y=some (.slice a len cap))(ht:T.und t=some (.slice e))(hz:T.zer e=some z)(hzs:z.cells.size=k)(hone:z.cells.toList.all A2k=true)(hS:OwnS e k seg a len cap cs)
  (h:∀seg',OwnS e k seg' a 0 cap []→K ⟨ds,ρ,seg'++rest⟩ v):XOp P mn rd n ops i Q K ⟨ds,ρ,seg++rest⟩ v:=by
 cases hS with
 | nil=>exact A_clear0 T ho hw hy ht (h [] .nil)
 | @box b c _ _ _ h1 h2 h3 h4=>
  cases len with
  | zero=>exact A_clear0 T ho hw hy ht (h [(b,c,e)] (.box sM (Nat.zero_le _) h3 (fun i x hx=>by simp at hx)))
  | succ len=>
   subst hzs
   refine A_clear T ho hw hy ht hz hone (InB.head (t:=e)) ?_ SetB.head (h [(b,_,e)] (.box sM (Nat.zero_le _) ?_ (fun i x hx=>by simp at hx)))
   ·rw [h3,Nat.zero_add];exact Nat.mul_le_mul_right _ h2
   ·rw [A3l,h3]
end
theorem A6v{bin:A0e}:∀p,cnt p bin=cnt p (bin++[]):=fun p=>by rw [List.append_nil]
theorem split_cons{x:Nat×Array Value×TypeId}{β bin rest:A0e}(h:∀p,cnt p β=cnt p (bin++rest)):∀p,cnt p (x::β)=cnt p (bin++x::rest):=fun p=>by
 have:=h p
 simp only [A0n,A3u]at this⊢
 omega
section
variable{P:Program}{mn:Who}{rd:Option Nat}{n:Nat}{ops:Array Oper}{i:Nat}{l:List Oper}{c:Code}{Q:Exit→St→View→Prop}{ds:List Deferred}{ρ:Regs}{β:A0e}{v:View}
theorem Q_front{bin rest:A0e}(hp:∀p,cnt p β=cnt p (bin++rest))(h:XR P mn rd n ops i l Q ⟨ds,ρ,bin++rest⟩ v):XR P mn rd n ops i l Q ⟨ds,ρ,β⟩ v:=fun hd a hf hb=>by
 obtain⟨hb1,he⟩:=A3v (A2e hp) hb
 rw [←he]
 exact h hd a ⟨hf.size,hf.defers,hf.get⟩ hb1
end
end Go.Pal
namespace Go.Pal
open Go Go.Conc View
section
variable{P:Program}{mn:Who}(T:Tab P){n:Nat}{Q:Exit→St→View→Prop}{ds:List Deferred}{ρ:Regs}{β:A0e}{v:View}{ops:Array Oper}{i:Nat}{d:Nat}{ty:TypeId}{pos:String}{af:Array Edge}{gu:Option (Nat×Bool)}
 {S:List Rec}{done:List Nat}{ms:List Nat}{v0:View}{todo:List Nat}
theorem S_slice_h{t e:TypeId}{y z1:Operand}{a:Option Addr}{len cap h' sz:Nat}{k1:IntKind}(ho:ops[i]?=some ⟨some d,.slice t y none (some z1) none,ty,pos,af,gu⟩)(hw:A0p ops gu ρ=some true)(hn:Nat.blt d n=true)(hB:A9k ops ms done i=true)
  (hy:ρ.val y=some (.slice a len cap))(ht:T.und t=some (.slice e))(hs:T.siz e=some sz)(hhi:ρ.val z1=some (.int k1 h'))(h2:h'≤cap)
  (h:XS P mn n ops ms v0 Q todo S (i::done) ⟨ds,(d,.slice (if cap=0 then a else a.map (·.add (0*sz))) (h'-0) (cap-0))::ρ,β⟩ v):XS P mn n ops ms v0 Q (i::todo) S done ⟨ds,ρ,β⟩ v:=
 A5d (vq:=fun _=>none) (x:=.slice (if cap=0 then a else a.map (·.add (0*sz))) (h'-0) (cap-0)) ho hn hB (fun a hf=>.inl ⟨A0m hf (A0j hw),fun u _=>by
  unfold QAt execOp
  simp only [Option.map_none,Option.map_some,Instr.sliceAt,Instr.slice,Instr.sliceBounds,A0k hf _ _ hy,A0k hf _ _ hhi,A0a,A0h,A1k T ht]
  refine A7g h2 ?_
  simp only [A4f T hs]
  exact⟨Le.refl _,trivial⟩⟩) (fun _ _ b x e=>by cases e) (B1m fun b x e=>by cases e) h
end
section
variable{P:Program}{mn:Who}{rd:Option Nat}{n:Nat}{ops:Array Oper}{i:Nat}{Q:Exit→St→View→Prop}{K:St→View→Prop}{σ:St}{v:View}
theorem A_bok(h:Bok σ.β v→XOp P mn rd n ops i Q K σ v):XOp P mn rd n ops i Q K σ v:=fun a hf hb=>h hb a hf hb
end
section
variable{P:Program}{mn:Who}{rd:Option Nat}{n:Nat}{Q:Exit→St→View→Prop}{ds:List Deferred}{ρ:Regs}{β:A0e}{v:View}{K:St→View→Prop}
 {ops:Array Oper}{i:Nat}{d:Nat}{ty:TypeId}{pos:String}{af:Array Edge}{gu:Option (Nat×Bool)}
theorem A_callP{f:Operand}{args:Array Operand}{ats:Array TypeId}{k:FuncId}{first captured:Array Value}{xs ys:List Value}{R:End→A0e→Prop}(bin rest:A0e)(ho:ops[i]?=some ⟨some d,.call {callee:=.value f,args:=args,argTypes:=ats },ty,pos,af,gu⟩)(hk:A0i P k)(hw:A0p ops gu ρ=some true)(hn:Nat.blt d n=true)
  (hf:ρ.val f=some (.func (.func k) first captured))(hxs:A2s ρ.val args.toList=some xs)(hys:first.toList++(xs++captured.toList)=ys)
  (hsplit:∀p,cnt p β=cnt p (bin++rest))(hc:CallsB P mn k ys.toArray R bin (v.union (A0c rest)))
  (hr:∀x β',R (.ret x) β'→K ⟨ds,(d,x)::ρ,β'++rest⟩ v)(hp:∀ch β',R (.pan ch) β'→Q (.panic ch) ⟨ds,ρ,β'++rest⟩ v):XOp P mn rd n ops i Q K ⟨ds,ρ,β⟩ v:=
 A_call bin rest ho hw hn hf hxs hk hsplit (by
  have:first++xs.toArray++captured=ys.toArray:=by rw [←hys];apply Array.ext';simp
  rw [this];exact hc) hr hp
end
section
variable{P:Program}{mn:Who}
theorem disj_le{u v F:View}(h:Disj v F)(hl:u.Le v):Disj u F:=fun b=>(h b).imp (fun e=>by
 cases hu:u b with
 | none=>rfl
 | some x=>rw [hl b x hu]at e;cases e) id
end
section
variable{P:Program}{mn:Who}{rd:Option Nat}{n:Nat}{Q:Exit→St→View→Prop}{ds:List Deferred}{ρ:Regs}{β:A0e}{v:View}{K:St→View→Prop}
 {ops:Array Oper}{i:Nat}{d:Nat}{ty:TypeId}{pos:String}{af:Array Edge}{gu:Option (Nat×Bool)}
theorem A_callX{f:Operand}{args:Array Operand}{ats:Array TypeId}{k:FuncId}{first captured:Array Value}{xs ys:List Value}{R:Value→View→Prop}(bin rest:A0e)(ho:ops[i]?=some ⟨some d,.call {callee:=.value f,args:=args,argTypes:=ats },ty,pos,af,gu⟩)(hk:A0i P k)(hw:A0p ops gu ρ=some true)(hn:Nat.blt d n=true)
  (hf:ρ.val f=some (.func (.func k) first captured))(hxs:A2s ρ.val args.toList=some xs)(hys:first.toList++(xs++captured.toList)=ys)
  (hsplit:∀p,cnt p β=cnt p (rest++bin))(hc:Bok bin v→CallsX P mn k ys.toArray (fun e u=>∃x,e = .ret x∧R x u) (v.union (A0c bin)))
  (hr:∀x u,R x u→K ⟨ds,(d,x)::ρ,rest⟩ u):XOp P mn rd n ops i Q K ⟨ds,ρ,β⟩ v:=by
 refine A1w ho (A0j hw) (.inr Y) hn fun ev hev hbk=>?_
 have ha:args.map ev=xs.toArray:=Array.toList_inj.1 (by simpa using A2c hev hxs)
 unfold execOp
 simp only [resolve,Deferred.ofValue,hev _ _ hf,ha,A0a,A0h,invoke]
 obtain⟨hb1,he⟩:=A3v (A2e hsplit) hbk
 obtain⟨hb2,hb3⟩:=bok_append.1 hb1
 have hc':=(hc hb2).frame hb3.disj
 have hys':first++xs.toArray++captured=ys.toArray:=by rw [←hys];apply Array.ext';simp
 rw [←A0v hb1,he,←hys']at hc'
 refine A4t hk (CallsX.mono hc' fun e w hR=>⟨w,Le.refl _,?_⟩)
 obtain⟨u,rfl,hd,x,rfl,hR⟩:=hR
 exact⟨rest,u,⟨⟨hb3.nodup,hd⟩,Le.refl _⟩,hr x u hR⟩
end
theorem vset_off{x:View}{b c:Nat}{p:Bool}{o:Obj}(h:c≠b):(x.set b p o) c=x c:=by unfold View.set;rw [if_neg h]
abbrev coll(r:Nat):Deferred:={target:=.collected r,args:=#[] }
section
variable{P:Program}{mn:Who}{Stop:View→Goroutine→Prop}{cs:List Frame}
theorem run_marks:∀(rs:List Nat) (w:View) (fr:Frame),fr.mode = .returning→fr.defers=rs.map coll→rs.Nodup→(∀r∈rs,w r=some (true,.deferred (some [])))→
  (∀w',(∀b,b∉rs→w' b=w b)→Run P mn Stop w' (G {fr with defers:=[] } cs))→Run P mn Stop w (G fr cs)
 | [],w,fr,hm,hd,_,_,h=>by
  have:=h w fun _ _=>rfl
  have e:({fr with defers:=[] }:Frame)=fr:=by cases fr;simp only [List.map_nil]at hd;subst hd;rfl
  rw [e]at this
  exact this
 | r::rs,w,fr,hm,hd,hn,hw,h=>by
  rw [List.nodup_cons]at hn
  refine A8j hm hd (hw r sM) ?_
  refine run_marks rs _ {fr with defers:=rs.map coll } hm rfl hn.2 (fun r' hr'=>?_) (fun w' hw'=>?_)
  ·rw [vset_off (fun e:r'=r=>hn.1 (e ▸ hr'))]
   exact hw r' (by simp [hr'])
  ·refine h w' fun b hb=>?_
   rw [List.mem_cons,not_or]at hb
   rw [hw' b hb.2,vset_off hb.1]
end
def A6l(P:Program)(mn:Who)(k:FuncId)(args:List Value)(R:Value→View→Prop)(v:View):Prop:=CallsX P mn k args.toArray (fun e u=>∃x,e = .ret x∧v.Le u∧R x u) v
section
variable{P:Program}{mn:Who}(T:Tab P){u v:View}{n:Nat}{ρ:Regs}{β:A0e}
def FnV(fn:Func)(R:Value→View→Prop)(v:View):Exit→St→View→Prop
 | .normal,σ,u | .ret,σ,u=>σ.ds=[]∧∃xs,ResL T σ.ρ σ.β fn.results.toList xs∧(Bok σ.β u→v.Le (u.union (A0c σ.β))∧R (A3t xs) (u.union (A0c σ.β)))
 | _,_,_=>False
theorem A2m{fn:Func}{R:Value→View→Prop}{xs:List Value}(h1:ResL T ρ β fn.results.toList xs)(hl:v.Le u)(h2:Bok β u→u.Le (u.union (A0c β))→R (A3t xs) (u.union (A0c β))):FnV T fn R v .ret ⟨[],ρ,β⟩ u:=⟨Y,xs,h1,fun hb=>⟨hl.trans (A0g _ _),h2 hb (A0g _ _)⟩⟩
theorem callV_fnB{f:FuncId}{fn:Func}{c:Code}{args:List Value}{R:Value→View→Prop}(hf:P.funcs[f]?=some fn)(hb:fn.body=some c)(hn:args.length≤fn.ntmps)(hl:v.Le (u.union (A0c β)))(hbk:Bok β u)
  (h:XC P mn none fn.ntmps c (FnV T fn R v) ⟨[],A2l 0 args,β⟩ u):CallsX P mn f args.toArray (fun e u=>∃x,e = .ret x∧v.Le u∧R x u) (u.union (A0c β)):=by
 refine A7u hf hb (A4m (h _ (B1y hn) hbk) ?_)
 rintro e a w ⟨⟨ds',ρ',β'⟩,u',hq,hf',hb',hl'⟩
 refine⟨u'.union (A0c β'),hl',?_⟩
 have hret:∀xs,ResL T ρ' β' fn.results.toList xs→(Bok β' u'→v.Le (u'.union (A0c β'))∧R (A3t xs) (u'.union (A0c β')))→SemX P (results fn a.tmps) (fun x v'=>∃y,End.ret x = .ret y∧v.Le v'∧R y v') (fun _ _=>False) (u'.union (A0c β')):=by
  intro xs hr hR
  obtain⟨h1,h2⟩:=hR hb'
  unfold results
  rw [A0a,Array.mapM_eq_mapM_toList,sx_map]
  refine sx_resL T hf' hb' (Le.refl _) hr ?_
  rw [A0h]
  refine⟨_,Y,h1,?_⟩
  match xs,h2 with
  | [],h2=>simpa [A3t]using h2
  | [x],h2=>simpa [A3t]using h2
  | x::y::r,h2=>simpa [A3t]using h2
 cases e with
 | normal=>obtain⟨h1,xs,h2,h3⟩:=hq;exact⟨hf'.defers.trans h1,hret xs h2 h3⟩
 | ret=>obtain⟨h1,xs,h2,h3⟩:=hq;exact⟨hf'.defers.trans h1,hret xs h2 h3⟩
 | panic ch=>exact hq.elim
 | exit id=>exact hq.elim
 | goto l=>exact hq.elim
 | outgrown=>exact hq.elim
theorem A3k{f:FuncId}{fn:Func}{c:Code}{args:List Value}{R:Value→View→Prop}(hf:P.funcs[f]?=some fn)(hb:fn.body=some c)(hn:args.length≤fn.ntmps)
  (h:XC P mn none fn.ntmps c (FnV T fn R v) ⟨[],A2l 0 args,[]⟩ v):A6l P mn f args R v:=by
 have:=callV_fnB T (R:=R) (v:=v) (β:=[]) hf hb hn (A0g _ _) (A4c _) h
 rwa [A1r]at this
theorem CallsB.toV{k:FuncId}{args:List Value}{R:Value→A0e→Prop}{R':Value→View→Prop}(h:CallsB P mn k args.toArray (RetB R) [] v)(hR:∀x β',R x β'→Bok β' v→R' x (v.union (A0c β'))):A6l P mn k args R' v:=by
 have h1:=h (A4c _)
 rw [A1r]at h1
 refine CallsX.mono h1 fun e w ⟨β',h2,h3,h4⟩=>⟨v.union (A0c β'),h4,?_⟩
 cases e with
 | ret x=>exact⟨x,rfl,A0g _ _,hR x β' h2 h3⟩
 | pan ch=>exact h2.elim
end
section
variable{P:Program}{mn:Who}{rd:Option Nat}{n:Nat}{Q:Exit→St→View→Prop}{ds:List Deferred}{ρ:Regs}{β:A0e}{v:View}{K:St→View→Prop}
 {ops:Array Oper}{i:Nat}{d:Nat}{ty:TypeId}{pos:String}{af:Array Edge}{gu:Option (Nat×Bool)}
theorem A_callV{f:Operand}{args:Array Operand}{ats:Array TypeId}{k:FuncId}{first captured:Array Value}{xs ys:List Value}{R:Value→View→Prop}(bin rest:A0e)(ho:ops[i]?=some ⟨some d,.call {callee:=.value f,args:=args,argTypes:=ats },ty,pos,af,gu⟩)(hk:A0i P k)(hw:A0p ops gu ρ=some true)(hn:Nat.blt d n=true)
  (hf:ρ.val f=some (.func (.func k) first captured))(hxs:A2s ρ.val args.toList=some xs)(hys:first.toList++(xs++captured.toList)=ys)
  (hsplit:∀p,cnt p β=cnt p (rest++bin))(hc:Bok bin v→A6l P mn k ys R (v.union (A0c bin)))
  (hr:∀x u,(v.union (A0c bin)).Le u→R x u→K ⟨ds,(d,x)::ρ,rest⟩ u):XOp P mn rd n ops i Q K ⟨ds,ρ,β⟩ v:=
 A_callX (R:=fun x u=>(v.union (A0c bin)).Le u∧R x u) bin rest ho hk hw hn hf hxs hys hsplit (fun hb=>CallsX.mono (hc hb) fun e w ⟨x,h1,h2,h3⟩=>⟨w,Le.refl _,x,h1,h2,h3⟩) (fun x u h=>hr x u h.1 h.2)
theorem A1p{f:Operand}{args:Array Operand}{ats:Array TypeId}{k:FuncId}{first captured:Array Value}{xs ys:List Value}{R:Value→View→Prop}(ho:ops[i]?=some ⟨some d,.call {callee:=.value f,args:=args,argTypes:=ats },ty,pos,af,gu⟩)(hk:A0i P k)(hw:A0p ops gu ρ=some true)(hn:Nat.blt d n=true)
  (hf:ρ.val f=some (.func (.func k) first captured))(hxs:A2s ρ.val args.toList=some xs)(hys:first.toList++(xs++captured.toList)=ys)(hc:A6l P mn k ys R v)
  (hr:∀x u,v.Le u→R x u→K ⟨ds,(d,x)::ρ,β⟩ u):XOp P mn rd n ops i Q K ⟨ds,ρ,β⟩ v:=
 A_callV (R:=R) [] β ho hk hw hn hf hxs hys (fun p=>by rw [List.append_nil]) (fun _=>by rw [A1r];exact hc) (fun x u hl hR=>hr x u (by rwa [A1r]at hl) hR)
end
theorem OwnS.two{e:TypeId}{k:Nat}{seg:A0e}{a:Option Addr}{len cap:Nat}{cs:List Value}(h:OwnS e k seg a len cap cs) :
  (seg=[]∧a=none∧len=0∧cap=0∧cs=[])∨∃b c,seg=[(b,c,e)]∧a=some ⟨b,0,none⟩∧OwnS e k [(b,c,e)] (some ⟨b,0,none⟩) len cap cs:=by
 cases h with
 | nil=>exact .inl ⟨rfl,rfl,rfl,rfl,rfl⟩
 | box h1 h2 h3 h4=>exact .inr ⟨_,_,rfl,rfl,.box h1 h2 h3 h4⟩
attribute [irreducible] FnV
end Go.Pal
end
section
namespace Go.Proofs.YtclejblcnfaeaaaGreatDoor
open Go Go.Pal Go.Conc View
set_option maxHeartbeats 4000000
structure Hold(q:Prop):Prop where h:q
theorem cs{p q:Prop}(h:q)(k:Hold q→p:=by(intro h;(first|((with_reducible apply Q_add tab);(focus (exact Y));(focus (exact Y));(focus (exact Y));(focus (exact Y));(focus (omega));(focus (omega)))|((with_reducible apply Q_sub tab);(focus (exact Y));(focus (exact Y));(focus (exact Y));(focus (exact Y));(focus (omega));(focus (omega)))|((with_reducible apply Q_loadN tab);(focus (exact Y));(focus (exact Y));(focus (exact Y));(focus (((repeat (first|exact InB.head|apply InB.tail|(with_reducible apply InB.app)|(with_reducible apply InB.appA)));done)));(focus (exact Y)))|((with_reducible apply Q_store tab);(focus (exact Y));(focus (exact Y));(focus (exact Y));(focus (exact Y));(focus (exact Y));(focus (exact Y));(focus (((repeat (first|exact InB.head|apply InB.tail|(with_reducible apply InB.app)|(with_reducible apply InB.appA)));done)));(focus (exact Y));(focus (((repeat (first|exact SetB.head|apply SetB.tail|(with_reducible apply SetB.app)|(with_reducible apply SetB.appA)));done))))|((with_reducible apply B2o tab);(focus (exact Y));(focus (exact Y));(focus (exact Y)))|(with_reducible apply Q_nil)|((with_reducible apply Q_skip);(focus (exact Y));(focus (exact Y)))|(with_reducible apply A4d)|(with_reducible apply A4i)|(with_reducible apply C_block)|(with_reducible apply A5r)|(with_reducible apply XC_ret)|(with_reducible apply A8y)|(with_reducible apply Seq_ret)|(with_reducible apply B1a)|(with_reducible apply B2n)|(with_reducible apply A8u)|(with_reducible apply A7c)|(with_reducible apply B2l)|(with_reducible apply XC_label)|(with_reducible apply XC_scope)|(with_reducible apply A7o)|((with_reducible apply A6e);(focus (exact Y)))|((with_reducible apply B1b);(focus (exact Y)))|((with_reducible apply A5o);(focus (exact Y)))|((with_reducible apply A4p);(focus (exact Y)))|((with_reducible apply C_lex' A1e);(focus (exact Y));(focus (kernel_rfl)))|((with_reducible apply L_add tab);(focus (exact Y));(focus (exact Y));(focus (exact Y));(focus (exact Y));(focus (omega));(focus (omega)))|((with_reducible apply L_sub tab);(focus (exact Y));(focus (exact Y));(focus (exact Y));(focus (exact Y));(focus (omega));(focus (omega)))|((with_reducible apply L_pure tab);(focus (exact Y));(focus (exact Y));(focus (exact Y)))|(with_reducible apply XL_nil)|((with_reducible apply L_loadN tab);(focus (exact Y));(focus (exact Y));(focus (exact Y));(focus (((repeat (first|exact InB.head|apply InB.tail|(with_reducible apply InB.app)|(with_reducible apply InB.appA)));done)));(focus (exact Y)))|((with_reducible apply L_skip);(focus (exact Y));(focus (exact Y))));(repeat (first|((with_reducible apply Q_add tab);(focus (exact Y));(focus (exact Y));(focus (exact Y));(focus (exact Y));(focus (omega));(focus (omega)))|((with_reducible apply Q_sub tab);(focus (exact Y));(focus (exact Y));(focus (exact Y));(focus (exact Y));(focus (omega));(focus (omega)))|((with_reducible apply Q_loadN tab);(focus (exact Y));(focus (exact Y));(focus (exact Y));(focus (((repeat (first|exact InB.head|apply InB.tail|(with_reducible apply InB.app)|(with_reducible apply InB.appA)));done)));(focus (exact Y)))|((with_reducible apply Q_store tab);(focus (exact Y));(focus (exact Y));(focus (exact Y));(focus (exact Y));(focus (exact Y));(focus (exact Y));(focus (((repeat (first|exact InB.head|apply InB.tail|(with_reducible apply InB.app)|(with_reducible apply InB.appA)));done)));(focus (exact Y));(focus (((repeat (first|exact SetB.head|apply SetB.tail|(with_reducible apply SetB.app)|(with_reducible apply SetB.appA)));done))))|((with_reducible apply B2o tab);(focus (exact Y));(focus (exact Y));(focus (exact Y)))|(with_reducible apply Q_nil)|((with_reducible apply Q_skip);(focus (exact Y));(focus (exact Y)))|(with_reducible apply A4d)|(with_reducible apply A4i)|(with_reducible apply C_block)|(with_reducible apply A5r)|(with_reducible apply XC_ret)|(with_reducible apply A8y)|(with_reducible apply Seq_ret)|(with_reducible apply B1a)|(with_reducible apply B2n)|(with_reducible apply A8u)|(with_reducible apply A7c)|(with_reducible apply B2l)|(with_reducible apply XC_label)|(with_reducible apply XC_scope)|(with_reducible apply A7o)|((with_reducible apply A6e);(focus (exact Y)))|((with_reducible apply B1b);(focus (exact Y)))|((with_reducible apply A5o);(focus (exact Y)))|((with_reducible apply A4p);(focus (exact Y)))|((with_reducible apply C_lex' A1e);(focus (exact Y));(focus (kernel_rfl)))|((with_reducible apply L_add tab);(focus (exact Y));(focus (exact Y));(focus (exact Y));(focus (exact Y));(focus (omega));(focus (omega)))|((with_reducible apply L_sub tab);(focus (exact Y));(focus (exact Y));(focus (exact Y));(focus (exact Y));(focus (omega));(focus (omega)))|((with_reducible apply L_pure tab);(focus (exact Y));(focus (exact Y));(focus (exact Y)))|(with_reducible apply XL_nil)|((with_reducible apply L_loadN tab);(focus (exact Y));(focus (exact Y));(focus (exact Y));(focus (((repeat (first|exact InB.head|apply InB.tail|(with_reducible apply InB.app)|(with_reducible apply InB.appA)));done)));(focus (exact Y)))|((with_reducible apply L_skip);(focus (exact Y));(focus (exact Y)))));exact h.h)):p:=k ⟨h⟩
theorem cr{p q:Prop}(h:q)(k:Hold q→p:=by(intro h;(first|((with_reducible apply Q_add tab);(focus (exact Y));(focus (exact Y));(focus (exact Y));(focus (exact Y));(focus (omega));(focus (omega)))|((with_reducible apply Q_sub tab);(focus (exact Y));(focus (exact Y));(focus (exact Y));(focus (exact Y));(focus (omega));(focus (omega)))|((with_reducible apply Q_loadN tab);(focus (exact Y));(focus (exact Y));(focus (exact Y));(focus (((repeat (first|exact InB.head|apply InB.tail|(with_reducible apply InB.app)|(with_reducible apply InB.appA)));done)));(focus (exact Y)))|((with_reducible apply Q_store tab);(focus (exact Y));(focus (exact Y));(focus (exact Y));(focus (exact Y));(focus (exact Y));(focus (exact Y));(focus (((repeat (first|exact InB.head|apply InB.tail|(with_reducible apply InB.app)|(with_reducible apply InB.appA)));done)));(focus (exact Y));(focus (((repeat (first|exact SetB.head|apply SetB.tail|(with_reducible apply SetB.app)|(with_reducible apply SetB.appA)));done))))|((with_reducible apply B2o tab);(focus (exact Y));(focus (exact Y));(focus (exact Y)))|(with_reducible apply Q_nil)|((with_reducible apply Q_skip);(focus (exact Y));(focus (exact Y)))|(with_reducible apply A4d)|(with_reducible apply C_seqR)|(with_reducible apply C_block)|(with_reducible apply A5r)|(with_reducible apply XC_ret)|(with_reducible apply A8y)|(with_reducible apply Seq_ret)|(with_reducible apply B1a)|(with_reducible apply B2n)|(with_reducible apply A8u)|(with_reducible apply A7c)|(with_reducible apply B2l)|(with_reducible apply XC_label)|(with_reducible apply XC_scope)|(with_reducible apply A7o)|((with_reducible apply A6e);(focus (exact Y)))|((with_reducible apply B1b);(focus (exact Y)))|((with_reducible apply A5o);(focus (exact Y)))|((with_reducible apply A4p);(focus (exact Y)))|((with_reducible apply C_lex' A1e);(focus (exact Y));(focus (kernel_rfl)))|((with_reducible apply L_add tab);(focus (exact Y));(focus (exact Y));(focus (exact Y));(focus (exact Y));(focus (omega));(focus (omega)))|((with_reducible apply L_sub tab);(focus (exact Y));(focus (exact Y));(focus (exact Y));(focus (exact Y));(focus (omega));(focus (omega)))|((with_reducible apply L_pure tab);(focus (exact Y));(focus (exact Y));(focus (exact Y)))|(with_reducible apply XL_nil)|((with_reducible apply L_loadN tab);(focus (exact Y));(focus (exact Y));(focus (exact Y));(focus (((repeat (first|exact InB.head|apply InB.tail|(with_reducible apply InB.app)|(with_reducible apply InB.appA)));done)));(focus (exact Y)))|((with_reducible apply L_skip);(focus (exact Y));(focus (exact Y))));(repeat (first|((with_reducible apply Q_add tab);(focus (exact Y));(focus (exact Y));(focus (exact Y));(focus (exact Y));(focus (omega));(focus (omega)))|((with_reducible apply Q_sub tab);(focus (exact Y));(focus (exact Y));(focus (exact Y));(focus (exact Y));(focus (omega));(focus (omega)))|((with_reducible apply Q_loadN tab);(focus (exact Y));(focus (exact Y));(focus (exact Y));(focus (((repeat (first|exact InB.head|apply InB.tail|(with_reducible apply InB.app)|(with_reducible apply InB.appA)));done)));(focus (exact Y)))|((with_reducible apply Q_store tab);(focus (exact Y));(focus (exact Y));(focus (exact Y));(focus (exact Y));(focus (exact Y));(focus (exact Y));(focus (((repeat (first|exact InB.head|apply InB.tail|(with_reducible apply InB.app)|(with_reducible apply InB.appA)));done)));(focus (exact Y));(focus (((repeat (first|exact SetB.head|apply SetB.tail|(with_reducible apply SetB.app)|(with_reducible apply SetB.appA)));done))))|((with_reducible apply B2o tab);(focus (exact Y));(focus (exact Y));(focus (exact Y)))|(with_reducible apply Q_nil)|((with_reducible apply Q_skip);(focus (exact Y));(focus (exact Y)))|(with_reducible apply A4d)|(with_reducible apply C_seqR)|(with_reducible apply C_block)|(with_reducible apply A5r)|(with_reducible apply XC_ret)|(with_reducible apply A8y)|(with_reducible apply Seq_ret)|(with_reducible apply B1a)|(with_reducible apply B2n)|(with_reducible apply A8u)|(with_reducible apply A7c)|(with_reducible apply B2l)|(with_reducible apply XC_label)|(with_reducible apply XC_scope)|(with_reducible apply A7o)|((with_reducible apply A6e);(focus (exact Y)))|((with_reducible apply B1b);(focus (exact Y)))|((with_reducible apply A5o);(focus (exact Y)))|((with_reducible apply A4p);(focus (exact Y)))|((with_reducible apply C_lex' A1e);(focus (exact Y));(focus (kernel_rfl)))|((with_reducible apply L_add tab);(focus (exact Y));(focus (exact Y));(focus (exact Y));(focus (exact Y));(focus (omega));(focus (omega)))|((with_reducible apply L_sub tab);(focus (exact Y));(focus (exact Y));(focus (exact Y));(focus (exact Y));(focus (omega));(focus (omega)))|((with_reducible apply L_pure tab);(focus (exact Y));(focus (exact Y));(focus (exact Y)))|(with_reducible apply XL_nil)|((with_reducible apply L_loadN tab);(focus (exact Y));(focus (exact Y));(focus (exact Y));(focus (((repeat (first|exact InB.head|apply InB.tail|(with_reducible apply InB.app)|(with_reducible apply InB.appA)));done)));(focus (exact Y)))|((with_reducible apply L_skip);(focus (exact Y));(focus (exact Y)))));exact h.h)):p:=k ⟨h⟩
theorem ss{p q:Prop}(h:q)(k:Hold q→p:=by(intro h;(first|((with_reducible apply S_add tab);(focus (exact Y));(focus (exact Y));(focus (exact Y));(focus (kernel_rfl));(focus (exact Y));(focus (exact Y));(focus (omega));(focus (omega)))|((with_reducible apply S_sub tab);(focus (exact Y));(focus (exact Y));(focus (exact Y));(focus (kernel_rfl));(focus (exact Y));(focus (exact Y));(focus (omega));(focus (omega)))|((with_reducible apply S_pure tab);(focus (exact Y));(focus (exact Y));(focus (exact Y));(focus (kernel_rfl));(focus (exact Y)))|((with_reducible apply S_loadN tab);(focus (exact Y));(focus (exact Y));(focus (exact Y));(focus (kernel_rfl));(focus (exact Y));(focus (((repeat (first|exact InB.head|apply InB.tail|(with_reducible apply InB.app)|(with_reducible apply InB.appA)));done)));(focus (exact Y)))|((with_reducible apply S_skip);(focus (exact Y));(focus (exact Y));(focus (exact Y));(focus (kernel_rfl)))|((with_reducible apply S_end);(focus (kernel_rfl))));(repeat (first|((with_reducible apply S_add tab);(focus (exact Y));(focus (exact Y));(focus (exact Y));(focus (kernel_rfl));(focus (exact Y));(focus (exact Y));(focus (omega));(focus (omega)))|((with_reducible apply S_sub tab);(focus (exact Y));(focus (exact Y));(focus (exact Y));(focus (kernel_rfl));(focus (exact Y));(focus (exact Y));(focus (omega));(focus (omega)))|((with_reducible apply S_pure tab);(focus (exact Y));(focus (exact Y));(focus (exact Y));(focus (kernel_rfl));(focus (exact Y)))|((with_reducible apply S_loadN tab);(focus (exact Y));(focus (exact Y));(focus (exact Y));(focus (kernel_rfl));(focus (exact Y));(focus (((repeat (first|exact InB.head|apply InB.tail|(with_reducible apply InB.app)|(with_reducible apply InB.appA)));done)));(focus (exact Y)))|((with_reducible apply S_skip);(focus (exact Y));(focus (exact Y));(focus (exact Y));(focus (kernel_rfl)))|((with_reducible apply S_end);(focus (kernel_rfl)))));exact h.h)):p:=k ⟨h⟩
theorem pn{p q:Prop}(h:q)(k:Hold q→p:=by(intro h;(repeat (first|(with_reducible apply Seq_panic)|(with_reducible apply Block_panic)|(with_reducible apply Loop_panic)));exact h.h)):p:=k ⟨h⟩
theorem cntA{a b:A0e}(h:∀p,cnt p a=cnt p b:=by(first|exact fun _=>rfl|(intro p;simp only [List.append_eq,A0n,A3u,B2b];try omega))):∀p,cnt p a=cnt p b:=h
theorem cntL{a b:A0e}(h:∀p,cnt p a≤cnt p b:=by(first|exact fun _=>Nat.le_refl _|(intro p;simp only [List.append_eq,A0n,A3u,B2b];try omega))):∀p,cnt p a≤cnt p b:=h
theorem st{p q:Prop}(h:q)(k:Hold q→p:=by(intro h;(first|refine cs ?_|refine ss ?_|refine S_do kR (A2q tab Y Y Y Y Y Y Y (by((repeat (first|exact InB.head|apply InB.tail|(with_reducible apply InB.app)|(with_reducible apply InB.appA)));done)) (by exact Y) (by((repeat (first|exact SetB.head|apply SetB.tail|(with_reducible apply SetB.app)|(with_reducible apply SetB.appA)));done)) ⟨Le.refl _,(by(repeat (first|exact trivial|(apply And.intro;(focus (first|(apply Or.inr;(try dsimp only);((repeat (first|exact InB.head|apply InB.tail|(with_reducible apply InB.app)|(with_reducible apply InB.appA)));done))|(apply Or.inl;kernel_rfl))))))),?_⟩));(repeat (first|refine cs ?_|refine ss ?_|refine S_do kR (A2q tab Y Y Y Y Y Y Y (by((repeat (first|exact InB.head|apply InB.tail|(with_reducible apply InB.app)|(with_reducible apply InB.appA)));done)) (by exact Y) (by((repeat (first|exact SetB.head|apply SetB.tail|(with_reducible apply SetB.app)|(with_reducible apply SetB.appA)));done)) ⟨Le.refl _,(by(repeat (first|exact trivial|(apply And.intro;(focus (first|(apply Or.inr;(try dsimp only);((repeat (first|exact InB.head|apply InB.tail|(with_reducible apply InB.app)|(with_reducible apply InB.appA)));done))|(apply Or.inl;kernel_rfl))))))),?_⟩)));exact h.h)):p:=k ⟨h⟩
theorem sr{p q:Prop}(h:q)(k:Hold q→p:=by(intro h;(first|refine cr ?_|refine ss ?_|refine S_do kR (A2q tab Y Y Y Y Y Y Y (by((repeat (first|exact InB.head|apply InB.tail|(with_reducible apply InB.app)|(with_reducible apply InB.appA)));done)) (by exact Y) (by((repeat (first|exact SetB.head|apply SetB.tail|(with_reducible apply SetB.app)|(with_reducible apply SetB.appA)));done)) ⟨Le.refl _,(by(repeat (first|exact trivial|(apply And.intro;(focus (first|(apply Or.inr;(try dsimp only);((repeat (first|exact InB.head|apply InB.tail|(with_reducible apply InB.app)|(with_reducible apply InB.appA)));done))|(apply Or.inl;kernel_rfl))))))),?_⟩));(repeat (first|refine cr ?_|refine ss ?_|refine S_do kR (A2q tab Y Y Y Y Y Y Y (by((repeat (first|exact InB.head|apply InB.tail|(with_reducible apply InB.app)|(with_reducible apply InB.appA)));done)) (by exact Y) (by((repeat (first|exact SetB.head|apply SetB.tail|(with_reducible apply SetB.app)|(with_reducible apply SetB.appA)));done)) ⟨Le.refl _,(by(repeat (first|exact trivial|(apply And.intro;(focus (first|(apply Or.inr;(try dsimp only);((repeat (first|exact InB.head|apply InB.tail|(with_reducible apply InB.app)|(with_reducible apply InB.appA)));done))|(apply Or.inl;kernel_rfl))))))),?_⟩)));exact h.h)):p:=k ⟨h⟩
theorem qb{p:Prop}{q:Nat→Prop}(h:∀b,q b)(k:Hold (∀b,q b)→p:=by(intro h;first|((((with_reducible apply Q_box);(focus (exact Y));(focus (exact Y));(focus (exact Y))));exact h.h)|((((with_reducible apply Q_alloc tab);(focus (exact Y));(focus (exact Y));(focus (exact Y))));exact h.h))):p:=k ⟨h⟩
theorem su{p q:Prop}(h:q)(k:Hold q→p:=by(intro h;(repeat refine st ?_);exact h.h)):p:=k ⟨h⟩
theorem sw{p:Prop}{q:Nat→Prop}(h:∀b,q b)(k:Hold (∀b,q b)→p:=by(intro h;(repeat refine st ?_);refine qb fun bx=>?_;(repeat refine st ?_);exact h.h bx)):p:=k ⟨h⟩
theorem ru{p q:Prop}(h:q)(k:Hold q→p:=by(intro h;(repeat refine sr ?_);exact h.h)):p:=k ⟨h⟩
theorem qu{p:Prop}{q:Nat→Prop}(h:∀b,q b)(k:Hold (∀b,q b)→p:=by(intro h;(repeat refine sr ?_);refine qb fun bx=>?_;(repeat refine sr ?_);exact h.h bx)):p:=k ⟨h⟩
theorem ib{p:Prop}(k:p:=by((repeat (first|exact InB.head|apply InB.tail|(with_reducible apply InB.app)|(with_reducible apply InB.appA)));done)):p:=k
theorem sb{p:Prop}(k:p:=by((repeat (first|exact SetB.head|apply SetB.tail|(with_reducible apply SetB.app)|(with_reducible apply SetB.appA)));done)):p:=k
theorem kp{p:Prop}(k:p:=by(repeat (first|exact trivial|(apply And.intro;(focus (first|(apply Or.inr;(try dsimp only);((repeat (first|exact InB.head|apply InB.tail|(with_reducible apply InB.app)|(with_reducible apply InB.appA)));done))|(apply Or.inl;kernel_rfl))))))):p:=k
theorem rg{p:Prop}(k:p:=by(repeat (first|exact trivial|refine⟨Y,?_⟩))):p:=k
theorem bo{p:Prop}(k:p:=by(first|assumption|(simp only []at *;omega))):p:=k
theorem fa{p q:Prop}(h:p)(k:p→q:=by(intro h;(simp only [decide_eq_true_eq,decide_eq_false_iff_not,beq_iff_eq,bne_iff_ne,Bool.not_eq_true',beq_eq_false_iff_ne,bne_eq_false_iff_eq,ne_eq]at h);exact h)):q:=k h
end Go.Proofs.YtclejblcnfaeaaaGreatDoor
end
section
namespace Go.Pal.To
structure MA where
 (k a b h:Int)
deriving DecidableEq
def sold(os:List Int)(x:MA):Bool:=x.k==0&&os[x.h.toNat]? == some x.a
def refd(os:List Int)(x:MA):Bool:=x.k==0 && !(os[x.h.toNat]? == some x.a)
def doN(os:List Int)(x:MA):List Int:=if sold os x then os.set x.h.toNat x.b else os
def A3z(os:List Int)(l:List MA):List Int:=l.foldl doN os
structure Wy where
 marks:List Int
 book:List MA
 dusk:List Int
deriving DecidableEq
def Wy.add(w:Wy)(m:Int)(x:MA):Wy:=⟨w.marks++[m],w.book++[x],doN w.dusk x⟩
def A4g(a b:List MA):Nat→Option (MA×List MA×List MA)
 | 0=>match a,b with
  | x::a',y::b'=>if x=y then some (x,a',b')else none
  | _,_=>none
 | 1=>match a with
  | x::a'=>some (x,a',b)
  | []=>none
 | _=>match b with
  | y::b'=>some (y,a,b')
  | []=>none
def A2j(F:List MA→List MA→Wy→List Wy)(a b:List MA)(w:Wy)(m:Nat):List Wy:=
 match A4g a b m with
 | none=>[]
 | some (x,a',b')=>if refd w.dusk x then []else F a' b' (w.add m x)
def B1e:Nat→List MA→List MA→Wy→List Wy
 | 0,_,_,w=>[w]
 | n+1,a,b,w=>if a=[]∧b=[]then [w]else A2j (B1e n) a b w 0++A2j (B1e n) a b w 1++A2j (B1e n) a b w 2
def ways(a b:List MA)(w:Wy):List Wy:=B1e (a.length+b.length) a b w
theorem A4u{a b:List MA}{m:Nat}{x:MA}{a' b':List MA}(h:A4g a b m=some (x,a',b')):a'.length+b'.length<a.length+b.length:=by
 unfold A4g at h
 split at h
 ·split at h
  ·split at h
   ·simp only [Option.some.injEq,Prod.mk.injEq]at h
    obtain⟨_,rfl,rfl⟩:=h
    simp only [List.length_cons];omega
   ·cases h
  ·cases h
 ·split at h
  ·simp only [Option.some.injEq,Prod.mk.injEq]at h
   obtain⟨_,rfl,rfl⟩:=h
   simp only [List.length_cons];omega
  ·cases h
 ·split at h
  ·simp only [Option.some.injEq,Prod.mk.injEq]at h
   obtain⟨_,rfl,rfl⟩:=h
   simp only [List.length_cons];omega
  ·cases h
theorem A6f{F F':List MA→List MA→Wy→List Wy}{a b:List MA}{w:Wy}{m:Nat}(h:∀a' b' w',a'.length+b'.length<a.length+b.length→F a' b' w'=F' a' b' w'):A2j F a b w m=A2j F' a b w m:=by
 unfold A2j
 cases e:A4g a b m with
 | none=>rfl
 | some t=>
  obtain⟨x,a',b'⟩:=t
  simp only
  rw [h a' b' _ (A4u e)]
theorem B0s:∀{n:Nat} {a b:List MA} {w:Wy},a.length+b.length≤n→B1e n a b w=ways a b w
 | 0,a,b,w,h=>by
  unfold ways
  have e:a.length+b.length=0:=oM
  rw [e]
 | n+1,a,b,w,h=>by
  unfold ways
  by_cases e0:a=[]∧b=[]
  ·obtain⟨rfl,rfl⟩:=e0
   simp [B1e]
  ·obtain⟨m,hm⟩:∃m,a.length+b.length=m+1:=by
    refine⟨a.length+b.length-1,?_⟩
    have:a.length≠0∨b.length≠0:=by
     rcases a with _|⟨x,a⟩
     ·rcases b with _|⟨y,b⟩
      ·exact absurd ⟨Y,Y⟩ e0
      ·right;simp
     ·left;simp
    omega
   rw [hm]
   simp only [B1e,if_neg e0]
   have key:∀k,A2j (B1e n) a b w k=A2j (B1e m) a b w k:=fun k=>A6f fun a' b' w' h'=>by
    rw [B0s (n:=n) oM,B0s (n:=m) oM]
   rw [key,key,key]
theorem A7z(w:Wy):ways [] [] w=[w]:=rfl
theorem A9c{a b:List MA}{w:Wy}(h:¬(a=[]∧b=[])):ways a b w=A2j ways a b w 0++A2j ways a b w 1++A2j ways a b w 2:=by
 rw [←B0s (n:=a.length+b.length+1) (Nat.le_succ _)]
 simp only [B1e,if_neg h]
 have key:∀k,A2j (B1e (a.length+b.length)) a b w k=A2j ways a b w k:=fun k=>A6f fun a' b' w' h'=>B0s oM
 rw [key,key,key]
theorem ways_begin:∀{n:Nat} {a b:List MA} {w u:Wy},a.length+b.length≤n→u∈ways a b w→∃t,u.marks=w.marks++t∧t.length=u.book.length-w.book.length∧∃s,u.book=w.book++s∧s.length=t.length∧(a=[]∧b=[]↔t=[])
 | n,a,b,w,u,h,hu=>by
  by_cases e:a=[]∧b=[]
  ·obtain⟨rfl,rfl⟩:=e
   rw [A7z]at hu
   simp only [List.mem_singleton]at hu
   subst hu
   exact⟨[],by simp,by simp,[],by simp,Y,by simp⟩
  ·cases n with
   | zero=>
    exfalso
    apply e
    exact⟨List.length_eq_zero_iff.1 oM,List.length_eq_zero_iff.1 oM⟩
   | succ n=>
    rw [A9c e]at hu
    have:∃m,u∈A2j ways a b w m:=by
     rcases List.mem_append.1 hu with hu|hu
     ·rcases List.mem_append.1 hu with hu|hu
      ·exact⟨_,hu⟩
      ·exact⟨_,hu⟩
     ·exact⟨_,hu⟩
    obtain⟨m,hm⟩:=this
    unfold A2j at hm
    cases es:A4g a b m with
    | none=>rw [es]at hm;cases hm
    | some t=>
     obtain⟨x,a',b'⟩:=t
     rw [es]at hm
     simp only at hm
     split at hm
     ·cases hm
     ·have hl:=A4u es
      obtain⟨t,h1,h2,s,h3,h4,h5⟩:=ways_begin (n:=n) oM hm
      refine⟨(m:Int)::t,?_,?_,x::s,?_,by simp [h4],by simp [e]⟩
      ·rw [h1];simp [Wy.add]
      ·have h6:=congrArg List.length h3
       simp [Wy.add]at h6⊢
       omega
      ·rw [h3];simp [Wy.add]
theorem B1f{a b:List MA}{w u:Wy}{m:Nat}(h:u∈A2j ways a b w m):∃t s,u.marks=w.marks++((m:Int)::t)∧u.book=w.book++s∧s.length=t.length+1:=by
 unfold A2j at h
 cases es:A4g a b m with
 | none=>rw [es]at h;cases h
 | some t=>
  obtain⟨x,a',b'⟩:=t
  rw [es]at h
  simp only at h
  split at h
  ·cases h
  ·obtain⟨t,h1,h2,s,h3,h4,h5⟩:=ways_begin (Nat.le_refl _) h
   exact⟨t,x::s,by rw [h1];simp [Wy.add],by rw [h3];simp [Wy.add],by simp [h4]⟩
def ltL:List Int→List Int→Bool
 | _,[]=>false
 | [],_::_=>true
 | x::l,y::m=>if x=y then ltL l m else decide (x<y)
theorem ltL_pre(l:List Int){s t:List Int}:ltL (l++s) (l++t)=ltL s t:=by
 induction l with
 | nil=>rfl
 | cons x l ih=>simp [ltL,ih]
theorem A7k(l:List Int):ltL l l=false:=by
 induction l with
 | nil=>rfl
 | cons x l ih=>simp [ltL,ih]
theorem A6y:∀{l m n:List Int},ltL l m=true→ltL m n=true→ltL l n=true
 | l,m,[],_,h=>by cases m<;>simp [ltL]at h
 | [],m,z::n,_,_=>rfl
 | x::l,[],z::n,h,_=>by simp [ltL]at h
 | x::l,y::m,z::n,h,k=>by
  simp only [ltL]at h k⊢
  by_cases e1:x=y
  ·subst e1
   rw [if_pos rfl]at h
   by_cases e2:x=z
   ·subst e2
    rw [if_pos rfl]at k⊢
    exact A6y h k
   ·rw [if_neg e2]at k⊢
    exact k
  ·rw [if_neg e1]at h
   have h:x<y:=by simpa using h
   by_cases e2:y=z
   ·subst e2
    rw [if_neg oM]
    simpa using h
   ·rw [if_neg e2]at k
    have k:y<z:=by simpa using k
    rw [if_neg oM]
    simp;omega
theorem A8n:∀{l m:List Int},l≠m→ltL l m=true∨ltL m l=true
 | [],[],h=>absurd rfl h
 | [],_::_,_=>.inl rfl
 | _::_,[],_=>.inr rfl
 | x::l,y::m,h=>by
  simp only [ltL]
  by_cases e:x=y
  ·subst e
   rw [if_pos Y,if_pos rfl]
   exact A8n (fun e=>h (by rw [e]))
  ·rw [if_neg e,if_neg (Ne.symm e)]
   simp only [decide_eq_true_eq]
   omega
theorem B1d:∀{n:Nat} {a b:List MA} {w:Wy},a.length+b.length≤n→(ways a b w).Pairwise fun u v=>ltL u.marks v.marks=true
 | n,a,b,w,h=>by
  by_cases e:a=[]∧b=[]
  ·obtain⟨rfl,rfl⟩:=e
   rw [A7z];simp
  ·cases n with
   | zero=>
    exfalso
    apply e
    exact⟨List.length_eq_zero_iff.1 oM,List.length_eq_zero_iff.1 oM⟩
   | succ n=>
    rw [A9c e]
    have one:∀m,(A2j ways a b w m).Pairwise fun u v=>ltL u.marks v.marks=true:=fun m=>by
     unfold A2j
     cases es:A4g a b m with
     | none=>simp
     | some t=>
      obtain⟨x,a',b'⟩:=t
      simp only
      split
      ·simp
      ·have hl:=A4u es
       exact B1d (n:=n) oM
    have two:∀{m m':Nat},m<m'→∀u∈A2j ways a b w m,∀v∈A2j ways a b w m',ltL u.marks v.marks=true:=fun {m m'} hlt u hu v hv=>by
     obtain⟨t,s,h1,_⟩:=B1f hu
     obtain⟨t',s',h2,_⟩:=B1f hv
     rw [h1,h2,ltL_pre]
     simp only [ltL]
     rw [if_neg oM]
     simp;omega
    refine List.pairwise_append.2 ⟨List.pairwise_append.2 ⟨one 0,one 1,two oM⟩,one 2,fun u hu v hv=>?_⟩
    rcases List.mem_append.1 hu with hu|hu
    ·exact two oM u hu v hv
    ·exact two oM u hu v hv
def lenW(w:Wy):Nat:=w.marks.length
def addF(s:Nat×List Wy)(w:Wy):Nat×List Wy:=if s.2=[]∨lenW w<s.1 then(lenW w,[w])else if lenW w=s.1 then(s.1,s.2++[w])else s
def A1n(l:List Wy):Nat×List Wy:=l.foldl addF (0,[])
theorem B1z(l:List Wy)(w:Wy):A1n (l++[w])=addF (A1n l) w:=by simp [A1n]
theorem A6a:∀{l:List Wy},l≠[]→(A1n l).2≠[]∧(∀w∈l,(A1n l).1≤lenW w)∧(A1n l).2=l.filter (fun w=>lenW w==(A1n l).1):=by
 intro l
 suffices h:∀n,∀l:List Wy,l.length=n→l≠[]→(A1n l).2≠[]∧(∀w∈l,(A1n l).1≤lenW w)∧(A1n l).2=l.filter (fun w=>lenW w==(A1n l).1)from h _ l rfl
 intro n
 induction n with
 | zero=>intro l hl hn;exact absurd (List.length_eq_zero_iff.1 hl) hn
 | succ n ih=>
  intro l hl _
  obtain⟨l',w,rfl⟩:∃l' w,l=l'++[w]:=by
   rcases List.eq_nil_or_concat l with rfl|⟨l',w,h⟩
   ·cases hl
   ·exact⟨l',w,by simpa using h⟩
  have hl':l'.length=n:=by simpa using hl
  rw [B1z]
  by_cases e:l'=[]
  ·subst e
   have:addF (A1n []) w=(lenW w,[w]):=by simp [addF,A1n]
   rw [this]
   simp
  ·obtain⟨h1,h2,h3⟩:=ih l' hl' e
   unfold addF
   by_cases e1:lenW w<(A1n l').1
   ·rw [if_pos (.inr e1)]
    refine⟨by simp,fun u hu=>?_,?_⟩
    ·rcases List.mem_append.1 hu with hu|hu
     ·have:=h2 u hu;dsimp only;omega
     ·simp only [List.mem_singleton]at hu;subst hu;exact Nat.le_refl _
    ·dsimp only
     rw [List.filter_append,List.filter_eq_nil_iff.2 fun u hu=>by have:=h2 u hu;simp;omega]
     simp
   ·rw [if_neg (by rintro(h|h);exact h1 h;exact e1 h)]
    by_cases e2:lenW w=(A1n l').1
    ·rw [if_pos e2]
     refine⟨by simp,fun u hu=>?_,?_⟩
     ·rcases List.mem_append.1 hu with hu|hu
      ·exact h2 u hu
      ·simp only [List.mem_singleton]at hu;subst hu;exact Nat.le_of_eq e2.symm
     ·dsimp only
      rw [List.filter_append,←h3]
      simp [e2]
    ·rw [if_neg e2]
     refine⟨h1,fun u hu=>?_,?_⟩
     ·rcases List.mem_append.1 hu with hu|hu
      ·exact h2 u hu
      ·simp only [List.mem_singleton]at hu;subst hu;omega
     ·rw [List.filter_append,←h3]
      simp [e2]
theorem A9v{l:List Wy}{w:Wy}(h:w∈(A1n l).2):w∈l∧lenW w=(A1n l).1:=by
 by_cases e:l=[]
 ·subst e;cases h
 ·rw [(A6a e).2.2]at h
  simpa using h
theorem B2a{l m:List Wy}(h:l.Perm m):(A1n l).1=(A1n m).1∧(A1n l).2.Perm (A1n m).2:=by
 by_cases e:l=[]
 ·subst e
  obtain rfl:=h.nil_eq
  exact⟨Y,.refl _⟩
 ·have e':m≠[]:=fun e'=>e (by subst e';exact h.eq_nil)
  obtain⟨h1,h2,h3⟩:=A6a e
  obtain⟨k1,k2,k3⟩:=A6a e'
  have hle:∀{l m:List Wy},l.Perm m→(A1n l).2≠[]→(∀w∈m,(A1n m).1≤lenW w)→(A1n m).1≤(A1n l).1:=fun {l m} h h1 k2=>by
   obtain⟨w,hw⟩:=List.exists_mem_of_ne_nil _ h1
   obtain⟨a,b⟩:=A9v hw
   have:=k2 w (h.mem_iff.1 a)
   omega
  have he:(A1n l).1=(A1n m).1:=Nat.le_antisymm (hle h.symm k1 h2) (hle h h1 k2)
  refine⟨he,?_⟩
  rw [h3,k3,he]
  exact h.filter _
theorem sorted_one{l m:List Wy}(h:l.Perm m)(h1:l.Pairwise fun u v=>ltL v.marks u.marks=false)(h2:m.Pairwise fun u v=>ltL u.marks v.marks=true):l=m:=by
 induction m generalizing l with
 | nil=>exact h.eq_nil
 | cons x m ih=>
  cases l with
  | nil=>exact absurd h.nil_eq sM
  | cons y l=>
   obtain⟨a1,a2⟩:=List.pairwise_cons.1 h1
   obtain⟨b1,b2⟩:=List.pairwise_cons.1 h2
   have hxy:y=x:=by
    apply Classical.byContradiction
    intro hne
    have hy:y∈m:=by
     have:y∈x::m:=h.mem_iff.1 sM
     rcases List.mem_cons.1 this with h|h
     ·exact absurd h hne
     ·exact h
    have hx:x∈l:=by
     have:x∈y::l:=h.mem_iff.2 sM
     rcases List.mem_cons.1 this with h|h
     ·exact absurd h.symm hne
     ·exact h
    have:=b1 y hy
    rw [a1 x hx]at this
    cases this
   subst hxy
   rw [ih (List.Perm.cons_inv h) a2 b2]
def A6k(a b:List MA)(os:List Int):List Wy:=(A1n (ways a b ⟨[],[],os⟩)).2
theorem bests_sorted(a b:List MA)(os:List Int):(A6k a b os).Pairwise fun u v=>ltL u.marks v.marks=true:=by
 unfold A6k
 by_cases e:ways a b ⟨[],[],os⟩=[]
 ·rw [e];exact .nil
 ·rw [(A6a e).2.2]
  exact(B1d (Nat.le_refl _)).filter _
theorem bests_of{a b:List MA}{os:List Int}{l m:List Wy}(h:l.Perm (ways a b ⟨[],[],os⟩))(hm:m.Perm (A1n l).2)(hs:m.Pairwise fun u v=>ltL v.marks u.marks=false):m=A6k a b os:=
 sorted_one (hm.trans (B2a h).2) hs (bests_sorted a b os)
end Go.Pal.To
namespace Go.Pal.To
def lexZ:List Int→List Int→Int
 | [],[]=>0
 | [],_::_=>-1
 | _::_,[]=>1
 | x::l,y::m=>if x<y then -1 else if y<x then 1 else lexZ l m
theorem lexZ_lt:∀(l m:List Int),decide (lexZ l m<0)=ltL l m
  | [],[]=>rfl
  | [],_::_=>rfl
  | _::_,[]=>rfl
  | x::l,y::m=>by
    have ih:=lexZ_lt l m
    by_cases h1:x<y
    · have e1:lexZ (x::l) (y::m) = -1:=by simp only [lexZ];rw [if_pos h1]
      have e2:ltL (x::l) (y::m)=true:=by simp only [ltL];rw [if_neg oM];simp [h1]
      rw [e1,e2];rfl
    · by_cases h2:y<x
      · have e1:lexZ (x::l) (y::m)=1:=by simp only [lexZ];rw [if_neg h1,if_pos h2]
        have e2:ltL (x::l) (y::m)=false:=by simp only [ltL];rw [if_neg oM];simp [h1]
        rw [e1,e2];rfl
      · have e1:lexZ (x::l) (y::m)=lexZ l m:=by
          show(if x<y then -1 else if y<x then 1 else lexZ l m)=_
          rw [if_neg h1,if_neg h2]
        have e2:ltL (x::l) (y::m)=ltL l m:=by
          show(if x=y then ltL l m else decide (x<y))=_
          rw [if_pos oM]
        rw [e1,e2];exact ih
theorem ltL_ntrans{l m n:List Int}(h1:ltL l m=false)(h2:ltL m n=false):ltL l n=false:=by
 cases h:ltL l n with
 | false=>rfl
 | true=>
  exfalso
  by_cases e1:l=m
  ·subst e1;rw [h2]at h;cases h
  ·rcases A8n e1 with h3|h3
   ·rw [h1]at h3;cases h3
   ·have:=A6y h3 h;rw [h2]at this;cases this
theorem A9d:∀{n:Nat} {a b:List MA} {w:Wy},a.length+b.length≤n→(ways a b w).length≤3 ^ n
 | n,a,b,w,h=>by
  by_cases e:a=[]∧b=[]
  ·obtain⟨rfl,rfl⟩:=e
   rw [A7z]
   exact Nat.one_le_pow _ _ dM
  ·cases n with
   | zero=>
    exfalso
    apply e
    exact⟨List.length_eq_zero_iff.1 oM,List.length_eq_zero_iff.1 oM⟩
   | succ n=>
    have one:∀m,(A2j ways a b w m).length≤3 ^ n:=fun m=>by
     unfold A2j
     cases es:A4g a b m with
     | none=>simp
     | some t=>
      obtain⟨x,a',b'⟩:=t
      simp only
      split
      ·simp
      ·have hl:=A4u es
       exact A9d (n:=n) oM
    rw [A9c e,List.length_append,List.length_append,Nat.pow_succ]
    have:=one 0;have:=one 1;have:=one 2
    omega
end Go.Pal.To
end
