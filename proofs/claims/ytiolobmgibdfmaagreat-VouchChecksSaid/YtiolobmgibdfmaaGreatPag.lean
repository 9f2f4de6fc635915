/- Part 7. -/
import Derived.Test.YtiolobmgibdfmaaGreatPaf
set_option linter.all false
section
namespace Go.Pal
open Go Go.Conc View
open Go.ConcN (sumTo upd sumTo_upd upd_ne upd_same RelBy fork_knows)
theorem touch_low{t:Trace}{B k:Nat}{a:Touch}(h:∀op∈t,op.act.low B)(ha:touchAt t k=some a)(hm:a.loc.isMemory=true):blk a.loc<B:=by
 obtain⟨op,ho,hoa⟩:=touch_of ha
 have:=h op (Array.mem_of_getElem? ho)
 obtain⟨g,fn,pos,act⟩:=op
 cases act with
 | access e=>
  simp only [MemAct.touch?,Option.some.injEq]at hoa
  subst hoa
  obtain⟨l,wr,sy⟩:=e
  cases l<;>first|exact this|cases hm
 | mark m=>
  cases m<;>simp only [MemAct.touch?]at hoa<;>first|(cases hoa;done)|(simp only [Option.some.injEq]at hoa;subst hoa;exact this)
 | _=>simp [MemAct.touch?]at hoa
theorem A5x{g:Nat}{fn:FuncId}{pos:String}{es:Array Event}{op:MemOp}(h:op∈MemOp.ofEvents g fn pos es):∃e∈es,op.act = .ofEvent e∧op.g=g:=by
 obtain⟨e,he,rfl⟩:=Go.Conc.mem_ofEvents h
 exact⟨e,he,Z,Z⟩
theorem A9m{t:Trace}{k g:Nat}(u:Trace)(h:t.g? k=some g):(t++u).g? k=some g:=by
 obtain⟨op,ho,hg⟩:=Option.map_eq_some_iff.1 h
 have hk:=lt_size_of_getElem? ho
 rw [g?_old hk];exact h
theorem A2q{t u:Trace}{k:Nat}{a:Touch}(h:touchAt (t++u) k=some a):(k<t.size∧touchAt t k=some a)∨(t.size≤k∧∃op∈u,op.act.touch?=some a∧(t++u)[k]?=some op):=by
 obtain⟨op,ho,hoa⟩:=touch_of h
 rcases getElem?_append_cases ho with ⟨h1,h2⟩|⟨h1,h2⟩
 ·exact .inl ⟨h1,by rw [touchAt_of h2];exact hoa⟩
 ·exact .inr ⟨h1,op,h2,hoa,ho⟩
theorem B3n{t u:Trace}{k g:Nat}(h:(t++u).g? k=some g):(k<t.size∧t.g? k=some g)∨(t.size≤k∧∃op∈u,op.g=g):=by
 obtain⟨op,ho,hog⟩:=Option.map_eq_some_iff.1 h
 rcases getElem?_append_cases ho with ⟨h1,h2⟩|⟨h1,h2⟩
 ·exact .inl ⟨h1,by rw [Trace.g?,h2];exact congrArg some hog⟩
 ·exact .inr ⟨h1,op,h2,hog⟩
theorem A4t{a:Addr}{t u:Trace}{k r:Nat}(h:RelBy a t k r)(hu:∀op∈u,op.g≠k):RelBy a (t++u) k r:=
 h.app fun i hi hg=>by
  rcases B3n hg with ⟨h1,_⟩|⟨_,op,h2,h3⟩
  ·omega
  ·exact absurd h3 (hu op h2)
section
variable{Pr:Proto}{base:Nat}{S:Nat→Prop}{γ γ':Pr.G}{vs:Nat→View}{lo:Nat}{hi':Nat}{t:Trace}{i:Nat}{τ:Pr.T}{v':View}{fn:FuncId}{pos:String}{es:Array Event}
theorem TI.ownStep(h:TI Pr base S γ vs lo t)(hb:0<base)(hi:i=0∨(base≤i∧i<Pr.size γ))(hth:Pr.th γ i=some τ)(hrel:i≠0→Pr.rel τ=false)(hacq:∀σ,Pr.th γ 0=some σ→Pr.acq σ=true→i=0)(hle:lo≤hi')
    (hev:∀e∈es,EvOk (vs i) lo hi' e)(hdom:∀b,v' b≠none→vs i b≠none∨lo≤b)(hown:∀b,v'.Owns b→(vs i).Owns b∨lo≤b)
    (hlow:∀j b,vs j b≠none→b<lo)(hex:∀j,j≠i→∀b,(vs i).Owns b→vs j b=none)(hex':∀j,j≠i→∀b,(vs j).Owns b→vs i b=none)
    (hsh:∀b,Pr.sh γ b≠none→vs i b=none∧b<lo)(hat:∀b,Pr.atb b→vs i b=none∧b<lo) :
    TI Pr base S γ (upd vs i v') hi' (t++MemOp.ofEvents i fn pos es):=by
  have hnew:∀op∈MemOp.ofEvents i fn pos es,∀x,op.act.touch?=some x→x.kind = .plain∧((lo≤blk x.loc∧blk x.loc<hi')∨((x.write=true→(vs i).Owns (blk x.loc))∧vs i (blk x.loc)≠none)):=fun op hop x hx=>by
    obtain⟨e,he,h1,_⟩:=A5x hop
    rw [h1]at hx
    exact evOk_touch (hev e he) hx
  have hg:∀op∈MemOp.ofEvents i fn pos es,op.g=i:=opsG
  have hvlo:∀b,vs i b≠none→b<lo:=hlow i
  have oldlow:∀k a,touchAt t k=some a→a.loc.isMemory=true→blk a.loc<lo:=fun k a ha hm=>touch_low h.low ha hm
  refine⟨fun said=>noRace_append (h.nr said) hg fun k a ha op hop b hb' hc=>?_,fun j k a ha hm hO=>?_,fun j k a ha hm hO hw=>?_,fun k a ha hA hm=>?_,fun k a ha hm hS hA=>?_,h.norel.app (norel_ok hev),fun op hop=>?_,fun j σ hj=>?_,fun k a ha hm=>?_,fun k g hk hg0 hc=>?_,fun j hj1 hj2=>?_,fun σ hσ ha=>?_⟩
  · obtain⟨hl,hm,hw,_⟩:=hc
    obtain⟨_,hcase⟩:=hnew op hop b hb'
    have hlt:=oldlow k a ha hm
    rw [hl]at hlt
    rcases hcase with ⟨x,_⟩|⟨x,y⟩
    · omega
    · rcases hw with hw|hw
      · exact h.rd i k a ha hm (by rw [hl];exact y) hw
      · exact h.own i k a ha hm (by rw [hl];exact x hw)
  · rcases A2q ha with ⟨_,ha'⟩|⟨_,op,hop,hoa,hok⟩
    · by_cases hj:j=i
      · subst hj
        rw [upd_same]at hO
        rcases hown _ hO with x|x
        · exact(h.own j k a ha' hm x).app _
        · exact absurd (oldlow k a ha' hm) oM
      · rw [upd_ne vs v' hj]at hO
        exact(h.own j k a ha' hm hO).app _
    · by_cases hj:j=i
      · have:=knows_own hok
        rw [hg op hop]at this
        rw [hj];exact this
      · rw [upd_ne vs v' hj]at hO
        obtain⟨o,ho⟩:=hO
        exfalso
        rcases (hnew op hop a hoa).2 with ⟨x,_⟩|⟨_,y⟩
        · have:=hlow j (blk a.loc) (by rw [ho];simp);omega
        · exact y (hex' j hj _ ⟨o,ho⟩)
  · rcases A2q ha with ⟨_,ha'⟩|⟨_,op,hop,hoa,hok⟩
    · by_cases hj:j=i
      · subst hj
        rw [upd_same]at hO
        rcases hdom _ hO with x|x
        · exact(h.rd j k a ha' hm x hw).app _
        · exact absurd (oldlow k a ha' hm) oM
      · rw [upd_ne vs v' hj]at hO
        exact(h.rd j k a ha' hm hO hw).app _
    · by_cases hj:j=i
      · have:=knows_own hok
        rw [hg op hop]at this
        rw [hj];exact this
      · rw [upd_ne vs v' hj]at hO
        exfalso
        rcases (hnew op hop a hoa).2 with ⟨x,_⟩|⟨x,_⟩
        · have:=hlow j (blk a.loc) hO;omega
        · exact hO (hex j hj _ (x hw))
  · rcases A2q ha with ⟨hk,ha'⟩|⟨_,op,hop,hoa,hok⟩
    · rcases h.ato k a ha' hA hm with x|⟨x,y⟩|x
      · exact .inl x
      · exact .inr (.inl ⟨x,A9m _ y⟩)
      · exact .inr (.inr fun j hj=>(x j hj).app _)
    · exfalso
      obtain⟨x,y⟩:=hat _ hA
      rcases (hnew op hop a hoa).2 with ⟨z,_⟩|⟨_,z⟩
      · omega
      · exact z x
  · rcases A2q ha with ⟨hk,ha'⟩|⟨_,op,hop,hoa,hok⟩
    · rcases h.gd k a ha' hm hS hA with x|⟨p,x,y,z⟩
      · exact .inl fun j hj=>(x j hj).app _
      · have hp:=lt_of_act? x
        exact .inr ⟨p,by rw [act?_old hp];exact x,(heard_old hp).2 y,z.app _⟩
    · exfalso
      obtain⟨x,y⟩:=hsh _ hS
      rcases (hnew op hop a hoa).2 with ⟨z,_⟩|⟨_,z⟩
      · omega
      · exact z x
  · rcases Array.mem_append.1 hop with x|x
    · exact MemAct.low_mono hle (h.low op x)
    · obtain⟨e,he,h1,_⟩:=A5x x
      rw [h1]
      exact evOk_low (fun b hb=>Nat.lt_of_lt_of_le (hvlo b hb) hle) (hev e he)
  · rw [A4j hev];exact h.deaf j σ hj
  · rcases A2q ha with ⟨hk,ha'⟩|⟨_,op,hop,hoa,hok⟩
    · rcases h.f1 k a ha' hm with x|x|⟨j,h1,h2,h3,h4⟩
      · exact .inl (x.app _)
      · exact .inr (.inl x)
      · exact .inr (.inr ⟨j,h1,h2,A9m _ h3,(counts_old hk).2 h4⟩)
    · rcases hi with rfl|⟨h1,h2⟩
      · have:=knows_own hok
        rw [hg op hop]at this
        exact .inl this
      · refine .inr (.inr ⟨i,h1,h2,by simp [Trace.g?,hok,hg op hop],⟨a,ha,hm,.inl ?_⟩⟩)
        rw [(hnew op hop a hoa).1];simp
  · rcases B3n hk with ⟨h1,h2⟩|⟨_,op,hop,hog⟩
    · rcases h.f2 k g h2 hg0 ((counts_old h1).1 hc)with ⟨j,x,y⟩|x
      · exact .inl ⟨j,A9m _ x,hb_app _ y⟩
      · exact .inr x
    · rw [hg op hop]at hog
      subst hog
      rcases hi with x|x
      · exact absurd x hg0
      · exact .inr x
  · by_cases hj:j=i
    · subst hj
      exact .inl ⟨τ,hth,hrel oM⟩
    · rcases h.relp j hj1 hj2 with x|⟨p,x⟩
      · exact .inl x
      · exact .inr ⟨p,A4t x fun op hop=>by rw [hg op hop];exact Ne.symm hj⟩
  · obtain⟨q,h1,h2,h3,h4⟩:=h.acq σ hσ ha
    have hq:=lt_of_act? h2
    refine⟨q,A9m _ h1,by rw [act?_old hq];exact h2,(heard_old hq).2 h3,fun j hj1 hj2=>?_⟩
    obtain⟨p,h5,h6⟩:=h4 j hj1 hj2
    exact⟨p,h5,A4t h6 fun op hop=>by rw [hg op hop,hacq σ hσ ha];omega⟩
theorem norel_s{B:Nat}(h:∀e∈es,EvS Pr i B e):NoRel (MemOp.ofEvents i fn pos es):=fun op hop A=>by
 obtain⟨e,he,h1,_⟩:=A5x hop
 rw [h1]
 exact evS_norel (h e he) A
theorem A4g(g:Nat)(m:Mark):MemOp.ofEvents g fn pos #[mkE m]=#[{g,fn,pos,act:=.mark m }]:=by rw [ofEvents_eq];simp;rfl
theorem acq_knows{A:Addr}{p:Nat}(hn:NoRel t)(hd:Deaf t i=0)(hp:t.act? p=some (.mark (.releaseMerge A)))(hh:t.heard p):Knows (t++MemOp.ofEvents i fn pos #[mkE (.acquire A)]) i p:=by
 rw [A4g]
 have hy:(t++#[({g:=i,fn,pos,act:=.mark (.acquire A) }:MemOp)])[t.size]?=some {g:=i,fn,pos,act:=.mark (.acquire A) }:=by simp
 have hlt:=lt_of_act? hp
 refine⟨t.size,_,hy,Z,.inr (.single (.inr ⟨.marked (a:=A) hlt (.inr (by rw [act?_old hlt];exact hp)) (by rw [act?_of hy]) (fun k hk1 hk2 hk3=>?_),(heard_old hlt).2 hh,i,by simp [Trace.g?],by rw [deaf_old (Nat.le_refl _)];exact hd⟩))⟩
 rw [act?_old hk2]at hk3
 obtain⟨op,ho,hoa⟩:=Option.map_eq_some_iff.1 hk3
 exact hn op (Array.mem_of_getElem? ho) A hoa
theorem TI.syncStep(h:TI Pr base S γ vs lo t)(hb:0<base)(hi:i=0∨(base≤i∧i<Pr.size γ))(hth:Pr.th γ i=some τ)(hoth:∀j,j≠i→Pr.th γ' j=Pr.th γ j)(hsz:Pr.size γ'=Pr.size γ)
    (hev:∀e∈es,EvS Pr i lo e)(hdeaf:∀σ,Pr.th γ' i=some σ→deafBehind (Pr.deaf τ) es=Pr.deaf σ)
    (hgain:∀b,v' b≠none→vs i b≠none∨(es=#[mkE (.acquire (Pr.lock b))]∧Pr.deaf τ=0∧Pr.sh γ b≠none))
    (hown:∀b,v'.Owns b→(vs i).Owns b∨(es=#[mkE (.acquire (Pr.lock b))]∧Pr.deaf τ=0∧Pr.sh γ b≠none))
    (hlose:∀b,Pr.sh γ' b≠none→Pr.sh γ b≠none∨(es=#[mkE (.releaseMerge (Pr.lock b))]∧Pr.deaf τ=0∧(vs i).Owns b))
    (hat:∀b,Pr.atb b→(∀j,vs j b=none)∧v' b=none)
    (hmute:Pr.rel τ=true→∀j e,es[j]?=some e→(MemAct.ofEvent e).touch?=none∨((∃ad wr,e=⟨.cell ad,wr,true⟩)∧0<deafBehind (Pr.deaf τ) (es.extract 0 j)))
    (hrel:i≠0→(∃σ,Pr.th γ' i=some σ∧Pr.rel σ=false)∨Pr.rel τ=true∨(es=#[mkE (.releaseMerge Pr.fin)]∧Pr.deaf τ=0))
    (hacq0:∀σ,Pr.th γ 0=some σ→Pr.acq σ=true→i=0∨Pr.rel τ=true)
    (hacq:∀σ,i=0→Pr.th γ' 0=some σ→Pr.acq σ=true→Pr.acq τ=true∨(es=#[mkE (.acquire Pr.fin)]∧Pr.deaf τ=0∧∀j,base≤j→j<Pr.size γ→∀ρ,Pr.th γ j=some ρ→Pr.rel ρ=true)) :
    TI Pr base S γ' (upd vs i v') lo (t++MemOp.ofEvents i fn pos es):=by
  have hdt:Deaf t i=Pr.deaf τ:=h.deaf i τ hth
  have hnew:∀op∈MemOp.ofEvents i fn pos es,∀x,op.act.touch?=some x→Pr.atb (blk x.loc)∧(∃a,x.loc = .cell a)∧(x.kind = .atomic∨(x.kind = .said∧i=0)):=fun op hop x hx=>by
    obtain⟨e,he,h1,_⟩:=A5x hop
    rw [h1]at hx
    exact evS_touch (hev e he) hx
  have hg:∀op∈MemOp.ofEvents i fn pos es,op.g=i:=opsG
  have hact:∀j,Pr.th γ' j≠none→Pr.th γ j≠none:=fun j hj=>by
    by_cases e:j=i
    · rw [e,hth];simp
    · rw [←hoth j e];exact hj
  -- what is gained is known
  have hgk:∀k a,touchAt t k=some a→a.loc.isMemory=true→es=#[mkE (.acquire (Pr.lock (blk a.loc)))]→Pr.deaf τ=0→Pr.sh γ (blk a.loc)≠none→¬Pr.atb (blk a.loc)→Knows (t++MemOp.ofEvents i fn pos es) i k:=by
    intro k a ha hm he hd hs hna
    rcases h.gd k a ha hm hs hna with x|⟨p,x,y,z⟩
    · exact(x i (by rw [hth];simp)).app _
    · rw [he]
      have:=acq_knows (i:=i) (fn:=fn) (pos:=pos) h.norel (hdt.trans hd) x y
      exact Knows.of_before (z.app _) this
  have hov:∀op∈MemOp.ofEvents i fn pos es,∀a,op.act.touch?=some a→∀j,upd vs i v' j (blk a.loc)=none:=fun op hop a hoa j=>by
    obtain⟨x,y⟩:=hat _ (hnew op hop a hoa).1
    by_cases hj:j=i
    · subst hj;rw [upd_same];exact y
    · rw [upd_ne vs v' hj];exact x j
  refine⟨fun said=>noRace_append (h.nr said) hg fun k a ha op hop b hb' hc=>?_,fun j k a ha hm hO=>?_,fun j k a ha hm hO hw=>?_,fun k a ha hA hm=>?_,fun k a ha hm hS hA=>?_,h.norel.app (norel_s hev),fun op hop=>?_,fun j σ hj=>?_,fun k a ha hm=>?_,fun k g hk hg0 hc=>?_,fun j hj1 hj2=>?_,fun σ hσ ha=>?_⟩
  · obtain⟨hl,hm,hw,hkind⟩:=hc
    obtain⟨h1,h2,h3⟩:=hnew op hop b hb'
    rcases h.ato k a ha (by rw [hl];exact h1) hm with x|⟨x,y⟩|x
    · exfalso
      rcases h3 with h3|⟨h3,_⟩<;>rcases hkind with z|z|⟨_,z,_⟩<;>simp_all
    · rcases h3 with h3|⟨h3,h4⟩
      · exfalso;rcases hkind with z|z|⟨_,_,z⟩<;>simp_all
      · obtain⟨op',ho',hg'⟩:=Option.map_eq_some_iff.1 y
        have:=knows_own ho'
        rw [hg']at this
        rw [h4];exact this
    · exact x i (by rw [hth];simp)
  · rcases A2q ha with ⟨_,ha'⟩|⟨_,op,hop,hoa,hok⟩
    · by_cases hj:j=i
      · subst hj
        rw [upd_same]at hO
        rcases hown _ hO with x|⟨x,y,z⟩
        · exact(h.own j k a ha' hm x).app _
        · refine hgk k a ha' hm x y z fun hA=>?_
          obtain⟨o,ho⟩:=hO
          rw [(hat _ hA).2]at ho;cases ho
      · rw [upd_ne vs v' hj]at hO
        exact(h.own j k a ha' hm hO).app _
    · obtain⟨o,ho⟩:=hO
      rw [hov op hop a hoa j]at ho;cases ho
  · rcases A2q ha with ⟨_,ha'⟩|⟨_,op,hop,hoa,hok⟩
    · by_cases hj:j=i
      · subst hj
        rw [upd_same]at hO
        rcases hgain _ hO with x|⟨x,y,z⟩
        · exact(h.rd j k a ha' hm x hw).app _
        · exact hgk k a ha' hm x y z fun hA=>hO (hat _ hA).2
      · rw [upd_ne vs v' hj]at hO
        exact(h.rd j k a ha' hm hO hw).app _
    · exact absurd (hov op hop a hoa j) hO
  · rcases A2q ha with ⟨hk,ha'⟩|⟨_,op,hop,hoa,hok⟩
    · rcases h.ato k a ha' hA hm with x|⟨x,y⟩|x
      · exact .inl x
      · exact .inr (.inl ⟨x,A9m _ y⟩)
      · exact .inr (.inr fun j hj=>(x j (hact j hj)).app _)
    · obtain⟨_,_,h3⟩:=hnew op hop a hoa
      rcases h3 with h3|⟨h3,h4⟩
      · exact .inl h3
      · refine .inr (.inl ⟨h3,?_⟩)
        rw [Trace.g?,hok]
        simp [hg op hop,h4]
  · rcases A2q ha with ⟨hk,ha'⟩|⟨_,op,hop,hoa,hok⟩
    · rcases hlose _ hS with hS'|⟨he,hd,hO⟩
      · rcases h.gd k a ha' hm hS' hA with x|⟨p,x,y,z⟩
        · exact .inl fun j hj=>(x j (hact j hj)).app _
        · have hp:=lt_of_act? x
          exact .inr ⟨p,by rw [act?_old hp];exact x,(heard_old hp).2 y,z.app _⟩
      · refine .inr ⟨t.size,?_,?_,?_⟩
        · rw [he,A4g];simp [Trace.act?]
        · rw [he,A4g]
          exact⟨i,by simp [Trace.g?],by rw [deaf_old (Nat.le_refl _)];exact hdt.trans hd⟩
        · rw [he,A4g]
          exact .inr ((h.own i k a ha' hm hO).hb_new (Nat.le_refl _) (y:={g:=i,fn,pos,act:=.mark (.releaseMerge (Pr.lock (blk a.loc))) }) sM Z)
    · exact absurd (hnew op hop a hoa).1 hA
  · rcases Array.mem_append.1 hop with x|x
    · exact h.low op x
    · obtain⟨e,he,h1,_⟩:=A5x x
      rw [h1]
      exact evS_low (hev e he)
  · by_cases e:j=i
    · subst e
      rw [Deaf_own,hdt]
      exact hdeaf σ hj
    · rw [Deaf_other t (g':=i) (Ne.symm e) _ opsG]
      exact h.deaf j σ (by rw [←hoth j e];exact hj)
  · rcases A2q ha with ⟨hk,ha'⟩|⟨_,op,hop,hoa,hok⟩
    · rcases h.f1 k a ha' hm with x|x|⟨j,h1,h2,h3,h4⟩
      · exact .inl (x.app _)
      · exact .inr (.inl x)
      · exact .inr (.inr ⟨j,h1,by rw [hsz];exact h2,A9m _ h3,(counts_old hk).2 h4⟩)
    · obtain⟨h1,⟨c,h2⟩,h3⟩:=hnew op hop a hoa
      rcases h3 with h3|⟨h3,h4⟩
      · refine .inr (.inl ⟨?_,h3⟩)
        rw [h2]at h1⊢
        exact .inr h1
      · have:=knows_own hok
        have e0:op.g=0:=(hg op hop).trans h4
        rw [e0]at this
        exact .inl this
  · rcases B3n hk with ⟨h1,h2⟩|⟨_,op,hop,hog⟩
    · rcases h.f2 k g h2 hg0 ((counts_old h1).1 hc)with ⟨j,x,y⟩|x
      · exact .inl ⟨j,A9m _ x,hb_app _ y⟩
      · exact .inr (by rw [hsz];exact x)
    · rw [hg op hop]at hog
      subst hog
      rcases hi with x|x
      · exact absurd x hg0
      · exact .inr (by rw [hsz];exact x)
  · rw [hsz]at hj2
    by_cases hj:j=i
    · subst hj
      have hj0:j≠0:=oM
      have hmuteR:Pr.rel τ=true→∃p,RelBy Pr.fin (t++MemOp.ofEvents j fn pos es) j p:=fun hr=>by
        rcases h.relp j hj1 hj2 with ⟨σ,x,y⟩|⟨p,x⟩
        · rw [hth]at x;cases x;rw [hr]at y;cases y
        · exact⟨p,x.appOwn fn pos es (by rw [hdt];exact hmute hr)⟩
      rcases hrel hj0 with x|x|⟨x,y⟩
      · exact .inl x
      · exact .inr (hmuteR x)
      · refine .inr ⟨t.size,?_⟩
        rw [x]
        exact Go.ConcN.RelBy.new (hdt.trans y) fn pos
    · rcases h.relp j hj1 hj2 with ⟨σ,x,y⟩|⟨p,x⟩
      · exact .inl ⟨σ,by rw [hoth j hj];exact x,y⟩
      · exact .inr ⟨p,A4t x fun op hop=>by rw [hg op hop];exact Ne.symm hj⟩
  · have old:∀ρ,Pr.th γ 0=some ρ→Pr.acq ρ=true→∃q,(t++MemOp.ofEvents i fn pos es).g? q=some 0∧(t++MemOp.ofEvents i fn pos es).act? q=some (.mark (.acquire Pr.fin))∧(t++MemOp.ofEvents i fn pos es).heard q∧∀j,base≤j→j<Pr.size γ'→∃p,p<q∧RelBy Pr.fin (t++MemOp.ofEvents i fn pos es) j p:=fun ρ hρ hρa=>by
      obtain⟨q,h1,h2,h3,h4⟩:=h.acq ρ hρ hρa
      have hq:=lt_of_act? h2
      refine⟨q,A9m _ h1,by rw [act?_old hq];exact h2,(heard_old hq).2 h3,fun j hj1 hj2=>?_⟩
      rw [hsz]at hj2
      obtain⟨p,h5,h6⟩:=h4 j hj1 hj2
      refine⟨p,h5,?_⟩
      by_cases hj:j=i
      · subst hj
        rcases hacq0 ρ hρ hρa with x|x
        · omega
        · exact h6.appOwn fn pos es (by rw [hdt];exact hmute x)
      · exact A4t h6 fun op hop=>by rw [hg op hop];exact Ne.symm hj
    by_cases hi0:i=0
    · subst hi0
      rcases hacq σ rfl hσ ha with x|⟨x,y,z⟩
      · exact old τ hth x
      · refine⟨t.size,?_,?_,?_,fun j hj1 hj2=>?_⟩
        · rw [x,A4g];simp [Trace.g?]
        · rw [x,A4g];simp [Trace.act?]
        · rw [x,A4g]
          exact⟨0,by simp [Trace.g?],by rw [deaf_old (Nat.le_refl _)];exact hdt.trans y⟩
        · rw [hsz]at hj2
          rcases h.relp j hj1 hj2 with ⟨ρ,u,w⟩|⟨p,u⟩
          · rw [z j hj1 hj2 ρ u]at w;cases w
          · exact⟨p,lt_of_act? u.act,A4t u fun op hop=>by rw [hg op hop];omega⟩
    · exact old σ (by rw [←hoth 0 (Ne.symm hi0)];exact hσ) ha
theorem TI.spawn(h:TI Pr base S γ vs lo t)(hbs:0<base)(hc:base≤Pr.size γ)(hth:Pr.th γ 0=some τ)(hd:Pr.deaf τ=0)(habove:Deaf t (Pr.size γ)=0){c:Nat}(hcc:c=Pr.size γ)(hnone:Pr.th γ c=none)
  {σ0 σc:Pr.T}(h0:Pr.th γ' 0=some σ0)(hcth:Pr.th γ' c=some σc)(hoth:∀j,j≠0→j≠c→Pr.th γ' j=Pr.th γ j)(hsz:Pr.size γ'=c+1)(hd0:Pr.deaf σ0=0)(hdc:Pr.deaf σc=0)(hrel:Pr.rel σc=false)(hacq:Pr.acq σ0=false)
  (hsh:∀b,Pr.sh γ' b≠none→Pr.sh γ b≠none){u uc:View}(hu:∀b,u b≠none→vs 0 b≠none)(hu':∀b,u.Owns b→(vs 0).Owns b)(huc:∀b,uc b≠none→vs 0 b≠none)(huc':∀b,uc.Owns b→(vs 0).Owns b)(fn₁ fn₂:FuncId)(pos₁ pos₂:String) :
  TI Pr base S γ' (upd (upd vs 0 u) c uc) lo (t++#[{g:=0,fn:=fn₁,pos:=pos₁,act:=.go c },{g:=c,fn:=fn₂,pos:=pos₂,act:=.start }]):=by
 subst hcc
 have hc0:Pr.size γ≠0:=oM
 generalize hx:({g:=0,fn:=fn₁,pos:=pos₁,act:=.go (Pr.size γ) }:MemOp)=x
 generalize hy:({g:=Pr.size γ,fn:=fn₂,pos:=pos₂,act:=.start }:MemOp)=y
 have hx1:x.g=0∧x.act = .go (Pr.size γ):=by rw [←hx];exact⟨Z,Z⟩
 have hy1:y.g=Pr.size γ∧y.act = .start:=by rw [←hy];exact⟨Z,Z⟩
 have hdt:Deaf t 0=0:=(h.deaf 0 τ hth).trans hd
 have hck:∀k,Knows t 0 k→Knows (t++#[x,y]) (Pr.size γ) k:=fun k hk=>fork_knows hx1 hy1 hdt habove hk
 have hops:∀op∈#[x,y],op=x∨op=y:=fun op hop=>by simpa using hop
 have hnt:∀op∈#[x,y],op.act.touch?=none:=fun op hop=>by
  rcases hops op hop with rfl|rfl
  ·rw [hx1.2];rfl
  ·rw [hy1.2];rfl
 have told:∀{k a},touchAt (t++#[x,y]) k=some a→k<t.size∧touchAt t k=some a:=fun ha=>by
  rcases A2q ha with h1|⟨_,op,hop,hoa,_⟩
  ·exact h1
  ·rw [hnt op hop]at hoa;cases hoa
 have hkn:∀j k,(∀i,Pr.th γ i≠none→Knows t i k)→Pr.th γ' j≠none→Knows (t++#[x,y]) j k:=fun j k hk hj=>by
  by_cases e:j=Pr.size γ
  ·rw [e];exact hck k (hk 0 (by rw [hth];simp))
  ·by_cases e0:j=0
   ·rw [e0];exact(hk 0 (by rw [hth];simp)).app _
   ·exact(hk j (by rw [←hoth j e0 e];exact hj)).app _
 have hdeaf:∀j,Deaf (t++#[x,y]) j=Deaf t j:=fun j=>by
  have:t++#[x,y]=(t++#[x])++#[y]:=by apply Array.ext';simp
  rw [this,Deaf_push,Deaf_push]
  simp only [deafStep,hx1.2,hy1.2]
 have nocount:∀k,t.size≤k→¬(t++#[x,y]).counts k:=fun k hk ⟨z,hz,_⟩=>by
  have:=(told (show touchAt (t++#[x,y]) k=some z from hz)).1;omega
 refine⟨fun said=>?_,fun j k a ha hm hO=>?_,fun j k a ha hm hO hw=>?_,fun k a ha hA hm=>?_,fun k a ha hm hS hA=>?_,h.norel.app fun op hop A=>?_,fun op hop=>?_,fun j σ hj=>?_,fun k a ha hm=>?_,fun k g hk hg0 hct=>?_,fun j hj1 hj2=>?_,fun σ hσ ha=>?_⟩
 ·rintro⟨i,j,hij,⟨a,b,ha,hb,hc'⟩,n1,n2⟩
  have h1:=told ha
  have h2:=told hb
  exact h.nr said ⟨i,j,hij,⟨a,b,h1.2,h2.2,hc'⟩,fun e=>n1 (hb_app _ e),fun e=>n2 (hb_app _ e)⟩
 ·obtain⟨hk,ha'⟩:=told ha
  by_cases e:j=Pr.size γ
  ·rw [e,upd_same]at hO
   rw [e]
   exact hck k (h.own 0 k a ha' hm (huc' _ hO))
  ·rw [upd_ne _ _ e]at hO
   by_cases e0:j=0
   ·rw [e0,upd_same]at hO
    rw [e0]
    exact(h.own 0 k a ha' hm (hu' _ hO)).app _
   ·rw [upd_ne _ _ e0]at hO
    exact(h.own j k a ha' hm hO).app _
 ·obtain⟨hk,ha'⟩:=told ha
  by_cases e:j=Pr.size γ
  ·rw [e,upd_same]at hO
   rw [e]
   exact hck k (h.rd 0 k a ha' hm (huc _ hO) hw)
  ·rw [upd_ne _ _ e]at hO
   by_cases e0:j=0
   ·rw [e0,upd_same]at hO
    rw [e0]
    exact(h.rd 0 k a ha' hm (hu _ hO) hw).app _
   ·rw [upd_ne _ _ e0]at hO
    exact(h.rd j k a ha' hm hO hw).app _
 ·obtain⟨hk,ha'⟩:=told ha
  rcases h.ato k a ha' hA hm with x'|⟨x',y'⟩|x'
  ·exact .inl x'
  ·exact .inr (.inl ⟨x',A9m _ y'⟩)
  ·exact .inr (.inr fun j hj=>hkn j k x' hj)
 ·obtain⟨hk,ha'⟩:=told ha
  rcases h.gd k a ha' hm (hsh _ hS) hA with x'|⟨p,x',y',z'⟩
  ·exact .inl fun j hj=>hkn j k x' hj
  ·have hp:=lt_of_act? x'
   exact .inr ⟨p,by rw [act?_old hp];exact x',(heard_old hp).2 y',z'.app _⟩
 ·rcases hops op hop with rfl|rfl
  ·rw [hx1.2];simp
  ·rw [hy1.2];simp
 ·rcases Array.mem_append.1 hop with z|z
  ·exact h.low op z
  ·rcases hops op z with rfl|rfl
   ·rw [hx1.2];trivial
   ·rw [hy1.2];trivial
 ·rw [hdeaf]
  by_cases e:j=Pr.size γ
  ·rw [e,hcth]at hj;cases hj;rw [e,habove,hdc]
  ·by_cases e0:j=0
   ·rw [e0,h0]at hj;cases hj;rw [e0,hdt,hd0]
   ·exact h.deaf j σ (by rw [←hoth j e0 e];exact hj)
 ·obtain⟨hk,ha'⟩:=told ha
  rcases h.f1 k a ha' hm with x'|x'|⟨j,h1,h2,h3,h4⟩
  ·exact .inl (x'.app _)
  ·exact .inr (.inl x')
  ·exact .inr (.inr ⟨j,h1,oM,A9m _ h3,(counts_old hk).2 h4⟩)
 ·rcases B3n hk with ⟨h1,h2⟩|⟨h1,_⟩
  ·rcases h.f2 k g h2 hg0 ((counts_old h1).1 hct)with ⟨j,x',y'⟩|x'
   ·exact .inl ⟨j,A9m _ x',hb_app _ y'⟩
   ·exact .inr ⟨x'.1,oM⟩
  ·exact absurd hct (nocount k h1)
 ·rw [hsz]at hj2
  by_cases e:j=Pr.size γ
  ·exact .inl ⟨σc,by rw [e];exact hcth,hrel⟩
  ·rcases h.relp j hj1 oM with ⟨σ,z,z'⟩|⟨p,z⟩
   ·exact .inl ⟨σ,by rw [hoth j oM e];exact z,z'⟩
   ·refine .inr ⟨p,A4t z fun op hop=>?_⟩
    rcases hops op hop with rfl|rfl
    ·rw [hx1.1];omega
    ·rw [hy1.1];exact Ne.symm e
 ·rw [h0]at hσ;cases hσ;rw [hacq]at ha;cases ha
theorem TI.slip(h:TI Pr base S γ vs lo t)(hth:Pr.th γ i=none)(hi0:i≠0)(hm:∀e∈es,e.mute=true):TI Pr base S γ vs lo (t++MemOp.ofEvents i fn pos es):=by
 have hg:∀op∈MemOp.ofEvents i fn pos es,op.g=i:=opsG
 have hnt:∀op∈MemOp.ofEvents i fn pos es,op.act.touch?=none:=fun op hop=>by
  obtain⟨e,he,h1,_⟩:=A5x hop
  rw [h1];exact touch_mute (hm e he)
 have told:∀{k a},touchAt (t++MemOp.ofEvents i fn pos es) k=some a→k<t.size∧touchAt t k=some a:=fun ha=>by
  rcases A2q ha with h1|⟨_,op,hop,hoa,_⟩
  ·exact h1
  ·rw [hnt op hop]at hoa;cases hoa
 have nocount:∀k,t.size≤k→¬(t++MemOp.ofEvents i fn pos es).counts k:=fun k hk ⟨z,hz,_⟩=>by
  have:=(told (show touchAt (t++MemOp.ofEvents i fn pos es) k=some z from hz)).1;omega
 have hrel:∀{A j p},RelBy A t j p→RelBy A (t++MemOp.ofEvents i fn pos es) j p:=fun h=>h.app fun k hk _=>nocount k hk
 refine⟨fun said=>?_,fun j k a ha hm hO=>?_,fun j k a ha hm hO hw=>?_,fun k a ha hA hm=>?_,fun k a ha hm hS hA=>?_,h.norel.app (norel_mute hm),fun op hop=>?_,fun j σ hj=>?_,fun k a ha hm=>?_,fun k g hk hg0 hct=>?_,fun j hj1 hj2=>?_,fun σ hσ ha=>?_⟩
 ·rintro⟨i,j,hij,⟨a,b,ha,hb,hc'⟩,n1,n2⟩
  exact h.nr said ⟨i,j,hij,⟨a,b,(told ha).2,(told hb).2,hc'⟩,fun e=>n1 (hb_app _ e),fun e=>n2 (hb_app _ e)⟩
 ·exact(h.own j k a (told ha).2 hm hO).app _
 ·exact(h.rd j k a (told ha).2 hm hO hw).app _
 ·rcases h.ato k a (told ha).2 hA hm with x'|⟨x',y'⟩|x'
  ·exact .inl x'
  ·exact .inr (.inl ⟨x',A9m _ y'⟩)
  ·exact .inr (.inr fun j hj=>(x' j hj).app _)
 ·rcases h.gd k a (told ha).2 hm hS hA with x'|⟨p,x',y',z'⟩
  ·exact .inl fun j hj=>(x' j hj).app _
  ·have hp:=lt_of_act? x'
   exact .inr ⟨p,by rw [act?_old hp];exact x',(heard_old hp).2 y',z'.app _⟩
 ·rcases Array.mem_append.1 hop with z|z
  ·exact h.low op z
  ·obtain⟨e,he,h1,_⟩:=A5x z
   rw [h1];exact low_mute (hm e he) lo
 ·rw [Deaf_other t (g':=i) (fun e=>by rw [e,hj]at hth;cases hth) _ opsG]
  exact h.deaf j σ hj
 ·rcases h.f1 k a (told ha).2 hm with x'|x'|⟨j,h1,h2,h3,h4⟩
  ·exact .inl (x'.app _)
  ·exact .inr (.inl x')
  ·exact .inr (.inr ⟨j,h1,h2,A9m _ h3,(counts_old (told ha).1).2 h4⟩)
 ·rcases B3n hk with ⟨h1,h2⟩|⟨h1,_⟩
  ·rcases h.f2 k g h2 hg0 ((counts_old h1).1 hct)with ⟨j,x',y'⟩|x'
   ·exact .inl ⟨j,A9m _ x',hb_app _ y'⟩
   ·exact .inr x'
  ·exact absurd hct (nocount k h1)
 ·rcases h.relp j hj1 hj2 with z|⟨p,z⟩
  ·exact .inl z
  ·exact .inr ⟨p,hrel z⟩
 ·obtain⟨q,h1,h2,h3,h4⟩:=h.acq σ hσ ha
  have hq:=lt_of_act? h2
  refine⟨q,A9m _ h1,by rw [act?_old hq];exact h2,(heard_old hq).2 h3,fun j hj1 hj2=>?_⟩
  obtain⟨p,h5,h6⟩:=h4 j hj1 hj2
  exact⟨p,h5,hrel h6⟩
theorem TI.past(h:TI Pr base S γ vs lo t)(hbs:0<base)(hth:Pr.th γ 0=some τ)(ha:Pr.acq τ=true)(hd:Pr.deaf τ=0):Past (ShunL (fun b=>S b∨Pr.atb b)) lo t:=by
 obtain⟨q,h1,h2,h3,h4⟩:=h.acq τ hth ha
 have key:∀i,base≤i→i<Pr.size γ→∀k,t.g? k=some i→t.counts k→HappensBefore t k q:=fun i hi1 hi2 k hk hc=>by
  obtain⟨p,h5,h6⟩:=h4 i hi1 hi2
  have hkp:k≤p:=Nat.le_of_not_lt fun hlt=>h6.after k hlt hk hc
  have hpq:HappensBefore t p q:=.single (.inr ⟨.marked h5 (.inr h6.act) h2 (fun r _ _ hr=>by
   obtain⟨op,ho,hoa⟩:=Option.map_eq_some_iff.1 hr
   exact h.norel op (Array.mem_of_getElem? ho) _ hoa),h6.heard,h3⟩)
  rcases Nat.eq_or_lt_of_le hkp with rfl|hlt
  ·exact hpq
  ·obtain⟨x,hx,hxg⟩:=Option.map_eq_some_iff.1 hk
   obtain⟨y,hy,hyg⟩:=Option.map_eq_some_iff.1 h6.g
   exact(hb_po hlt hx hy (hxg.trans hyg.symm)).trans hpq
 refine⟨h.nr,fun k a hka hm=>?_,fun k g hg hne hc=>?_,(h.deaf 0 τ hth).trans hd,h.low⟩
 ·rcases h.f1 k a hka hm with x|x|⟨i,hi1,hi2,hg,hc⟩
  ·exact .inl x
  ·exact .inr x
  ·obtain⟨y,hy,hyg⟩:=Option.map_eq_some_iff.1 h1
   exact .inl ⟨q,y,hy,hyg,.inr (key i hi1 hi2 k hg hc)⟩
 ·rcases h.f2 k g hg hne hc with x|x
  ·exact x
  ·exact⟨q,h1,key g x.1 x.2 k hg hc⟩
end
end Go.Pal
end
section
namespace Go.Pal
open Go Go.Conc View
open Go.ConcN (upd upd_ne upd_same RelBy)
inductive Tree where
 | leaf
 | node(f:World→Tree)
inductive Tree.Lt:Tree→Tree→Prop
 | sub (f:World→Tree) (w:World):Tree.Lt (f w) (.node f)
theorem Tree.acc:∀T:Tree,Acc Tree.Lt T
 | .leaf=>⟨_,fun y h=>by cases h⟩
 | .node f=>⟨_,fun y h=>by cases h with|sub _ w=>exact Tree.acc (f w)⟩
def Tree.ofNat:Nat→Tree
 | 0=>.leaf
 | n+1=>.node fun _=>Tree.ofNat n
inductive LL:List Tree→List Tree→Prop
 | head {a b:Tree} {l:List Tree}:Tree.Lt a b→LL (a::l) (b::l)
 | tail {a:Tree} {l m:List Tree}:LL l m→LL (a::l) (a::m)
theorem LL.acc_cons:∀{a:Tree},Acc Tree.Lt a→∀{l:List Tree},Acc LL l→Acc LL (a::l):=by
 intro a ha
 induction ha with
 | intro a _ iha=>
  intro l hl
  induction hl with
  | intro l hl' ihl=>
   exact⟨_,fun y hy=>by
    cases hy with
    | head h=>exact iha _ h ⟨_,hl'⟩
    | tail h=>exact ihl _ h⟩
theorem LL.acc:∀l:List Tree,Acc LL l
 | []=>⟨_,fun y h=>by cases h⟩
 | a::l=>LL.acc_cons (Tree.acc a) (LL.acc l)
def rowT:Nat→(Nat→Tree)→List Tree
 | 0,_=>[]
 | n+1,f=>f n::rowT n f
theorem rowT_congr{f g:Nat→Tree}:∀{n:Nat},(∀i,i<n→f i=g i)→rowT n f=rowT n g
 | 0,_=>rfl
 | n+1,h=>by rw [rowT,rowT,h n oM,rowT_congr fun i hi=>h i oM]
theorem LL.upd{f:Nat→Tree}{i:Nat}{T:Tree}(h:Tree.Lt T (f i)):∀{n:Nat},i<n→LL (rowT n (upd f i T)) (rowT n f)
 | n+1,hi=>by
  rw [rowT,rowT]
  by_cases e:i=n
  ·subst e
   rw [upd_same,rowT_congr (g:=f) fun j hj=>upd_ne f T oM]
   exact .head h
  ·rw [upd_ne f T (Ne.symm e)]
   exact .tail (LL.upd h oM)
inductive MRun(P:Program)(Stop:Goroutine→Prop):Goroutine→Prop
 | stop {g:Goroutine} (h:Stop g):MRun P Stop g
 | step {g g':Goroutine} (hs:g.status = .running) (h:∀w,stepG P false g w = .go g' w #[]) (r:MRun P Stop g'):MRun P Stop g
inductive RunW(P:Program)(main:Bool)(W:World→Prop)(Stop:View→Goroutine→Prop):View→Goroutine→Prop
 | stop {u v:View} {g:Goroutine} (hl:u.Le v) (h:Stop u g):RunW P main W Stop v g
 | step {v:View} {g:Goroutine} (hs:g.status = .running) (ng:World→Goroutine) (nw:World→World) (ne:World→Array Event) (nv:World→View)
   (h:∀w,W w→v.Agree w→stepG P main g w = .go (ng w) (nw w) (ne w)∧StepOk v w (nv w) (nw w) (ne w))
   (r:∀w,W w→v.Agree w→RunW P main W Stop (nv w) (ng w)):RunW P main W Stop v g
theorem RunW.weaken{P:Program}{main:Bool}{W:World→Prop}{Stop:View→Goroutine→Prop}{u v:View}{g:Goroutine}(h:RunW P main W Stop u g)(hl:u.Le v):RunW P main W Stop v g:=by
 cases h with
 | stop hl' h=>exact .stop (hl'.trans hl) h
 | step hs ng nw ne nv h r=>exact .step hs ng nw ne nv (fun w hW hw=>⟨(h w hW (hw.le hl)).1,(h w hW (hw.le hl)).2.le hl⟩) (fun w hW hw=>r w hW (hw.le hl))
theorem RunW.of_run{P:Program}{mn:Who}{W:World→Prop}{Stop:View→Goroutine→Prop}(hp:mn.ph=false){v:View}{g:Goroutine}(h:Run P mn (fun u g=>RunW P mn.main W Stop u g) v g):RunW P mn.main W Stop v g:=by
 induction h with
 | stop hl h=>exact h.weaken hl
 | step hs ng nw ne nv h r ih=>exact .step hs ng nw ne nv (fun w _ hw=>h w hw) (fun w _ hw=>ih w hw)
 | phase hp'=>rw [hp]at hp';cases hp'
def RunT(P:Program)(main:Bool)(W:World→Prop)(Stop:View→Goroutine→Prop):Tree→View→Goroutine→Prop
 | .leaf,v,g=>∃u,View.Le u v∧Stop u g
 | .node f,v,g=>g.status = .running∧∀w,W w→v.Agree w→∃g' w' es v',stepG P main g w = .go g' w' es∧StepOk v w v' w' es∧RunT P main W Stop (f w) v' g'
def RunM(P:Program)(Stop:Goroutine→Prop):Tree→Goroutine→Prop
 | .leaf,g=>Stop g
 | .node f,g=>g.status = .running∧∃g',(∀w,stepG P false g w = .go g' w #[])∧∀w,RunM P Stop (f w) g'
theorem runT_of{P:Program}{main:Bool}{W:World→Prop}{Stop:View→Goroutine→Prop}{v:View}{g:Goroutine}(h:RunW P main W Stop v g):∃T,RunT P main W Stop T v g:=by
 classical
 induction h with
 | stop hl h=>exact⟨.leaf,_,hl,h⟩
 | @step v g hs ng nw ne nv h r ih=>
  have key:∀w,∃T,W w→v.Agree w→RunT P main W Stop T (nv w) (ng w):=fun w=>by
   by_cases hw:W w∧v.Agree w
   ·obtain⟨T,hT⟩:=ih w hw.1 hw.2;exact⟨T,fun _ _=>hT⟩
   ·exact⟨.leaf,fun e1 e2=>absurd ⟨e1,e2⟩ hw⟩
  exact⟨.node fun w=>Classical.choose (key w),hs,fun w hW hw=>⟨_,_,_,_,(h w hW hw).1,(h w hW hw).2,Classical.choose_spec (key w) hW hw⟩⟩
theorem runM_of{P:Program}{Stop:Goroutine→Prop}{g:Goroutine}(h:MRun P Stop g):∃T,RunM P Stop T g:=by
 induction h with
 | stop h=>exact⟨.leaf,h⟩
 | step hs h r ih=>
  obtain⟨T,hT⟩:=ih
  exact⟨.node fun _=>T,hs,_,h,fun _=>hT⟩
section
variable(P:Program)(Pr:Proto)(base:Nat)
structure SS(i:Nat)(γ:Pr.G)(τ:Pr.T)(u:View)(w:World)(γ':Pr.G)(u':View)(w':World)(es:Array Event):Prop where
 tr:Pr.tr γ i γ'
 size:Pr.size γ'=Pr.size γ
 tape:w'.tape=w.tape
 output:w'.output=w.output
 os:Go.ConcM.OsLater w.os w'.os
 heap:w'.heap.size=w.heap.size
 agree:u'.Agree w'
 agreeS:(Pr.sh γ').Agree w'
 keep:∀b,¬u.Owns b→Pr.sh γ b=none→w'.heap[b]?=w.heap[b]?
 disj:Disj u' (Pr.sh γ')
 ev:∀e∈es,EvS Pr i w.heap.size e
 deaf:∀σ,Pr.th γ' i=some σ→deafBehind (Pr.deaf τ) es=Pr.deaf σ
 gain:∀b,u' b≠none→u b≠none∨(es=#[mkE (.acquire (Pr.lock b))]∧Pr.deaf τ=0∧Pr.sh γ b≠none)
 own:∀b,u'.Owns b→u.Owns b∨(es=#[mkE (.acquire (Pr.lock b))]∧Pr.deaf τ=0∧Pr.sh γ b≠none)
 lose:∀b,Pr.sh γ' b≠none→Pr.sh γ b≠none∨(es=#[mkE (.releaseMerge (Pr.lock b))]∧Pr.deaf τ=0∧u.Owns b)
 mute:Pr.rel τ=true→∀j e,es[j]?=some e→(MemAct.ofEvent e).touch?=none∨((∃ad wr,e=⟨.cell ad,wr,true⟩)∧0<deafBehind (Pr.deaf τ) (es.extract 0 j))
 rel:i≠0→(∃σ,Pr.th γ' i=some σ∧Pr.rel σ=false)∨Pr.rel τ=true∨(es=#[mkE (.releaseMerge Pr.fin)]∧Pr.deaf τ=0)
 acq:∀σ,i=0→Pr.th γ' 0=some σ→Pr.acq σ=true→Pr.acq τ=true∨(es=#[mkE (.acquire Pr.fin)]∧Pr.deaf τ=0)
noncomputable def Proto.rest (γ:Pr.G):View:=fun b=>by classical exact if Pr.atb b then none else Pr.sh γ b
variable(K:View→Goroutine→Prop)(X:Nat→Pr.T→View→Goroutine→Prop)
inductive AtOut(i:Nat)(τ:Pr.T)(u:View)(g:Goroutine)(γ:Pr.G)(w:World):Prop
 | on (γ':Pr.G) (τ':Pr.T) (u':View) (g':Goroutine) (w':World) (es:Array Event) (h:stepG P (i==0) g w = .go g' w' es) (hS:SS Pr i γ τ u w γ' u' w' es) (ht:Pr.th γ' i=some τ') (hr:Pr.rel τ'=true→u'=noView) (hx:X i τ' u' g')
 | quit (γ':Pr.G) (g':Goroutine) (w':World) (es:Array Event) (q:Nat) (hi:i≠0) (h:stepG P false g w = .go g' w' es) (hs:g'.status = .running) (hS:SS Pr i γ τ u w γ' noView w' es) (ht:Pr.th γ' i=none) (hq:QuitsD P q (deafBehind (Pr.deaf τ) es) g')
 | spawn (γ':Pr.G) (τ' τc:Pr.T) (u' uc:View) (g' child:Goroutine) (hi:i=0) (h:stepG P true g w = .spawn g' child w #[]) (htr:Pr.tr γ 0 γ') (hsz:Pr.size γ'=Pr.size γ+1) (ht:Pr.th γ' 0=some τ') (hc:Pr.th γ' (Pr.size γ)=some τc)
   (hd:Pr.deaf τ=0) (hd':Pr.deaf τ'=0) (hdc:Pr.deaf τc=0) (hrel:Pr.rel τc=false) (hacq:Pr.acq τ'=false) (hsh:Pr.sh γ'=Pr.sh γ)
   (hu:u'.Le u) (huc:∀b x,uc b=some x→∃p,u b=some (p,x.2)∧(x.1=true→p=true)) (hex:∀b,(u'.Owns b→uc b=none)∧(uc.Owns b→u' b=none)) (hx:X 0 τ' u' g') (hxc:X (Pr.size γ) τc uc child)
 | over (hi:i=0) (h:Pr.over γ) (hk:K (u.union (Pr.rest γ)) g)
def AtF(i:Nat)(τ:Pr.T)(u:View)(g:Goroutine):Prop:=
 g.status = .running∧g.offers=none∧(Pr.wakes τ=true→mayWake P g=true)∧
 ∀ γ w,Pr.ok γ→Pr.th γ i=some τ→u.Agree w→(Pr.sh γ).Agree w→Disj u (Pr.sh γ)→Calm w.tape→
  (Pr.blocks γ i→stepG P (i==0) g w = .go {g with status:=.blocked } w #[])∧(¬Pr.blocks γ i→AtOut P Pr K X i τ u g γ w)
def _root_.Go.Pal.Proto.Wd(Pr:Proto)(w:World):Prop:=∃γ,Pr.ok γ∧(Pr.sh γ).Agree w
def Job:Nat→Nat→Pr.T→View→Goroutine→Prop
 | 0,_,_,_,_=>True
 | n+1,i,τ,v,g=>(Pr.rel τ=false∧RunW P (i==0) Pr.Wd (AtF P Pr K (Job n) i τ) v g)∨(Pr.rel τ=true∧v=noView∧MRun P (AtF P Pr K (Job n) i τ noView) g)
end
structure Laws(Pr:Proto)(base:Nat):Prop where
 ok:∀{γ i γ'},Pr.ok γ→Pr.tr γ i γ'→Pr.ok γ'
 rank:∀{γ i γ'},Pr.ok γ→Pr.tr γ i γ'→Pr.rank γ'<Pr.rank γ
 oth:∀{γ i γ'},Pr.ok γ→Pr.tr γ i γ'→∀j,j≠i→j≠Pr.size γ→Pr.th γ' j=Pr.th γ j
 lt:∀{γ j τ},Pr.ok γ→Pr.th γ j=some τ→j=0∨(base≤j∧j<Pr.size γ)
 baseLe:∀{γ},Pr.ok γ→base≤Pr.size γ
 live:∀{γ},Pr.ok γ→∃i τ,Pr.th γ i=some τ∧¬Pr.blocks γ i
 wake:∀{γ i γ' τ j},Pr.ok γ→Pr.th γ i=some τ→Pr.tr γ i γ'→j≠i→Pr.blocks γ j→¬Pr.blocks γ' j→Pr.wakes τ=true
 acq0:∀{γ σ i τ},Pr.ok γ→Pr.th γ 0=some σ→Pr.acq σ=true→Pr.th γ i=some τ→i=0∨Pr.rel τ=true
 acqT:∀{γ γ' τ σ},Pr.ok γ→Pr.tr γ 0 γ'→Pr.th γ 0=some τ→Pr.th γ' 0=some σ→Pr.acq σ=true→Pr.acq τ=true∨(∀j,base≤j→j<Pr.size γ→∀ρ,Pr.th γ j=some ρ→Pr.rel ρ=true)
 main:∀{γ},Pr.ok γ→∃τ,Pr.th γ 0=some τ∧Pr.rel τ=false
 over:∀{γ},Pr.ok γ→Pr.over γ→(∀j,j≠0→Pr.th γ j=none)∧∀τ,Pr.th γ 0=some τ→Pr.acq τ=true∧Pr.deaf τ=0
 atbS:∀{γ b},Pr.ok γ→Pr.atb b→Pr.sh γ b≠none
section
variable(P:Program)(Pr:Proto)(base:Nat)(K:View→Goroutine→Prop)
def Sit(j:Nat)(τ:Pr.T)(n:Nat)(T:Tree)(v:View)(g:Goroutine)(γ:Pr.G):Prop:=
 (Pr.rel τ=false∧RunT P (j==0) Pr.Wd (AtF P Pr K (Job P Pr K n) j τ) T v g)∨(Pr.rel τ=true∧v=noView∧RunM P (AtF P Pr K (Job P Pr K n) j τ noView) T g)∨
 (T = .leaf∧Pr.blocks γ j∧∃u g₀,View.Le u v∧g={g₀ with status:=.blocked }∧AtF P Pr K (Job P Pr K n) j τ u g₀∧(Pr.rel τ=true→v=noView))
structure PInv(S:Nat→Prop)(v0:View)(w0:World)(γ:Pr.G)(vs:Nat→View)(Ts:Nat→Tree)(ns:Nat→Nat)(gs:Array Goroutine)(w:World)(t:Trace):Prop where
 size:gs.size=Pr.size γ
 ok:Pr.ok γ
 lev:∀j,Pr.rank γ≤ns j
 sit:∀j g τ,gs[j]?=some g→Pr.th γ j=some τ→Sit P Pr K j τ (ns j) (Ts j) (vs j) g γ
 gone:∀j g,gs[j]?=some g→Pr.th γ j=none→∃q,Ts j=Tree.ofNat q∧QuitsD P q (Deaf t j) g
 above:∀j,gs.size≤j→Deaf t j=0
 agree:∀j,(vs j).Agree w
 agreeS:(Pr.sh γ).Agree w
 excl:∀i j,i≠j→∀b,(vs i).Owns b→vs j b=none
 disj:∀j,Disj (vs j) (Pr.sh γ)
 nov:∀j,Pr.th γ j=none→vs j=noView
 shun:∀b,S b→(∀j,vs j b=none)∧Pr.sh γ b=none∧b<w.heap.size
 ti:TI Pr base S γ vs w.heap.size t
 calm:Calm w.tape
 tape:w.tape=w0.tape
 output:w.output=w0.output
 os:Go.ConcM.OsLater w0.os w.os
 heap:w0.heap.size≤w.heap.size
 keep:∀b,b<w0.heap.size→¬v0.Owns b→w.heap[b]?=w0.heap[b]?
 dom:∀j b,vs j b≠none→v0 b≠none∨w0.heap.size≤b
 own:∀j b,(vs j).Owns b→v0.Owns b∨w0.heap.size≤b
 ownS:∀b,Pr.sh γ b≠none→v0.Owns b∨w0.heap.size≤b
end
end Go.Pal
end
section
namespace Go.Pal
open Go Go.Conc View
open Go.ConcN (sumTo upd sumTo_upd upd_ne upd_same RelBy sumTo_congr)
def runB:Option Goroutine→Nat
 | some g=>if g.status = .running then 1 else 0
 | none=>0
def B1p(gs:Array Goroutine):Nat:=sumTo gs.size fun j=>runB gs[j]?
section
variable{P:Program}{Pr:Proto}{base:Nat}{K:View→Goroutine→Prop}{S:Nat→Prop}{v0:View}{w0:World}{γ γ':Pr.G}{vs:Nat→View}{Ts:Nat→Tree}{ns:Nat→Nat}{gs:Array Goroutine}{w:World}{t:Trace}
theorem RunT.running{main:Bool}{W:World→Prop}{Stop:View→Goroutine→Prop}(hs:∀u g,Stop u g→g.status = .running):∀{T:Tree} {v:View} {g:Goroutine},RunT P main W Stop T v g→g.status = .running
 | .leaf,_,_,⟨_,_,h⟩=>hs _ _ h
 | .node _,_,_,h=>h.1
theorem RunM.running{Stop:Goroutine→Prop}(hs:∀g,Stop g→g.status = .running):∀{T:Tree} {g:Goroutine},RunM P Stop T g→g.status = .running
 | .leaf,_,h=>hs _ h
 | .node _,_,h=>h.1
theorem AtF.running{X:Nat→Pr.T→View→Goroutine→Prop}{i:Nat}{τ:Pr.T}{u:View}{g:Goroutine}(h:AtF P Pr K X i τ u g):g.status = .running:=h.1
theorem Sit.status{j:Nat}{τ:Pr.T}{n:Nat}{T:Tree}{v:View}{g:Goroutine}(h:Sit P Pr K j τ n T v g γ):g.status = .running∨g.status = .blocked:=by
 rcases h with ⟨_,h⟩|⟨_,_,h⟩|⟨_,_,_,_,_,rfl,_⟩
 ·exact .inl (h.running fun _ _ x=>AtF.running x)
 ·exact .inl (h.running fun _ x=>AtF.running x)
 ·exact .inr Z
theorem Sit.other{j:Nat}{τ:Pr.T}{n:Nat}{T:Tree}{v:View}{x g g':Goroutine}{w':World}(h:Sit P Pr K j τ n T v x γ)(hw:Pr.blocks γ j→¬Pr.blocks γ' j→mayWake P g=true∧g'.status = .running) :
    Sit P Pr K j τ n T v (woken P g g' w' x) γ':=by
  rcases h with ⟨h1,h2⟩|⟨h1,h2,h3⟩|⟨rfl,hb,u,g₀,hl,rfl,hA,hv⟩
  · rw [woken_running (h2.running fun _ _ x=>AtF.running x)]
    exact .inl ⟨h1,h2⟩
  · rw [woken_running (h3.running fun _ x=>AtF.running x)]
    exact .inr (.inl ⟨h1,h2,h3⟩)
  · by_cases hc:(mayWake P g&&g'.status != .blocked&&g'.status != .waiting)=true
    · have:woken P g g' w' {g₀ with status:=.blocked }=g₀:=by unfold woken;rw [if_pos hc];exact Go.ConcR.again_blocked hA.1 hA.2.1 _
      rw [this]
      cases hr:Pr.rel τ with
      | false=>exact .inl ⟨hr,u,hl,hA⟩
      | true=>
        have hv':=hv hr
        refine .inr (.inl ⟨hr,hv',?_⟩)
        have:u=noView:=by
          funext b
          cases hu:u b with
          | none=>rfl
          | some y=>have:=hl _ _ hu;rw [hv']at this;cases this
        rw [this]at hA
        exact hA
    · have:woken P g g' w' {g₀ with status:=.blocked }={g₀ with status:=.blocked }:=by unfold woken;rw [if_neg hc]
      rw [this]
      refine .inr (.inr ⟨Z,?_,u,g₀,hl,Z,hA,hv⟩)
      apply Classical.byContradiction
      intro hnb
      obtain⟨h1,h2⟩:=hw hb hnb
      exact hc (by simp [h1,h2])
theorem PInv.at(I:PInv P Pr base K S v0 w0 γ vs Ts ns gs w t)(d:Nat):PInv P Pr base K S v0 w0 γ vs Ts ns gs (w.at d) t:=
 ⟨I.size,I.ok,I.lev,I.sit,I.gone,I.above,I.agree,I.agreeS,I.excl,I.disj,I.nov,I.shun,I.ti,I.calm,I.tape,I.output,I.os,I.heap,I.keep,I.dom,I.own,I.ownS⟩
theorem A4c{i j:Nat}{g g' x:Goroutine}{w':World}(hj:j≠i)(h:((gs.map (woken P g g' w')).setIfInBounds i g')[j]?=some x):∃y,gs[j]?=some y∧x=woken P g g' w' y:=by
 rw [Array.getElem?_setIfInBounds_ne (Ne.symm hj),Array.getElem?_map]at h
 obtain⟨y,hy,rfl⟩:=Option.map_eq_some_iff.1 h
 exact⟨y,hy,Z⟩
theorem A8m{i:Nat}{g g' x y:Goroutine}{w':World}(hi:gs[i]?=some y)(h:((gs.map (woken P g g' w')).setIfInBounds i g')[i]?=some x):x=g':=by
 obtain⟨hlt,_⟩:=Array.getElem?_eq_some_iff.1 hi
 rw [Array.getElem?_setIfInBounds_self_of_lt (by simpa using hlt)]at h
 exact(Option.some.inj h).symm
theorem PInv.ownStep(hb:0<base)(L:Laws Pr base)(I:PInv P Pr base K S v0 w0 γ vs Ts ns gs w t){i:Nat}{g g':Goroutine}{τ:Pr.T}{w':World}{es:Array Event}{v':View}{T:Tree}(hi:gs[i]?=some g)(hth:Pr.th γ i=some τ)(hrel:Pr.rel τ=false)
    (hok:StepOk (vs i) w v' w' es)(hT:RunT P (i==0) Pr.Wd (AtF P Pr K (Job P Pr K (ns i)) i τ) T v' g') :
    PInv P Pr base K S v0 w0 γ (upd vs i v') (upd Ts i T) ns ((gs.map (woken P g g' w')).setIfInBounds i g') w' (t++MemOp.ofEvents i g.frame.fn g.frame.place es):=by
  have hlow:∀j b,vs j b≠none→b<w.heap.size:=fun j b hb'=>by
    cases h:vs j b with
    | none=>exact absurd h hb'
    | some x=>exact(I.agree j).lt h
  have hshlow:∀b,Pr.sh γ b≠none→b<w.heap.size:=fun b hb'=>by
    cases h:Pr.sh γ b with
    | none=>exact absurd h hb'
    | some x=>exact I.agreeS.lt h
  have hdom':∀b,v' b≠none→vs i b≠none∨w.heap.size≤b:=hok.dom
  refine⟨by simpa using I.size,I.ok,I.lev,fun j x σ hx hσ=>?_,fun j x hx hn=>?_,fun j hj=>?_,fun j=>?_,fun b p o e=>?_,fun j k hjk b hO=>?_,fun j b=>?_,fun j hn=>?_,fun b hS=>?_,?_,by rw [hok.tape];exact I.calm,hok.tape.trans I.tape,hok.output.trans I.output,by rw [hok.os];exact I.os,Nat.le_trans I.heap hok.size,fun b hlt hn=>?_,fun j b hne=>?_,fun j b hO=>?_,I.ownS⟩
  · by_cases e:j=i
    · subst e
      rw [hth]at hσ;cases hσ
      rw [upd_same,upd_same,A8m hi hx]
      exact .inl ⟨hrel,hT⟩
    · obtain⟨y,hy,rfl⟩:=A4c e hx
      rw [upd_ne _ _ e,upd_ne _ _ e]
      exact(I.sit j y σ hy hσ).other fun a b=>absurd a b
  · have e:j≠i:=fun e=>by subst e;rw [hth]at hn;cases hn
    obtain⟨y,hy,rfl⟩:=A4c e hx
    obtain⟨q,h1,h2⟩:=I.gone j y hy hn
    rw [upd_ne _ _ e,woken_quitsD h2,A4j hok.ev]
    exact⟨q,h1,h2⟩
  · rw [A4j hok.ev]
    exact I.above j (by simpa using hj)
  · by_cases e:j=i
    · subst e;rw [upd_same];exact hok.agree
    · rw [upd_ne _ _ e]
      intro b p o hbo
      rw [hok.keep b ((I.agree j).lt hbo) fun hO=>by rw [I.excl i j (Ne.symm e) b hO]at hbo;cases hbo]
      exact I.agree j b p o hbo
  · rw [hok.keep b (I.agreeS.lt e) fun⟨o',hO⟩=>by
      rcases I.disj i b with x|x
      · rw [x]at hO;cases hO
      · rw [x]at e;cases e]
    exact I.agreeS b p o e
  · by_cases e:j=i
    · subst e
      rw [upd_same]at hO
      rw [upd_ne _ _ (Ne.symm hjk)]
      rcases hok.own b hO with x|x
      · exact I.excl j k hjk b x
      · apply Classical.byContradiction
        intro h
        have:=hlow k b h;omega
    · rw [upd_ne _ _ e]at hO
      by_cases e2:k=i
      · subst e2
        rw [upd_same]
        apply Classical.byContradiction
        intro h
        rcases hdom' b h with x|x
        · exact x (I.excl j k hjk b hO)
        · obtain⟨o,ho⟩:=hO
          have:=(I.agree j).lt ho;omega
      · rw [upd_ne _ _ e2];exact I.excl j k hjk b hO
  · by_cases e:j=i
    · subst e
      rw [upd_same]
      apply Classical.byContradiction
      intro h
      simp only [not_or]at h
      rcases hdom' b h.1 with x|x
      · exact(I.disj j b).elim x h.2
      · have:=hshlow b h.2;omega
    · rw [upd_ne _ _ e];exact I.disj j b
  · have e:j≠i:=fun e=>by subst e;rw [hth]at hn;cases hn
    rw [upd_ne _ _ e];exact I.nov j hn
  · obtain⟨h1,h2,h3⟩:=I.shun b hS
    refine⟨fun j=>?_,h2,Nat.lt_of_lt_of_le h3 hok.size⟩
    by_cases e:j=i
    · subst e
      rw [upd_same]
      apply Classical.byContradiction
      intro h
      rcases hdom' b h with x|x
      · exact x (h1 j)
      · omega
    · rw [upd_ne _ _ e];exact h1 j
  · exact I.ti.ownStep hb (L.lt I.ok hth) hth (fun _=>hrel) (fun σ hσ ha=>(L.acq0 I.ok hσ ha hth).resolve_right (by simp [hrel])) hok.size hok.ev hok.dom hok.own hlow
      (fun j hj b hO=>I.excl i j (Ne.symm hj) b hO) (fun j hj b hO=>I.excl j i hj b hO) (fun b hS=>⟨(I.disj i b).resolve_right hS,hshlow b hS⟩) (fun b hA=>⟨(I.disj i b).resolve_right (L.atbS I.ok hA),hshlow b (L.atbS I.ok hA)⟩)
  · rw [hok.keep b (Nat.lt_of_lt_of_le hlt I.heap) fun hO=>by
      rcases I.own i b hO with x|x
      · exact hn x
      · omega]
    exact I.keep b hlt hn
  · by_cases e:j=i
    · subst e
      rw [upd_same]at hne
      rcases hdom' b hne with x|x
      · exact I.dom j b x
      · exact .inr (Nat.le_trans I.heap x)
    · rw [upd_ne _ _ e]at hne;exact I.dom j b hne
  · by_cases e:j=i
    · subst e
      rw [upd_same]at hO
      rcases hok.own b hO with x|x
      · exact I.own j b x
      · exact .inr (Nat.le_trans I.heap x)
    · rw [upd_ne _ _ e]at hO;exact I.own j b hO
theorem PInv.syncStep(hb:0<base)(L:Laws Pr base)(I:PInv P Pr base K S v0 w0 γ vs Ts ns gs w t){i:Nat}{g g':Goroutine}{τ:Pr.T}{u:View}{w':World}{es:Array Event}{v':View}{T:Tree}{n:Nat}(hi:gs[i]?=some g)(hth:Pr.th γ i=some τ)(hu:u.Le (vs i))(hA:Pr.wakes τ=true→mayWake P g=true)(hrun:g'.status = .running)
    (hS:SS Pr i γ τ u w γ' v' w' es)(hn:Pr.rank γ'≤n)
    (hT:(∃τ',Pr.th γ' i=some τ'∧Sit P Pr K i τ' n T v' g' γ')∨(i≠0∧Pr.th γ' i=none∧v'=noView∧∃q,T=Tree.ofNat q∧QuitsD P q (deafBehind (Pr.deaf τ) es) g')) :
    PInv P Pr base K S v0 w0 γ' (upd vs i v') (upd Ts i T) (upd ns i n) ((gs.map (woken P g g' w')).setIfInBounds i g') w' (t++MemOp.ofEvents i g.frame.fn g.frame.place es):=by
  have hok':=L.ok I.ok hS.tr
  have hrank:=L.rank I.ok hS.tr
  have hoth:∀j,j≠i→Pr.th γ' j=Pr.th γ j:=fun j hj=>by
    by_cases e:j=Pr.size γ
    · subst e
      have h1:Pr.th γ' (Pr.size γ)=none:=by
        cases h:Pr.th γ' (Pr.size γ)with
        | none=>rfl
        | some σ => rcases L.lt hok' h with x|⟨_,x⟩
                    · have:=L.baseLe I.ok;omega
                    · rw [hS.size]at x;omega
      have h2:Pr.th γ (Pr.size γ)=none:=by
        cases h:Pr.th γ (Pr.size γ)with
        | none=>rfl
        | some σ => rcases L.lt I.ok h with x|⟨_,x⟩
                    · have:=L.baseLe I.ok;omega
                    · omega
      rw [h1,h2]
    · exact L.oth I.ok hS.tr j hj e
  have hlow:∀j b,vs j b≠none→b<w.heap.size:=fun j b hb'=>by
    cases h:vs j b with
    | none=>exact absurd h hb'
    | some x=>exact(I.agree j).lt h
  have hshlow:∀b,Pr.sh γ b≠none→b<w.heap.size:=fun b hb'=>by
    cases h:Pr.sh γ b with
    | none=>exact absurd h hb'
    | some x=>exact I.agreeS.lt h
  have huO:∀b,u.Owns b→(vs i).Owns b:=fun b ⟨o,ho⟩=>⟨o,hu _ _ ho⟩
  have hun:∀b,u b≠none→vs i b≠none:=fun b hb'=>by
    cases h:u b with
    | none=>exact absurd h hb'
    | some x=>rw [hu _ _ h];simp
  have hatn:∀j b,Pr.atb b→vs j b=none:=fun j b hA=>(I.disj j b).resolve_right (L.atbS I.ok hA)
  have hatv:∀b,Pr.atb b→v' b=none:=fun b hA=>(hS.disj b).resolve_right (L.atbS hok' hA)
  have hv'dom:∀b,v' b≠none→vs i b≠none∨Pr.sh γ b≠none:=fun b h=>(hS.gain b h).imp (hun b) fun x=>x.2.2
  have hv'own:∀b,v'.Owns b→(vs i).Owns b∨Pr.sh γ b≠none:=fun b h=>(hS.own b h).imp (huO b) fun x=>x.2.2
  have hkeep:∀b,¬(vs i).Owns b→Pr.sh γ b=none→w'.heap[b]?=w.heap[b]?:=fun b h1 h2=>hS.keep b (fun h=>h1 (huO b h)) h2
  refine⟨by rw [hS.size];simpa using I.size,hok',fun j=>?_,fun j x σ hx hσ=>?_,fun j x hx hn=>?_,fun j hj=>?_,fun j=>?_,hS.agreeS,fun j k hjk b hO=>?_,fun j b=>?_,fun j hn=>?_,fun b hSb=>?_,?_,by rw [hS.tape];exact I.calm,hS.tape.trans I.tape,hS.output.trans I.output,I.os.trans hS.os,by rw [hS.heap];exact I.heap,fun b hlt hn=>?_,fun j b hne=>?_,fun j b hO=>?_,fun b hne=>?_⟩
  · by_cases e:j=i
    · subst e;rw [upd_same];exact hn
    · rw [upd_ne _ _ e];have:=I.lev j;omega
  · by_cases e:j=i
    · subst e
      rw [upd_same,upd_same,upd_same,A8m hi hx]
      rcases hT with ⟨τ',h1,h2⟩|⟨_,h1,_⟩
      · rw [h1]at hσ;cases hσ;exact h2
      · rw [h1]at hσ;cases hσ
    · obtain⟨y,hy,rfl⟩:=A4c e hx
      rw [upd_ne _ _ e,upd_ne _ _ e,upd_ne _ _ e]
      exact(I.sit j y σ hy (by rw [←hoth j e];exact hσ)).other fun a b=>⟨hA (L.wake I.ok hth hS.tr e a b),hrun⟩
  · by_cases e:j=i
    · subst e
      rw [upd_same,A8m hi hx]
      rcases hT with ⟨τ',h1,_⟩|⟨_,_,_,q,h2,h3⟩
      · rw [h1]at hn;cases hn
      · rw [Deaf_own,I.ti.deaf j τ hth]
        exact⟨q,h2,h3⟩
    · obtain⟨y,hy,rfl⟩:=A4c e hx
      obtain⟨q,h1,h2⟩:=I.gone j y hy (by rw [←hoth j e];exact hn)
      rw [upd_ne _ _ e,woken_quitsD h2,Deaf_other t (g':=i) (Ne.symm e) _ opsG]
      exact⟨q,h1,h2⟩
  · have hji:j≠i:=fun e=>by
      subst e
      have:=(Array.getElem?_eq_some_iff.1 hi).1
      simp at hj;omega
    rw [Deaf_other t (g':=i) (Ne.symm hji) _ opsG]
    exact I.above j (by simpa using hj)
  · by_cases e:j=i
    · subst e;rw [upd_same];exact hS.agree
    · rw [upd_ne _ _ e]
      intro b p o hbo
      rw [hkeep b (fun hO=>by rw [I.excl i j (Ne.symm e) b hO]at hbo;cases hbo) ((I.disj j b).resolve_left (by rw [hbo];simp))]
      exact I.agree j b p o hbo
  · by_cases e:j=i
    · subst e
      rw [upd_same]at hO
      rw [upd_ne _ _ (Ne.symm hjk)]
      rcases hv'own b hO with x|x
      · exact I.excl j k hjk b x
      · exact(I.disj k b).resolve_right x
    · rw [upd_ne _ _ e]at hO
      by_cases e2:k=i
      · subst e2
        rw [upd_same]
        apply Classical.byContradiction
        intro h
        rcases hv'dom b h with x|x
        · exact x (I.excl j k hjk b hO)
        · obtain⟨o,ho⟩:=hO
          exact(I.disj j b).elim (fun z=>by rw [z]at ho;cases ho) x
      · rw [upd_ne _ _ e2];exact I.excl j k hjk b hO
  · by_cases e:j=i
    · subst e;rw [upd_same];exact hS.disj b
    · rw [upd_ne _ _ e]
      apply Classical.byContradiction
      intro h
      simp only [not_or]at h
      rcases hS.lose b h.2 with x|⟨_,_,x⟩
      · exact(I.disj j b).elim h.1 x
      · exact h.1 (I.excl i j (Ne.symm e) b (huO b x))
  · by_cases e:j=i
    · subst e
      rw [upd_same]
      rcases hT with ⟨τ',h1,_⟩|⟨_,_,h2,_⟩
      · rw [h1]at hn;cases hn
      · exact h2
    · rw [upd_ne _ _ e];exact I.nov j (by rw [←hoth j e];exact hn)
  · obtain⟨h1,h2,h3⟩:=I.shun b hSb
    refine⟨fun j=>?_,?_,by rw [hS.heap];exact h3⟩
    · by_cases e:j=i
      · subst e
        rw [upd_same]
        apply Classical.byContradiction
        intro h
        exact(hv'dom b h).elim (fun x=>x (h1 j)) (fun x=>x h2)
      · rw [upd_ne _ _ e];exact h1 j
    · apply Classical.byContradiction
      intro h
      rcases hS.lose b h with x|⟨_,_,x⟩
      · exact x h2
      · obtain⟨o,ho⟩:=huO b x
        rw [h1 i]at ho;cases ho
  · rw [hS.heap]
    refine I.ti.syncStep hb (L.lt I.ok hth) hth hoth hS.size hS.ev hS.deaf (fun b h=>(hS.gain b h).imp (hun b) id) (fun b h=>(hS.own b h).imp (huO b) id) (fun b h=>(hS.lose b h).imp id fun x=>⟨x.1,x.2.1,huO b x.2.2⟩)
      (fun b hA=>⟨fun j=>hatn j b hA,hatv b hA⟩) hS.mute hS.rel (fun σ hσ ha=>L.acq0 I.ok hσ ha hth) (fun σ h0 hσ ha=>?_)
    subst h0
    rcases hS.acq σ rfl hσ ha with x|⟨x,y⟩
    · exact .inl x
    · rcases L.acqT I.ok hS.tr hth hσ ha with z|z
      · exact .inl z
      · exact .inr ⟨x,y,z⟩
  · rw [hkeep b (fun hO=>by
      rcases I.own i b hO with x|x
      · exact hn x
      · omega) (by
      apply Classical.byContradiction
      intro h
      rcases I.ownS b h with x|x
      · exact hn x
      · omega)]
    exact I.keep b hlt hn
  · by_cases e:j=i
    · subst e
      rw [upd_same]at hne
      rcases hv'dom b hne with x|x
      · exact I.dom j b x
      · exact(I.ownS b x).imp (fun⟨o,ho⟩=>by rw [ho];simp) id
    · rw [upd_ne _ _ e]at hne;exact I.dom j b hne
  · by_cases e:j=i
    · subst e
      rw [upd_same]at hO
      rcases hv'own b hO with x|x
      · exact I.own j b x
      · exact I.ownS b x
    · rw [upd_ne _ _ e]at hO;exact I.own j b hO
  · rcases hS.lose b hne with x|⟨_,_,x⟩
    · exact I.ownS b x
    · exact I.own i b (huO b x)
end
end Go.Pal
end
