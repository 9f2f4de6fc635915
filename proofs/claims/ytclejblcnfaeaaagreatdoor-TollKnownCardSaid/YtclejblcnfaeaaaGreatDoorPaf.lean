/- Part 6. -/
import Derived.Test.YtclejblcnfaeaaaGreatDoorPae
set_option linter.all false
section
namespace Go.Pal
open Go Go.Conc View
def nthV:List Value→Nat→Option Value
 | [],_=>none
 | x::_,0=>some x
 | _::r,k+1=>nthV r k
def cutV:List Value→Nat→Nat→Option (List Value)
 | _,0,0=>some []
 | [],_,_=>none
 | x::r,0,k+1=>match cutV r 0 k with|some l=>some (x::l)|none=>none
 | _::r,off+1,k=>cutV r off k
theorem nthV_eq:∀(l:List Value) (i:Nat),nthV l i=l[i]?
 | [],_=>by simp [nthV]
 | _::_,0=>rfl
 | _::r,i+1=>by simp [nthV,nthV_eq r i]
theorem cutV_eq:∀(l:List Value) (off k:Nat) (m:List Value),cutV l off k=some m→off+k≤l.length∧m=(l.drop off).take k
 | l,0,0,m,h=>by unfold cutV at h;simp at h;simp [←h]
 | [],0,k+1,m,h=>by simp [cutV]at h
 | [],off+1,k,m,h=>by simp [cutV]at h
 | x::r,0,k+1,m,h=>by
  simp only [cutV]at h
  split at h
  ·rename_i l hl
   obtain⟨h1,h2⟩:=cutV_eq r 0 k l hl
   cases h
   simp only [List.length_cons,List.drop_zero,List.take_succ_cons,h2]
   exact⟨oM,trivial⟩
  ·cases h
 | x::r,off+1,k,m,h=>by
  have h':cutV r off k=some m:=by
   cases k<;>simpa [cutV]using h
  obtain⟨h1,h2⟩:=cutV_eq r off k m h'
  simp only [List.length_cons,List.drop_succ_cons]
  exact⟨oM,h2⟩
theorem InB.app{b:Nat}{c:Array Value}{t:TypeId}{l r:A0e}(h:InB b c t r):InB b c t (l++r):=by
 induction l with
 | nil=>exact h
 | cons p l ih=>exact .tail ih
theorem SetB.app{b:Nat}{c:Array Value}{l r r':A0e}(h:SetB b c r r'):SetB b c (l++r) (l++r'):=by
 induction l with
 | nil=>exact h
 | cons p l ih=>exact .tail ih
section
variable{P:Program}{mn:Who}(T:Tab P){rd:Option Nat}{n:Nat}{Q:Exit→St→View→Prop}{ds:List Deferred}{ρ:Regs}{β:A0e}{v:View}
 {ops:Array Oper}{i:Nat}{rest:List Nat}{l:List Oper}{d:Nat}{op:Op}{ty:TypeId}{pos:String}{af:Array Edge}{gu:Option (Nat×Bool)}{K:St→View→Prop}
def readN(t:TypeId)(c:Array Value)(off:Nat):Option Value:=
 match T.und t,T.siz t with
 | some d,some k=>if aggOf d then(match cutV c.toList off k with|some l=>some (.agg l.toArray)|none=>none)else nthV c.toList off
 | _,_=>none
theorem readN_B{t:TypeId}{c:Array Value}{off:Nat}{x:Value}(h:readN T t c off=some x):A4k T t c off=some x:=by
 unfold readN at h
 unfold A4k
 split at h
 ·rename_i d k h1 h2
  try simp only [h1,h2]
  split at h
  ·rename_i ha
   rw [if_pos ha]
   split at h
   ·rename_i m hm
    cases h
    obtain⟨h3,h4⟩:=cutV_eq _ _ _ _ hm
    rw [if_pos (by simpa using h3),h4]
    congr 2
    apply Array.ext'
    simp [Array.toList_extract,List.extract]
   ·cases h
  ·rename_i ha
   rw [if_neg ha]
   rw [nthV_eq]at h
   simpa using h
 ·cases h
theorem R_loadN{t t':TypeId}{y:Operand}{b off:Nat}{c:Array Value}{x:Value}(ho:ops[i]?=some ⟨some d,.load t y,ty,pos,af,gu⟩)(hw:A0p ops gu ρ=some true)(hn:Nat.blt d n=true)
  (hy:ρ.val y=some (.pointer (some ⟨b,off,none⟩)))(hb:InB b c t' β)(hx:readN T t c off=some x)
  (h:XO P mn rd n ops rest Q ⟨ds,(d,x)::ρ,β⟩ v):XO P mn rd n ops (i::rest) Q ⟨ds,ρ,β⟩ v:=R_loadB T ho hw hn hy hb (readN_B T hx) h
theorem L_loadN{t t':TypeId}{y:Operand}{b off:Nat}{c:Array Value}{x:Value}(hw:A0p ops gu ρ=some true)(hn:Nat.blt d n=true)
  (hy:ρ.val y=some (.pointer (some ⟨b,off,none⟩)))(hb:InB b c t' β)(hx:readN T t c off=some x)
  (h:XL P mn n ops Q l ⟨ds,(d,x)::ρ,β⟩ v):XL P mn n ops Q (⟨some d,.load t y,ty,pos,af,gu⟩::l) ⟨ds,ρ,β⟩ v:=A1j T hw hn hy hb (readN_B T hx) h
theorem resL_cell{a:Tmp}{t t':TypeId}{r:List ResultVar}{b off:Nat}{c:Array Value}{x:Value}{xs:List Value}(h1:ρ.get a=some (.pointer (some ⟨b,off,none⟩)))(h2:InB b c t' β)(h3:readN T t c off=some x)(h4:ResL T ρ β r xs):ResL T ρ β (.cell a t::r) (x::xs):=.cell h1 h2 (readN_B T h3) h4
def mkL(ops:Array Oper):List Nat→Array Bool
 | []=>Array.replicate ops.size false
 | i::r=>(mkL ops r).setIfInBounds i true
theorem A8m{done:List Nat}:(mkL ops done).size=ops.size:=by
 induction done with
 | nil=>simp [mkL]
 | cons i r ih=>simp [mkL,ih]
abbrev Rec:=Nat×Nat×Array Value×TypeId
def SV(S:List Rec):List (Nat×View):=S.map fun p=>(p.1,A0c [(p.2.1,p.2.2.1,p.2.2.2)])
def XS(P:Program)(mn:Who)(n:Nat)(ops:Array Oper)(ms:List Nat)(v0:View)(Q:Exit→St→View→Prop)(todo:List Nat)(S:List Rec)(done:List Nat)(σ:St)(v:View):Prop:=
 ∀a,Fits n σ a→Bok σ.β v→v0.Le v→B0p ops (mkL ops done)→AnyS P mn ops ms v0 (fun a u=>Post n Q .normal a u) todo.length (SV S) (mkL ops done) a (v.union (A0c σ.β))
theorem post_le{e:Exit}{a:Act}{u w:View}(hl:u.Le w)(h:Post n Q e a u):Post n Q e a w:=by
 obtain⟨σ,u',h1,h2,h3,h4⟩:=h;exact⟨σ,u',h1,h2,h3,h4.trans hl⟩
theorem S_start{id:Nat}(ms todo:List Nat)(hk:todo.length=ops.size)(hm:P.follows .mixedOrders=true)(hd:ops.all (fun o=>!A1t o.op)=true)(h:XS P mn n ops ms v Q todo [] [] ⟨ds,ρ,β⟩ v):XC P mn rd n (.region id ops true) Q ⟨ds,ρ,β⟩ v:=fun a hf hb=>
 A4m (x_region_any2 (Q:=fun e a u=>e = .normal∧Post n Q .normal a u) (ms:=ms) (v0:=v) hm hd (by
  have hkk:(fun(a:Act) (u:View)=>(Exit.normal=Exit.normal∧Post n Q .normal a u))=(fun a u=>Post n Q .normal a u):=by funext a u;simp
  rw [hkk]
  have h':=h a hf hb (Le.refl _) (fun j o ho hj=>by
   simp only [mkL,Array.getD_eq_getD_getElem?,Array.getElem?_replicate]at hj
   rw [if_pos (Array.getElem?_eq_some_iff.1 ho).1]at hj
   cases hj)
  rw [hk]at h'
  exact h')) fun e a u ⟨he,hp⟩=>⟨u,Le.refl _,he ▸ hp⟩
theorem S_end{S:List Rec}{done:List Nat}{ms:List Nat}{v0:View}(hr:(Region.ready .any ops (mkL ops done)).isEmpty=true)(h:Q .normal ⟨ds,ρ,β⟩ v):XS P mn n ops ms v0 Q [] S done ⟨ds,ρ,β⟩ v:=fun a hf hb _ _=>
 ⟨by simpa using hr,A5w h hf hb⟩
def A9k(ops:Array Oper)(ms done:List Nat)(i:Nat):Bool:=(Region.ready .any ops (mkL ops done)).contains i&&Region.free .any ops (mkL ops done) i && !ms.contains i&&Region.noSelect ops
theorem A5d{S S':List Rec}{done:List Nat}{ms:List Nat}{v0 vq:View}{todo:List Nat}{o:Oper}{x:Value}{σ:St}(ho:ops[i]?=some o)(hn:A2p n o.dst=true)(hB:A9k ops ms done i=true)
  (hy:∀a,Fits n σ a→YieldsX P mn ops o x a vq)(hq:Bok σ.β v→v0.Le v→vq.Le (v.union (A0c σ.β)))(hS:∀p∈(i,vq)::SV S,p∈SV S'∨p.2.Le v0)
  (h:XS P mn n ops ms v0 Q todo S' (i::done) ⟨σ.ds,putR o.dst x σ.ρ,σ.β⟩ v):XS P mn n ops ms v0 Q (i::todo) S done σ v:=fun a hf hb hv hc=>by
 simp only [A9k,Bool.and_eq_true]at hB
 obtain⟨⟨⟨h1,h2⟩,h3⟩,h4⟩:=hB
 have hr:i∈Region.ready .any ops (mkL ops done):=by simpa using h1
 exact anyS_first (K:=fun a u=>Post n Q .normal a u) (fun a u v hl hp=>post_le hl hp) ho (Region.noSelect_spec h4) (by simpa using h3) todo.length (SV S) (mkL ops done) a _ hc A8m (Region.free_spec ho h2) hr (hy a hf) (hq hb hv)
  (B2h hS _ _ _ _ (h _ (A0x hf hn) hb hv (A4q hc hr A8m)))
theorem B1m{S:List Rec}{v0:View}{vq:View}(hl:vq.Le v0):∀p∈(i,vq)::SV S,p∈SV S∨p.2.Le v0:=fun p hp=>by
 rcases List.mem_cons.1 hp with rfl|h
 ·exact .inr hl
 ·exact .inl h
section
variable{S:List Rec}{done:List Nat}{ms:List Nat}{v0:View}{todo:List Nat}
theorem S_pure{x:Value}(ho:ops[i]?=some ⟨some d,op,ty,pos,af,gu⟩)(hw:A0p ops gu ρ=some true)(hn:Nat.blt d n=true)(hB:A9k ops ms done i=true)(hx:A1h T ρ.val op=some x)
  (h:XS P mn n ops ms v0 Q todo S (i::done) ⟨ds,(d,x)::ρ,β⟩ v):XS P mn n ops ms v0 Q (i::todo) S done ⟨ds,ρ,β⟩ v:=
 A5d (vq:=fun _=>none) ho hn hB (fun a hf=>.inl ⟨A0m hf (A0j hw),fun u _=>A5i T (A0k hf) hx ⟨Le.refl _,rfl⟩⟩) (fun _ _ b x e=>by cases e) (B1m fun b x e=>by cases e) h
theorem A0s{t e:TypeId}{y z:Operand}{b off len cap sz:Nat}{jz:Int}{k:IntKind}(j:Nat)(ho:ops[i]?=some ⟨some d,.indexAddr t y z,ty,pos,af,gu⟩)(hw:A0p ops gu ρ=some true)(hn:Nat.blt d n=true)(hB:A9k ops ms done i=true)
  (hy:ρ.val y=some (.slice (some ⟨b,off,none⟩) len cap))(hz:ρ.val z=some (.int k jz))(hj:jz=j)(ht:T.und t=some (.slice e))(hs:T.siz e=some sz)(h1:j<len)
  (h:XS P mn n ops ms v0 Q todo S (i::done) ⟨ds,(d,.pointer (some ⟨b,off+j*sz,none⟩))::ρ,β⟩ v):XS P mn n ops ms v0 Q (i::todo) S done ⟨ds,ρ,β⟩ v:=by
 subst hj
 exact A5d (vq:=fun _=>none) (x:=.pointer (some ⟨b,off+j*sz,none⟩)) ho hn hB (fun a hf=>.inl ⟨A0m hf (A0j hw),fun u _=>by
  unfold QAt execOp
  simp only [A0k hf _ _ hy,A0k hf _ _ hz,A0a,A0h]
  refine A9g T ht hs oM oM ⟨Le.refl _,?_⟩
  rw [A5n];simp⟩) (fun _ _ b x e=>by cases e) (B1m fun b x e=>by cases e) h
theorem A8v{t e:TypeId}{y:Operand}{b off:Nat}{p:Bool}{c:Array Value}{f:Nat×Nat}{x:Value}(ho:ops[i]?=some ⟨some d,.load t y,ty,pos,af,gu⟩)(hw:A0p ops gu ρ=some true)(hn:Nat.blt d n=true)(hB:A9k ops ms done i=true)
  (hy:ρ.val y=some (.pointer (some ⟨b,off,none⟩)))(hb:v0 b=some (p,.cells c e f))(hx:A4k T t c off=some x)
  (h:XS P mn n ops ms v0 Q todo S (i::done) ⟨ds,(d,x)::ρ,β⟩ v):XS P mn n ops ms v0 Q (i::todo) S done ⟨ds,ρ,β⟩ v:=
 A5d (vq:=v0) (x:=x) ho hn hB (fun a hf=>.inl ⟨A0m hf (A0j hw),fun u hu=>by
  unfold QAt execOp
  simp only [Instr.loadAt,Instr.sureAddr,A0k hf _ _ hy,A0a,A0h]
  exact A2z T (hu _ _ hb) hx ⟨Le.refl _,Y⟩⟩) (fun _ hv=>hv.trans (A0g _ _)) (B1m (Le.refl _)) h
theorem A1a{t t':TypeId}{y:Operand}{b off:Nat}{c:Array Value}{x:Value}(ho:ops[i]?=some ⟨some d,.load t y,ty,pos,af,gu⟩)(hw:A0p ops gu ρ=some true)(hn:Nat.blt d n=true)(hB:A9k ops ms done i=true)
  (hy:ρ.val y=some (.pointer (some ⟨b,off,none⟩)))(hb:InB b c t' β)(hx:A4k T t c off=some x)
  (h:XS P mn n ops ms v0 Q todo ((i,b,c,t')::S) (i::done) ⟨ds,(d,x)::ρ,β⟩ v):XS P mn n ops ms v0 Q (i::todo) S done ⟨ds,ρ,β⟩ v:=
 A5d (vq:=A0c [(b,c,t')]) (S':=(i,b,c,t')::S) (x:=x) ho hn hB (fun a hf=>.inl ⟨A0m hf (A0j hw),fun u hu=>by
  unfold QAt execOp
  simp only [Instr.loadAt,Instr.sureAddr,A0k hf _ _ hy,A0a,A0h]
  exact A2z T (hu b (true,.cells c t' (0,0)) (by simp [A0c])) hx ⟨Le.refl _,Y⟩⟩) (fun hbk _ j x e=>by
   simp only [A0c]at e
   split at e
   ·rename_i hj;subst hj;cases e;exact A0q hbk hb
   ·cases e) (fun p hp=>.inl hp) h
theorem S_loadN{t t':TypeId}{y:Operand}{b off:Nat}{c:Array Value}{x:Value}(ho:ops[i]?=some ⟨some d,.load t y,ty,pos,af,gu⟩)(hw:A0p ops gu ρ=some true)(hn:Nat.blt d n=true)(hB:A9k ops ms done i=true)
  (hy:ρ.val y=some (.pointer (some ⟨b,off,none⟩)))(hb:InB b c t' β)(hx:readN T t c off=some x)
  (h:XS P mn n ops ms v0 Q todo ((i,b,c,t')::S) (i::done) ⟨ds,(d,x)::ρ,β⟩ v):XS P mn n ops ms v0 Q (i::todo) S done ⟨ds,ρ,β⟩ v:=A1a T ho hw hn hB hy hb (readN_B T hx) h
def KeepS(ops:Array Oper)(i:Nat):List Rec→A0e→Prop
 | [],_=>True
 | (k,b,c,t)::S,β=>(depB ops k ops.size i=true∨InB b c t β)∧KeepS ops i S β
theorem A9t{i:Nat}{β:A0e}:∀{S:List Rec},KeepS ops i S β→∀p∈SV S,depB ops p.1 ops.size i=false→∃b c t,p.2=A0c [(b,c,t)]∧InB b c t β
 | [],_,p,hp,_=>by simp [SV]at hp
 | (k,b,c,t)::S,h,p,hp,hd=>by
  simp only [SV,List.map_cons,List.mem_cons]at hp
  rcases hp with rfl|hp
  ·rcases h.1 with h1|h1
   ·simp only at hd;rw [h1]at hd;cases hd
   ·exact⟨b,c,t,Y,h1⟩
  ·exact A9t h.2 p hp hd
def onlyB(ops:Array Oper)(ms done:List Nat)(i:Nat):Bool:=(Region.ready .any ops (mkL ops done)).contains i&&(Region.ready .any ops (mkL ops done)).all (fun j=>Nat.beq j i)&&ms.contains i
theorem S_do(hB:onlyB ops ms done i=true)(h:XOp P mn (some 4294967295) n ops i (fun _ _ _=>False) (fun σ' u=>v.Le u∧KeepS ops i S σ'.β∧XS P mn n ops ms v0 Q todo S (i::done) σ' u) ⟨ds,ρ,β⟩ v):XS P mn n ops ms v0 Q (i::todo) S done ⟨ds,ρ,β⟩ v:=fun a hf hb hv hc=>by
 simp only [onlyB,Bool.and_eq_true]at hB
 obtain⟨⟨h1,h2⟩,h3⟩:=hB
 have hr:i∈Region.ready .any ops (mkL ops done):=by simpa using h1
 show AnyS P mn ops ms v0 (fun a u=>Post n Q .normal a u) (todo.length+1) (SV S) (mkL ops done) a (v.union (A0c β))
 refine⟨fun e=>(by rw [e]at hr;cases hr),fun j hj=>?_⟩
 have hji:j=i:=Nat.eq_of_beq_eq_true (List.all_eq_true.1 h2 j hj)
 subst hji
 obtain⟨o,ho,hw,hd,hs⟩:=h a hf hb
 unfold OpS
 simp only [ho,hw,if_true]
 have key:∀{a' w},KP n (fun σ' u=>v.Le u∧KeepS ops j S σ'.β∧XS P mn n ops ms v0 Q todo S (j::done) σ' u) a' w→Keeps ops ms v0 (SV S) j (v.union (A0c β)) w∧AnyS P mn ops ms v0 (fun a u=>Post n Q .normal a u) todo.length (SV S) ((mkL ops done).setIfInBounds j true) a' w:=by
  rintro a' w ⟨σ',u,⟨hl,hk,hx⟩,hf',hb',hw'⟩
  refine⟨?_,?_⟩
  ·unfold Keeps
   rw [if_pos h3]
   refine⟨((hv.trans hl).trans (A0g _ _)).trans hw',fun p hp hdp=>?_⟩
   obtain⟨b,c,t,he,hin⟩:=A9t hk p hp hdp
   rw [he]
   intro j' x e
   simp only [A0c]at e
   split at e
   ·rename_i hj';subst hj';cases e;exact hw' _ _ (A0q hb' hin)
   ·cases e
  ·exact A5b (K:=fun a u=>Post n Q .normal a u) (fun a u v hl hp=>post_le hl hp) _ _ _ _ _ _ hw' (hx _ hf' hb' (hv.trans hl) (A4q hc hr A8m))
 refine A1y _ (fun nx w hK=>?_) (fun x w hE=>?_) hs
 ·cases nx with
  | value x=>exact key hK
  | skip=>exact key hK
  | defer d=>exact absurd hK.1 sM
  | enter f args=>exact CallsX.mono hK fun e w' hR=>⟨w',Le.refl _,by
    cases e with
    | ret x=>exact key hR
    | pan ch=>obtain⟨_,_,hq,_⟩:=hR;exact hq⟩
  | round l f tmps assign body=>exact absurd rfl hK.1
  | _=>exact hK.elim
 ·obtain⟨_,_,hq,_⟩:=hE;exact hq
end
theorem A1c{t t':TypeId}{y z:Operand}{b off k:Nat}{c:Array Value}{x:Value}{β':A0e}(ho:ops[i]?=some ⟨none,.store t y z,ty,pos,af,gu⟩)(hw:A0p ops gu ρ=some true)
  (hy:ρ.val y=some (.pointer (some ⟨b,off,none⟩)))(hz:ρ.val z=some x)(ht:T.siz t=some k)(hk:x.cells.size=k)(hone:x.cells.toList.all A2k=true)(hb:InB b c t' β)(hoff:Nat.ble (off+k) c.size=true)(hset:SetB b (A0z c off x.cells.toList) β β')
  (h:K ⟨ds,ρ,β'⟩ v):XOp P mn rd n ops i Q K ⟨ds,ρ,β⟩ v:=Op_storeB T ho (A0j hw) Y Y hy hz ht hk hone hb hoff hset h
theorem A_call{f:Operand}{args:Array Operand}{ats:Array TypeId}{k:FuncId}{first captured:Array Value}{xs:List Value}{R:End→A0e→Prop}(bin rest:A0e)(ho:ops[i]?=some ⟨some d,.call {callee:=.value f,args:=args,argTypes:=ats },ty,pos,af,gu⟩)(hw:A0p ops gu ρ=some true)(hn:Nat.blt d n=true)
  (hf:ρ.val f=some (.func (.func k) first captured))(hxs:A2s ρ.val args.toList=some xs)(hk:A0i P k)
  (hsplit:∀p,cnt p β=cnt p (bin++rest))(hc:CallsB P mn k (first++xs.toArray++captured) R bin (v.union (A0c rest)))
  (hr:∀x β',R (.ret x) β'→K ⟨ds,(d,x)::ρ,β'++rest⟩ v)(hp:∀ch β',R (.pan ch) β'→Q (.panic ch) ⟨ds,ρ,β'++rest⟩ v):XOp P mn rd n ops i Q K ⟨ds,ρ,β⟩ v:=
 Op_callB bin rest ho (A0j hw) hn rfl hf hxs hk hsplit hc hr hp
theorem A3x{t t' e e':TypeId}{k by_ m len cap cap2:Nat}{y y2:Operand}{z:Value}{a a2:Option Addr}{cs xs:List Value}(seg drop rest:A0e)(ho:ops[i]?=some ⟨some d,.call {callee:=.builtin .append,args:=#[y,y2],argTypes:=#[t,t'] },ty,pos,af,gu⟩)(hw:A0p ops gu ρ=some true)(hn:Nat.blt d n=true)
  (hy:ρ.val y=some (.slice a len cap))(hy2:ρ.val y2=some (.slice a2 m cap2))
  (ht:T.und t=some (.slice e))(ht':T.und t'=some (.slice e'))(hs:T.siz e=some k)(hby:T.byt e=some by_)(hz:T.zer e=some z)(hzs:z.cells.size=k)
  (hsplit:∀p,cnt p β=cnt p (seg++(drop++rest)))(hS:OwnS e k seg a len cap cs)(hx:Bok (drop++rest) v→RowAt (v.union (A0c (drop++rest))) a2 xs)(hxl:xs.length=m*k)(hone:xs.all A2k=true)
  (hb:(2*(len+m)+768)*by_≤2^48)(hp:0<by_)
  (h:∀seg' a' cap',OwnS e k seg' a' (len+m) cap' (cs++xs)→K ⟨ds,(d,.slice a' (len+m) cap')::ρ,seg'++rest⟩ v):XOp P mn rd n ops i Q K ⟨ds,ρ,β⟩ v:=
 Op_append T rest drop ho (A0j hw) hn rfl hy hy2 ht ht' hs hby hz hzs hsplit hS hx hxl hone hb hp h
end
def quietOp:Op→Bool
 | .store .. | .alloc .. | .box .. | .buildSlice .. | .makeSlice .. | .slice .. | .makeMap ..=>false
 | .call c=>match c.callee with
  | .builtin .len | .builtin .cap | .builtin .min | .builtin .max=>true
  | _=>false
 | _=>true
theorem C_lex{P:Program}{mn:Who}{rd:Option Nat}{n:Nat}{Q:Exit→St→View→Prop}{ds:List Deferred}{ρ:Regs}{β:A0e}{v:View}{ops:Array Oper}{id:Nat}{l:List Oper}(hm:P.follows .mixedOrders=true)(hl:ops.toList=l)(hq:l.all (fun o=>quietOp o.op)=true)(hB:(Region.lexB .any ops&&ops.all (fun o=>!A1t o.op))=true)(h:XL P mn n ops Q l ⟨ds,ρ,β⟩ v) :
  XC P mn rd n (.region id ops true) Q ⟨ds,ρ,β⟩ v:=XC_lex hm hl hB h
theorem A1d{P:Program}{mn:Who}{rd:Option Nat}{n:Nat}{Q:Exit→St→View→Prop}{ds:List Deferred}{ρ:Regs}{β:A0e}{v:View}{ops:Array Oper}{id:Nat}(ms todo:List Nat)(hm:P.follows .mixedOrders=true)(hk:todo.length=ops.size)(hd:ops.all (fun o=>!A1t o.op)=true)(h:XS P mn n ops ms v Q todo [] [] ⟨ds,ρ,β⟩ v):XC P mn rd n (.region id ops true) Q ⟨ds,ρ,β⟩ v:=
 S_start ms todo hk hm hd h
def A9p(k:Nat):Nat→List (Nat×Value)→Bool
 | _,[]=>true
 | i,(j,x)::r=>Nat.beq j i&&Nat.beq x.cells.size k&&A9p k (i+1) r
theorem fill_all{k:Nat}:∀(ps:List (Nat×Value)) (i:Nat) (cs:Array Value),A9p k i ps=true→i*k+ps.length*k=cs.size→
  ∃out,Instr.fill (fun i=>some (i*k,k)) cs ps=some out∧out.size=cs.size∧∀j,out[j]?=if j<i*k then cs[j]? else(ps.flatMap fun p=>p.2.cells.toList)[j-i*k]?
 | [],i,cs,_,h=>by
  refine⟨cs,Y,Y,fun j=>?_⟩
  split
  ·rfl
  ·simp at h⊢;omega
 | (j,x)::r,i,cs,hp,h=>by
  simp only [A9p,Bool.and_eq_true]at hp
  obtain⟨⟨h1,h2⟩,h3⟩:=hp
  have h1:=Nat.eq_of_beq_eq_true h1
  have h2:=Nat.eq_of_beq_eq_true h2
  subst h1
  simp only [List.length_cons,Nat.add_mul,Nat.one_mul]at h
  obtain⟨out,ho1,ho2,ho3⟩:=fill_all r (j+1) (A0z cs (j*k) x.cells.toList) h3 (by rw [A3l,Nat.add_mul,Nat.one_mul];omega)
  refine⟨out,?_,by rw [ho2,A3l],fun q=>?_⟩
  ·simp only [Instr.fill,h2]
   rw [if_neg (by simp;omega),foldl_set']
   exact ho1
  ·rw [ho3 q,A9b (by simp [h2];omega)]
   simp only [List.flatMap_cons,Array.length_toList,h2,Nat.add_mul,Nat.one_mul]
   by_cases hq:q<j*k
   ·rw [if_pos oM,if_neg oM,if_pos hq]
   ·rw [if_neg hq]
    by_cases hq2:q<j*k+k
    ·rw [if_pos hq2,if_pos oM,List.getElem?_append_left (by simp [h2];omega)]
    ·rw [if_neg hq2,List.getElem?_append_right (by simp [h2];omega)]
     simp only [Array.length_toList,h2]
     congr 1
     omega
section
variable{P:Program}{mn:Who}(T:Tab P){rd:Option Nat}{n:Nat}{Q:Exit→St→View→Prop}{ds:List Deferred}{ρ:Regs}{β:A0e}{v:View}
 {ops:Array Oper}{i:Nat}{rest:List Nat}{l:List Oper}{d:Nat}{op:Op}{ty:TypeId}{pos:String}{af:Array Edge}{gu:Option (Nat×Bool)}{K:St→View→Prop}
theorem A3w{t e:TypeId}{len k:Nat}{z:Value}{parts:Array (Nat×Operand)}{ps:List (Nat×Value)}(ho:ops[i]?=some ⟨some d,.buildSlice t len parts,ty,pos,af,gu⟩)(hw:A0p ops gu ρ=some true)(hn:Nat.blt d n=true)
  (ht:T.und t=some (.slice e))(hs:T.siz e=some k)(hz:T.zer e=some z)(hps:A7n ρ.val parts.toList=some ps)(hp:A9p k 0 ps=true)(hlen:Nat.beq ps.length len=true)(hsm:Nat.ble (len*k) 16777216=true)
  (h:∀b c,OwnS e k [(b,c,e)] (some ⟨b,0,none⟩) len len (ps.flatMap fun p=>p.2.cells.toList)→K ⟨ds,(d,.slice (some ⟨b,0,none⟩) len len)::ρ,(b,c,e)::β⟩ v):XOp P mn rd n ops i Q K ⟨ds,ρ,β⟩ v:=by
 refine A1w ho (A0j hw) (.inr Y) hn fun ev hev hbk=>?_
 have hlen:=Nat.eq_of_beq_eq_true hlen
 have hsm:=Nat.le_of_ble_eq_true hsm
 unfold execOp
 have e1:(parts.map fun(i,x)=>(i,ev x)).toList=ps:=by rw [←A5m hev hps];simp
 simp only [Instr.buildSlice,A0a,A1k T ht,A4f T hs,A0h,e1]
 rw [if_neg oM]
 obtain⟨KK,hKK⟩:∃KK:Value→View→Prop,KK=fun a v'=>∃β' u,(Bok β' u∧(u.union (A0c β')).Le v')∧K ⟨ds,putR (some d) a ρ,β'⟩ u:=⟨_,rfl⟩
 have fin:∀(EE:Value→View→Prop) (zz:Array Value) (why:String),SemX P (match Instr.fill (fun i=>some (i*k,k)) ((Array.range (len*k)).map (zz[· % zz.size]!)) ps with
   | some cells=>do pure (.slice (some (←newRow e cells)) len len)
   | _=>stuck why) KK EE (v.union (A0c β)):=by
  intro EE zz why
  obtain⟨out,ho1,ho2,ho3⟩:=fill_all (k:=k) ps 0 ((Array.range (len*k)).map (zz[· % zz.size]!)) hp (by simp [hlen])
  rw [ho1]
  simp only [newRow,A0a,A0h,A8d]
  intro b hb
  obtain⟨h1,h2⟩:=A7m (c:=out) (t:=e) hbk hb
  have hflat:(ps.flatMap fun p=>p.2.cells.toList).length=len*k:=by
   have:∀(ps:List (Nat×Value)) (i:Nat),A9p k i ps=true→(ps.flatMap fun p=>p.2.cells.toList).length=ps.length*k:=by
    intro ps
    induction ps with
    | nil=>intros;simp
    | cons p r ih=>
     intro i hp
     obtain⟨j,x⟩:=p
     simp only [A9p,Bool.and_eq_true]at hp
     have:=Nat.eq_of_beq_eq_true hp.1.2
     simp only [List.flatMap_cons,List.length_append,ih _ hp.2,List.length_cons,Array.length_toList,this]
     rw [Nat.add_mul];omega
   rw [this ps 0 hp,hlen]
  rw [hKK]
  refine⟨(b,out,e)::β,v,⟨h1,h2⟩,h b out (.box hflat (Nat.le_refl _) (by simpa using ho2) fun j x hj=>?_)⟩
  rw [ho3 j]
  simpa using hj
 rw [←hKK]
 split
 ·rw [A0a,A0h];exact fin _ _ _
 ·rw [A0a,A8b T hz,A0a,A0h];exact fin _ _ _
theorem A7g{KK:Nat→View→Prop}{E:Value→View→Prop}{w:View}{k:IntKind}{x y:Nat}{c:BoundsCode}(hle:x≤y)(hK:KK x w):SemX P (Instr.sliceBound (.int k x) y c) KK E w:=by
 unfold Instr.sliceBound
 simp only [asIntOf,A0a,A0h]
 rw [if_pos ⟨oM,oM⟩]
 rw [A0h,Int.toNat_natCast]
 exact hK
theorem B0c{t e:TypeId}{y:Operand}{a:Addr}{len sz:Nat}  (ho:ops[i]?=some ⟨some d,.slice t y none none none,ty,pos,af,gu⟩)(hw:A0p ops gu ρ=some true)(hn:Nat.blt d n=true)
  (hy:ρ.val y=some (.pointer (some a)))(ht:T.und t=some (.array len e))(hs:T.siz e=some sz)
  (h:K ⟨ds,(d,.slice (some (if len=0 then a else a.add (0*sz))) (len-0) (len-0))::ρ,β⟩ v):XOp P mn rd n ops i Q K ⟨ds,ρ,β⟩ v:=by
 refine A1w ho (A0j hw) (.inr Y) hn fun ev hev hbk=>?_
 unfold execOp
 simp only [Option.map_none,Option.map_some,Instr.sliceAt,Instr.sureAddr,Instr.sliceBounds,hev _ _ hy,A0a,A0h,A1k T ht]
 simp only [A4f T hs]
 exact⟨β,v,⟨hbk,Le.refl _⟩,h⟩
theorem A_sliceArr_h{t e:TypeId}{y z1:Operand}{a:Addr}{len h' sz:Nat}{k1:IntKind}(ho:ops[i]?=some ⟨some d,.slice t y none (some z1) none,ty,pos,af,gu⟩)(hw:A0p ops gu ρ=some true)(hn:Nat.blt d n=true)
  (hy:ρ.val y=some (.pointer (some a)))(ht:T.und t=some (.array len e))(hs:T.siz e=some sz)(hhi:ρ.val z1=some (.int k1 h'))(h2:h'≤len)
  (h:K ⟨ds,(d,.slice (some (if len=0 then a else a.add (0*sz))) (h'-0) (len-0))::ρ,β⟩ v):XOp P mn rd n ops i Q K ⟨ds,ρ,β⟩ v:=by
 refine A1w ho (A0j hw) (.inr Y) hn fun ev hev hbk=>?_
 unfold execOp
 simp only [Option.map_none,Option.map_some,Instr.sliceAt,Instr.sureAddr,Instr.sliceBounds,hev _ _ hy,hev _ _ hhi,A0a,A0h,A1k T ht]
 refine A7g h2 ?_
 simp only [A4f T hs]
 exact⟨β,v,⟨hbk,Le.refl _⟩,h⟩
end
def XR(P:Program)(mn:Who)(rd:Option Nat)(n:Nat)(ops:Array Oper)(i:Nat)(l:List Oper)(Q:Exit→St→View→Prop)(σ:St)(v:View):Prop:=
 ops.toList.drop i=l→XO P mn rd n ops (List.range' i l.length) Q σ v
section
variable{P:Program}{mn:Who}(T:Tab P){rd:Option Nat}{n:Nat}{Q:Exit→St→View→Prop}{ds:List Deferred}{ρ:Regs}{β:A0e}{v:View}{σ:St}
 {ops:Array Oper}{i:Nat}{l:List Oper}{d:Nat}{o:Oper}{op:Op}{ty:TypeId}{pos:String}{af:Array Edge}{gu:Option (Nat×Bool)}
theorem A2f(h:ops.toList.drop i=o::l):ops[i]?=some o∧ops.toList.drop (i+1)=l:=by
 constructor
 ·have:=congrArg List.head? h
  simpa [List.head?_drop]using this
 ·have:ops.toList.drop (i+1)=(ops.toList.drop i).drop 1:=by rw [List.drop_drop]
  rw [this,h];rfl
theorem A7o{id:Nat}{l:List Oper}(h:XR P mn rd n (List.toArray l) 0 l Q σ v):XC P mn rd n (.region id (List.toArray l) false) Q σ v:=
 XC_region (l:=List.range' 0 l.length) (by simp [List.range_eq_range']) (h rfl)
theorem Q_nil(h:Q .normal σ v):XR P mn rd n ops i [] Q σ v:=fun _=>XO_nil h
theorem Q_op(h:ops[i]?=some o→XOp P mn rd n ops i Q (fun σ u=>XR P mn rd n ops (i+1) l Q σ u) σ v):XR P mn rd n ops i (o::l) Q σ v:=fun hd=>by
 obtain⟨h1,h2⟩:=A2f hd
 refine XO_op (rest:=List.range' (i+1) l.length) fun a hf hb=>?_
 obtain⟨o',ho,hw,hde,hs⟩:=h h1 a hf hb
 have key:∀{a' w},KP n (fun σ u=>XR P mn rd n ops (i+1) l Q σ u) a' w→KP n (fun σ u=>XO P mn rd n ops (List.range' (i+1) l.length) Q σ u) a' w:=fun⟨σ',u,hK,hr⟩=>⟨σ',u,hK h2,hr⟩
 refine⟨o',ho,hw,hde,A1y _ (fun nx w hK=>?_) (fun x w hE=>hE) hs⟩
 cases nx with
 | value x=>exact key hK
 | skip=>exact key hK
 | defer d=>exact⟨hK.1,key hK.2⟩
 | enter f args=>exact CallsX.mono hK fun e w' hR=>⟨w',Le.refl _,by cases e<;>first|exact key hR|exact hR⟩
 | round l f tmps assign body=>
  refine⟨hK.1,?_⟩
  intro Stop c cs hc hk
  exact hK.2 Stop c cs hc fun e w' hR=>hk e w' (by cases e<;>first|exact key hR|exact hR)
 | _=>exact hK.elim
theorem B2o{x:Value}(hw:A0p ops gu ρ=some true)(hn:Nat.blt d n=true)(hx:A1h T ρ.val op=some x)(h:XR P mn rd n ops (i+1) l Q ⟨ds,(d,x)::ρ,β⟩ v):XR P mn rd n ops i (⟨some d,op,ty,pos,af,gu⟩::l) Q ⟨ds,ρ,β⟩ v:=fun hd=>
 R_pure T (A2f hd).1 hw hn hx (h (A2f hd).2)
theorem Q_skip(hw:A0p ops gu ρ=some false)(hn:Nat.blt d n=true)(h:XR P mn rd n ops (i+1) l Q ⟨ds,(d,undef)::ρ,β⟩ v):XR P mn rd n ops i (⟨some d,op,ty,pos,af,gu⟩::l) Q ⟨ds,ρ,β⟩ v:=fun hd=>
 R_skip (A2f hd).1 hw hn (h (A2f hd).2)
theorem Q_guard{op':Op}{ty':TypeId}{pos':String}{af':Array Edge}{gu':Option (Nat×Bool)}{j:Nat}{want b:Bool}{dst:Option Tmp}(hj:ops[j]?=some ⟨some d,op',ty',pos',af',gu'⟩)(hb:ρ.get d=some (.bool b))
  (h1:b=true→XR P mn rd n ops i (⟨dst,op,ty,pos,af,some (j,want)⟩::l) Q ⟨ds,(d,.bool true)::ρ,β⟩ v)(h2:b=false→XR P mn rd n ops i (⟨dst,op,ty,pos,af,some (j,want)⟩::l) Q ⟨ds,(d,.bool false)::ρ,β⟩ v):XR P mn rd n ops i (⟨dst,op,ty,pos,af,some (j,want)⟩::l) Q ⟨ds,ρ,β⟩ v:=fun hd=>
 R_guard (A2f hd).1 hj hb (fun h=>h1 h hd) (fun h=>h2 h hd)
theorem Q_box{t:TypeId}{y:Operand}{x:Value}(hw:A0p ops gu ρ=some true)(hn:Nat.blt d n=true)(hx:ρ.val y=some x)(h:∀b,XR P mn rd n ops (i+1) l Q ⟨ds,(d,.pointer (some ⟨b,0,none⟩))::ρ,(b,x.cells,t)::β⟩ v):XR P mn rd n ops i (⟨some d,.box t y,ty,pos,af,gu⟩::l) Q ⟨ds,ρ,β⟩ v:=fun hd=>
 R_box (A2f hd).1 hw hn hx (fun b=>h b (A2f hd).2)
theorem Q_alloc{t:TypeId}{z:Value}(hw:A0p ops gu ρ=some true)(hn:Nat.blt d n=true)(hz:T.zer t=some z)(h:∀b,XR P mn rd n ops (i+1) l Q ⟨ds,(d,.pointer (some ⟨b,0,none⟩))::ρ,(b,z.cells,t)::β⟩ v):XR P mn rd n ops i (⟨some d,.alloc t,ty,pos,af,gu⟩::l) Q ⟨ds,ρ,β⟩ v:=fun hd=>
 R_alloc T (A2f hd).1 hw hn hz (fun b=>h b (A2f hd).2)
theorem Q_loadN{t t':TypeId}{y:Operand}{b off:Nat}{c:Array Value}{x:Value}(hw:A0p ops gu ρ=some true)(hn:Nat.blt d n=true)(hy:ρ.val y=some (.pointer (some ⟨b,off,none⟩)))(hb:InB b c t' β)(hx:readN T t c off=some x)
  (h:XR P mn rd n ops (i+1) l Q ⟨ds,(d,x)::ρ,β⟩ v):XR P mn rd n ops i (⟨some d,.load t y,ty,pos,af,gu⟩::l) Q ⟨ds,ρ,β⟩ v:=fun hd=>
 R_loadN T (A2f hd).1 hw hn hy hb hx (h (A2f hd).2)
theorem Q_loadB{t t':TypeId}{y:Operand}{b off:Nat}{c:Array Value}{x:Value}(hw:A0p ops gu ρ=some true)(hn:Nat.blt d n=true)(hy:ρ.val y=some (.pointer (some ⟨b,off,none⟩)))(hb:InB b c t' β)(hx:A4k T t c off=some x)
  (h:XR P mn rd n ops (i+1) l Q ⟨ds,(d,x)::ρ,β⟩ v):XR P mn rd n ops i (⟨some d,.load t y,ty,pos,af,gu⟩::l) Q ⟨ds,ρ,β⟩ v:=fun hd=>
 R_loadB T (A2f hd).1 hw hn hy hb hx (h (A2f hd).2)
theorem A2b{t e:TypeId}{y:Operand}{b off:Nat}{p:Bool}{c:Array Value}{f:Nat×Nat}{x:Value}(hw:A0p ops gu ρ=some true)(hn:Nat.blt d n=true)(hy:ρ.val y=some (.pointer (some ⟨b,off,none⟩)))(hb:v b=some (p,.cells c e f))(hx:A4k T t c off=some x)
  (h:XR P mn rd n ops (i+1) l Q ⟨ds,(d,x)::ρ,β⟩ v):XR P mn rd n ops i (⟨some d,.load t y,ty,pos,af,gu⟩::l) Q ⟨ds,ρ,β⟩ v:=fun hd=>
 R_load T (A2f hd).1 hw hn hy hb hx (h (A2f hd).2)
theorem A6d{t e:TypeId}{y z:Operand}{b off len cap sz:Nat}{jz:Int}{k:IntKind}(j:Nat)(hw:A0p ops gu ρ=some true)(hn:Nat.blt d n=true)
  (hy:ρ.val y=some (.slice (some ⟨b,off,none⟩) len cap))(hz:ρ.val z=some (.int k jz))(hj:jz=j)(ht:T.und t=some (.slice e))(hs:T.siz e=some sz)(h1:j<len)
  (h:XR P mn rd n ops (i+1) l Q ⟨ds,(d,.pointer (some ⟨b,off+j*sz,none⟩))::ρ,β⟩ v):XR P mn rd n ops i (⟨some d,.indexAddr t y z,ty,pos,af,gu⟩::l) Q ⟨ds,ρ,β⟩ v:=fun hd=>
 R_elem T j (A2f hd).1 hw hn hy hz hj ht hs h1 (h (A2f hd).2)
include T in
theorem Q_add{t t':TypeId}{y z:Operand}{a b:Int}(hw:A0p ops gu ρ=some true)(hn:Nat.blt d n=true)(hy:ρ.val y=some (.int .i64 a))(hz:ρ.val z=some (.int .i64 b))(h1:-9223372036854775808≤a+b)(h2:a+b≤9223372036854775807)
  (h:XR P mn rd n ops (i+1) l Q ⟨ds,(d,.int .i64 (a+b))::ρ,β⟩ v):XR P mn rd n ops i (⟨some d,.binOp .add t y z t',ty,pos,af,gu⟩::l) Q ⟨ds,ρ,β⟩ v:=fun hd=>
 R_add T (A2f hd).1 hw hn hy hz h1 h2 (h (A2f hd).2)
include T in
theorem Q_sub{t t':TypeId}{y z:Operand}{a b:Int}(hw:A0p ops gu ρ=some true)(hn:Nat.blt d n=true)(hy:ρ.val y=some (.int .i64 a))(hz:ρ.val z=some (.int .i64 b))(h1:-9223372036854775808≤a-b)(h2:a-b≤9223372036854775807)
  (h:XR P mn rd n ops (i+1) l Q ⟨ds,(d,.int .i64 (a-b))::ρ,β⟩ v):XR P mn rd n ops i (⟨some d,.binOp .sub t y z t',ty,pos,af,gu⟩::l) Q ⟨ds,ρ,β⟩ v:=fun hd=>
 R_sub T (A2f hd).1 hw hn hy hz h1 h2 (h (A2f hd).2)
include T in
theorem Q_bin{bo:BinOp}{t t':TypeId}{y z:Operand}{a b:Value}(x:Value)(hw:A0p ops gu ρ=some true)(hn:Nat.blt d n=true)(hy:ρ.val y=some a)(hz:ρ.val z=some b)(hx:A6c T bo t a b=some x)
  (h:XR P mn rd n ops (i+1) l Q ⟨ds,(d,x)::ρ,β⟩ v):XR P mn rd n ops i (⟨some d,.binOp bo t y z t',ty,pos,af,gu⟩::l) Q ⟨ds,ρ,β⟩ v:=
 B2o T hw hn (by simp only [A1h,hy,hz,hx]) h
theorem Q_storeA{t t':TypeId}{y z:Operand}{b off k:Nat}{c:Array Value}{x:Value}{β':A0e}(hw:A0p ops gu ρ=some true)
  (hy:ρ.val y=some (.pointer (some ⟨b,off,none⟩)))(hz:ρ.val z=some x)(ht:T.siz t=some k)(hk:x.cells.size=k)(hone:x.cells.toList.all A2k=true)(hb:InB b c t' β)(hoff:Nat.ble (off+k) c.size=true)(hset:SetB b (A0z c off x.cells.toList) β β')
  (h:XR P mn rd n ops (i+1) l Q ⟨ds,ρ,β'⟩ v):XR P mn rd n ops i (⟨none,.store t y z,ty,pos,af,gu⟩::l) Q ⟨ds,ρ,β⟩ v:=Q_op fun ho=>A1c T ho hw hy hz ht hk hone hb hoff hset h
theorem Q_store{t t':TypeId}{y z:Operand}{b off k:Nat}{c:Array Value}{x:Value}{β':A0e}(hw:A0p ops gu ρ=some true)
  (hy:ρ.val y=some (.pointer (some ⟨b,off,none⟩)))(hz:ρ.val z=some x)(ht:T.siz t=some k)(hk:x.cells.size=k)(hone:x.cells.toList.all A2k=true)(hb:InB b c t' β)(hoff:Nat.ble (off+k) c.size=true)(hset:SetB b (putV c.toList off x.cells.toList).toArray β β')
  (h:XR P mn rd n ops (i+1) l Q ⟨ds,ρ,β'⟩ v):XR P mn rd n ops i (⟨none,.store t y z,ty,pos,af,gu⟩::l) Q ⟨ds,ρ,β⟩ v:=Q_storeA T hw hy hz ht hk hone hb hoff (by rw [←A7f]at hset;exact hset) h
theorem A2q{K:St→View→Prop}{t t':TypeId}{y z:Operand}{b off k:Nat}{c:Array Value}{x:Value}{β':A0e}(ho:ops[i]?=some ⟨none,.store t y z,ty,pos,af,gu⟩)(hw:A0p ops gu ρ=some true)
  (hy:ρ.val y=some (.pointer (some ⟨b,off,none⟩)))(hz:ρ.val z=some x)(ht:T.siz t=some k)(hk:x.cells.size=k)(hone:x.cells.toList.all A2k=true)(hb:InB b c t' β)(hoff:Nat.ble (off+k) c.size=true)(hset:SetB b (putV c.toList off x.cells.toList).toArray β β')
  (h:K ⟨ds,ρ,β'⟩ v):XOp P mn rd n ops i Q K ⟨ds,ρ,β⟩ v:=A1c T ho hw hy hz ht hk hone hb hoff (by rw [←A7f]at hset;exact hset) h
theorem C_lex'{id:Nat}{l:List Oper}(hm:P.follows .mixedOrders=true)(hq:l.all (fun o=>quietOp o.op)=true)(hB:(Region.lexB .any (List.toArray l)&&(List.toArray l).all (fun o=>!A1t o.op))=true)(h:XL P mn n (List.toArray l) Q l ⟨ds,ρ,β⟩ v) :
  XC P mn rd n (.region id (List.toArray l) true) Q ⟨ds,ρ,β⟩ v:=C_lex hm rfl hq hB h
def RetB(R:Value→A0e→Prop):End→A0e→Prop
 | .ret x,β=>R x β
 | .pan _,_=>False
theorem A0o{K:St→View→Prop}{f:Operand}{args:Array Operand}{ats:Array TypeId}{k:FuncId}{first captured:Array Value}{xs ys:List Value}{R:Value→A0e→Prop}(bin rest:A0e)(ho:ops[i]?=some ⟨some d,.call {callee:=.value f,args:=args,argTypes:=ats },ty,pos,af,gu⟩)(hk:A0i P k)(hw:A0p ops gu ρ=some true)(hn:Nat.blt d n=true)
  (hf:ρ.val f=some (.func (.func k) first captured))(hxs:A2s ρ.val args.toList=some xs)(hys:first.toList++(xs++captured.toList)=ys)
  (hsplit:∀p,cnt p β=cnt p (bin++rest))(hc:CallsB P mn k ys.toArray (RetB R) bin (v.union (A0c rest)))
  (hr:∀x β',R x β'→K ⟨ds,(d,x)::ρ,β'++rest⟩ v):XOp P mn rd n ops i Q K ⟨ds,ρ,β⟩ v:=
 A_call (R:=RetB R) bin rest ho hw hn hf hxs hk hsplit (by
  have:first++xs.toArray++captured=ys.toArray:=by rw [←hys];apply Array.ext';simp
  rw [this];exact hc) (fun x β' h=>hr x β' h) (fun ch β' h=>h.elim)
end
theorem flat_get{k:Nat}:∀(xs:List (List Value)) (j i:Nat),(∀x∈xs,x.length=k)→i<k→xs.flatten[j*k+i]?=(xs[j]?).bind (·[i]?)
 | [],j,i,_,_=>by simp
 | x::xs,0,i,h,hi=>by
  have hx:=h x (List.mem_cons_self ..)
  simp only [Nat.zero_mul,Nat.zero_add,List.flatten_cons,List.getElem?_cons_zero,Option.bind_some]
  rw [List.getElem?_append_left oM]
 | x::xs,j+1,i,h,hi=>by
  have hx:=h x (List.mem_cons_self ..)
  have ih:=flat_get xs j i (fun y hy=>h y (List.mem_cons_of_mem _ hy)) hi
  simp only [List.flatten_cons,List.getElem?_cons_succ]
  rw [List.getElem?_append_right (by rw [hx,Nat.add_mul];omega),←ih]
  congr 1
  rw [hx,Nat.add_mul];omega
theorem flat_len{k:Nat}:∀(xs:List (List Value)),(∀x∈xs,x.length=k)→xs.flatten.length=xs.length*k
 | [],_=>by simp
 | x::xs,h=>by
  simp only [List.flatten_cons,List.length_append,List.length_cons,h x (List.mem_cons_self ..),flat_len xs (fun y hy=>h y (List.mem_cons_of_mem _ hy)),Nat.add_mul]
  omega
theorem RowAt.recs{v:View}{a:Option Addr}{k:Nat}{xs:List (List Value)}(h:RowAt v a xs.flatten)(hk:∀x∈xs,x.length=k)(hk0:0<k){i:Nat}(hi:i<xs.length) :
  ∃b off p c e f,a=some ⟨b,off,none⟩∧v b=some (p,.cells c e f)∧∀j (hj:j<xs.length),off+j*k+k≤c.size∧c.extract (off+j*k) (off+j*k+k)=xs[j].toArray:=by
 have hlen:=flat_len xs hk
 rcases h with h|⟨b,off,p,c,e,f,h1,h2,h3,h4⟩
 ·rw [h]at hlen
  simp only [List.length_nil]at hlen
  have:0<xs.length*k:=Nat.mul_pos oM hk0
  omega
 ·refine⟨b,off,p,c,e,f,h1,h2,fun j hj=>?_⟩
  have hle:j*k+k≤xs.length*k:=by
   have:(j+1)*k≤xs.length*k:=Nat.mul_le_mul_right _ hj
   rw [Nat.add_mul]at this;omega
  refine⟨oM,?_⟩
  have hx:=hk xs[j] (List.getElem_mem _)
  apply Array.ext_getElem?
  intro q
  simp only [Array.getElem?_extract,List.getElem?_toArray]
  by_cases hq:q<k
  ·rw [if_pos oM]
   have hg:=flat_get xs j q hk hq
   rw [List.getElem?_eq_getElem hj,Option.bind_some]at hg
   rw [List.getElem?_eq_getElem (show q<xs[j].length by omega)]at hg⊢
   rw [Nat.add_assoc]
   exact h4 _ _ hg
  ·rw [if_neg oM,List.getElem?_eq_none oM]
theorem RowAt.get{v:View}{a:Option Addr}{α:Type}{f:α→Value}{xs:List α}(h:RowAt v a (xs.map f)){i:Nat}(hi:i<xs.length) :
  ∃b off p c e fr,a=some ⟨b,off,none⟩∧v b=some (p,.cells c e fr)∧∀j (hj:j<xs.length),c[off+j]?=some (f xs[j]):=by
 rcases h with h|⟨b,off,p,c,e,fr,h1,h2,h3,h4⟩
 ·have:xs=[]:=by simpa using h
  subst this;simp at hi
 ·exact⟨b,off,p,c,e,fr,h1,h2,fun j hj=>h4 j _ (by simp [hj])⟩
section
variable{P:Program}{mn:Who}(T:Tab P){rd:Option Nat}{n:Nat}{Q:Exit→St→View→Prop}{ds:List Deferred}{ρ:Regs}{β:A0e}{v:View}{σ:St}
 {ops:Array Oper}{i:Nat}{l:List Oper}{d:Nat}{o:Oper}{op:Op}{ty:TypeId}{pos:String}{af:Array Edge}{gu:Option (Nat×Bool)}{K:St→View→Prop}
theorem A1g{t:TypeId}{td:TypeDesc}{c:Array Value}{off k:Nat}{x:List Value}(h1:T.und t=some td)(h2:T.siz t=some k)(h3:aggOf td=true)(h:off+k≤c.size∧c.extract off (off+k)=x.toArray):A4k T t c off=some (.agg x.toArray):=by
 unfold A4k;rw [h1,h2];simp only [h3,if_true,h.1,h.2]
theorem B1l{K:Value→View→Prop}{E:Value→View→Prop}{w:View}{t e:TypeId}{k:IntKind}{b off len sz j:Nat}{jz:Int}(ht:T.und t=some (.array len e))(hs:T.siz e=some sz)(hj:jz=j)(h1:j<len)
  (hk:K (.pointer (some ⟨b,off+j*sz,none⟩)) w):SemX P (Instr.indexAt t (.pointer (some ⟨b,off,none⟩)) (.int k jz)) K E w:=by
 subst hj
 unfold Instr.indexAt
 simp only [asIntOf,Instr.sureAddr,A0a,A0h,A1k T ht]
 rw [if_pos ⟨oM,oM⟩,A0a,A4f T hs,A0h,A5n]
 simpa using hk
theorem Q_elemA{t e:TypeId}{y z:Operand}{b off len sz:Nat}{jz:Int}{k:IntKind}(j:Nat)(hw:A0p ops gu ρ=some true)(hn:Nat.blt d n=true)
  (hy:ρ.val y=some (.pointer (some ⟨b,off,none⟩)))(hz:ρ.val z=some (.int k jz))(hj:jz=j)(ht:T.und t=some (.array len e))(hs:T.siz e=some sz)(h1:j<len)
  (h:XR P mn rd n ops (i+1) l Q ⟨ds,(d,.pointer (some ⟨b,off+j*sz,none⟩))::ρ,β⟩ v):XR P mn rd n ops i (⟨some d,.indexAddr t y z,ty,pos,af,gu⟩::l) Q ⟨ds,ρ,β⟩ v:=Q_op fun ho=>by
 refine A1w ho (A0j hw) (.inr Y) hn fun ev hev hbk=>?_
 unfold execOp
 simp only [hev _ _ hy,hev _ _ hz,A0a,A0h]
 exact B1l T ht hs hj h1 ⟨β,v,⟨hbk,Le.refl _⟩,h⟩
theorem S_elemA{S:List Rec}{done ms todo:List Nat}{v0:View}{t e:TypeId}{y z:Operand}{b off len sz:Nat}{jz:Int}{k:IntKind}(j:Nat)(ho:ops[i]?=some ⟨some d,.indexAddr t y z,ty,pos,af,gu⟩)(hw:A0p ops gu ρ=some true)(hn:Nat.blt d n=true)(hB:A9k ops ms done i=true)
  (hy:ρ.val y=some (.pointer (some ⟨b,off,none⟩)))(hz:ρ.val z=some (.int k jz))(hj:jz=j)(ht:T.und t=some (.array len e))(hs:T.siz e=some sz)(h1:j<len)
  (h:XS P mn n ops ms v0 Q todo S (i::done) ⟨ds,(d,.pointer (some ⟨b,off+j*sz,none⟩))::ρ,β⟩ v):XS P mn n ops ms v0 Q (i::todo) S done ⟨ds,ρ,β⟩ v:=
 A5d (vq:=fun _=>none) (x:=.pointer (some ⟨b,off+j*sz,none⟩)) ho hn hB (fun a hf=>.inl ⟨A0m hf (A0j hw),fun u _=>by
  unfold QAt execOp
  simp only [A0k hf _ _ hy,A0k hf _ _ hz,A0a,A0h]
  exact B1l T ht hs hj h1 ⟨Le.refl _,Y⟩⟩) (fun _ _ b x e=>by cases e) (B1m fun b x e=>by cases e) h
end
def methB(P:Program)(t:TypeId)(name:String)(f:FuncId):Bool:=
 match P.info? t with
 | some i=>match i.methods.find? (·.name==name)with
  | some m=>m.path.isEmpty&&(match m.func with|some (g,false)=>Nat.beq g f|_=>false)
  | none=>false
 | none=>false
def plainD:TypeDesc→Bool
 | .pointer _=>false
 | _=>true
theorem RowAt.box{v:View}{β:A0e}{b off:Nat}{c:Array Value}{t:TypeId}{cs:List Value}(hb:Bok β v)(hin:InB b c t β)(hoff:off+cs.length≤c.size)(h:∀i x,cs[i]?=some x→c[off+i]?=some x):RowAt (v.union (A0c β)) (some ⟨b,off,none⟩) cs:=
 .inr ⟨b,off,true,c,t,(0,0),rfl,A0q hb hin,hoff,h⟩
theorem RowAt.own{v:View}{β seg:A0e}{e:TypeId}{k:Nat}{a:Option Addr}{len cap:Nat}{cs:List Value}(hb:Bok β v)(hs:Subm seg β)(h:OwnS e k seg a len cap cs):RowAt (v.union (A0c β)) a cs:=
 h.row.le fun j x hj=>A1l hb.disj _ _ ((A6b hs hb.nodup).2 _ _ hj)
section
variable{P:Program}{mn:Who}(T:Tab P){rd:Option Nat}{n:Nat}{Q:Exit→St→View→Prop}{ds:List Deferred}{ρ:Regs}{β:A0e}{v:View}{σ:St}
 {ops:Array Oper}{i:Nat}{l:List Oper}{d:Nat}{o:Oper}{op:Op}{ty:TypeId}{pos:String}{af:Array Edge}{gu:Option (Nat×Bool)}{K:St→View→Prop}
theorem sx_method{KK:FuncId×Value→View→Prop}{E:Value→View→Prop}{w:View}{t:TypeId}{td:TypeDesc}{x:Value}{name:String}{f:FuncId}{fuel:Nat}(hm:methB P t name f=true)(ht:T.und t=some td)(hp:plainD td=true)(hk:KK (f,x) w) :
  SemX P (method (fuel+1) t x name) KK E w:=by
 unfold methB at hm
 split at hm
 ·rename_i inf hi
  split at hm
  ·rename_i m hfind
   simp only [Bool.and_eq_true]at hm
   obtain⟨hpath,hf⟩:=hm
   have hpath:m.path.toList=[]:=by simpa using hpath
   unfold method
   rw [A0a,A6h hi,hfind]
   simp only [A0a,hpath,follow,A0h]
   split at hf
   ·rename_i g hg
    have:=Nat.eq_of_beq_eq_true hf
    subst this
    simp only [hg,A0a]
    unfold receiverAt
    simp only [A0a,A1k T ht]
    cases td<;>first|exact hk|cases hp
   ·cases hf
  ·cases hm
 ·cases hm
theorem A_invoke{recv:Operand}{name:String}{args:Array Operand}{ats:Array TypeId}{k:FuncId}{t:TypeId}{td:TypeDesc}{x:Value}{xs ys:List Value}{R:Value→A0e→Prop}(bin rest:A0e)(ho:ops[i]?=some ⟨some d,.call {callee:=.invoke recv name,args:=args,argTypes:=ats },ty,pos,af,gu⟩)(hk:A0i P k)(hm:methB P t name k=true)(ht:T.und t=some td)(hp:plainD td=true)(hw:A0p ops gu ρ=some true)(hn:Nat.blt d n=true)
  (hx:ρ.val recv=some (.iface t x))(hxs:A2s ρ.val args.toList=some xs)(hys:x::xs=ys)
  (hsplit:∀p,cnt p β=cnt p (bin++rest))(hc:CallsB P mn k ys.toArray (RetB R) bin (v.union (A0c rest)))
  (hr:∀x β',R x β'→K ⟨ds,(d,x)::ρ,β'++rest⟩ v):XOp P mn rd n ops i Q K ⟨ds,ρ,β⟩ v:=by
 refine A1w ho (A0j hw) (.inr Y) hn fun ev hev hbk=>?_
 have ha:args.map ev=xs.toArray:=Array.toList_inj.1 (by simpa using A2c hev hxs)
 unfold execOp
 simp only [resolve,hev _ _ hx,ha,A0a,A0h,invoke]
 have h0:(#[.iface t x]++xs.toArray:Array Value)[0]?=some (.iface t x):=by simp
 have h1:(#[.iface t x]++xs.toArray:Array Value).extract 1 (#[.iface t x]++xs.toArray:Array Value).size=xs.toArray:=by
  apply Array.ext'
  simp
 simp only [h0,h1,callMethod,A0a,A1s]
 have hdep:0<Made.depth:=by decide
 obtain⟨fu,hfu⟩:∃fu,P.types.size+Made.depth=fu+1:=⟨P.types.size+Made.depth-1,oM⟩
 rw [hfu]
 refine sx_method T hm ht hp ?_
 have h2:(#[x]++xs.toArray:Array Value)=ys.toArray:=by rw [←hys];apply Array.ext';simp
 simp only [h2]
 obtain⟨hb1,he⟩:=A3v (A2e hsplit) hbk
 obtain⟨hb2,hb3⟩:=bok_append.1 hb1
 have hc':=hc hb3
 rw [←A0v hb1,he]at hc'
 refine A4t hk (CallsX.mono hc' fun e w hR=>⟨w,Le.refl _,?_⟩)
 obtain⟨β',hR,hb',hl⟩:=hR
 have hb4:Bok (β'++rest) v:=bok_append.2 ⟨hb2,hb'⟩
 refine⟨β'++rest,v,⟨hb4,(A0v hb4) ▸ hl⟩,?_⟩
 cases e with
 | ret x=>exact hr x β' hR
 | pan ch=>exact hR.elim
theorem A8x{β1 β2:A0e}(hp:∀p,cnt p β=cnt p (β1++β2))(h:Bok β1 v→XR P mn rd n ops i l Q ⟨ds,ρ,β2⟩ (v.union (A0c β1))):XR P mn rd n ops i l Q ⟨ds,ρ,β⟩ v:=fun hd=>
 XO_retire hp fun hb=>h hb hd
include T in
theorem S_add{S:List Rec}{done ms todo:List Nat}{v0:View}{t t':TypeId}{y z:Operand}{a b:Int}(ho:ops[i]?=some ⟨some d,.binOp .add t y z t',ty,pos,af,gu⟩)(hw:A0p ops gu ρ=some true)(hn:Nat.blt d n=true)(hB:A9k ops ms done i=true)(hy:ρ.val y=some (.int .i64 a))(hz:ρ.val z=some (.int .i64 b))
  (h1:-9223372036854775808≤a+b)(h2:a+b≤9223372036854775807)(h:XS P mn n ops ms v0 Q todo S (i::done) ⟨ds,(d,.int .i64 (a+b))::ρ,β⟩ v):XS P mn n ops ms v0 Q (i::todo) S done ⟨ds,ρ,β⟩ v:=by
 refine S_pure T ho hw hn hB ?_ h
 simp only [A1h,hy,hz,A6c,A8s,if_true,A2d h1 h2]
include T in
theorem S_sub{S:List Rec}{done ms todo:List Nat}{v0:View}{t t':TypeId}{y z:Operand}{a b:Int}(ho:ops[i]?=some ⟨some d,.binOp .sub t y z t',ty,pos,af,gu⟩)(hw:A0p ops gu ρ=some true)(hn:Nat.blt d n=true)(hB:A9k ops ms done i=true)(hy:ρ.val y=some (.int .i64 a))(hz:ρ.val z=some (.int .i64 b))
  (h1:-9223372036854775808≤a-b)(h2:a-b≤9223372036854775807)(h:XS P mn n ops ms v0 Q todo S (i::done) ⟨ds,(d,.int .i64 (a-b))::ρ,β⟩ v):XS P mn n ops ms v0 Q (i::todo) S done ⟨ds,ρ,β⟩ v:=by
 refine S_pure T ho hw hn hB ?_ h
 simp only [A1h,hy,hz,A6c,A8s,if_true,A2d h1 h2]
theorem A_copy{t t' ty' e:TypeId}{k m dlen dcap cap2 b off:Nat}{y y2:Operand}{a2:Option Addr}{xs:List Value}{c:Array Value}{β':A0e}(ho:ops[i]?=some ⟨some d,.call {callee:=.builtin .copy,args:=#[y,y2],argTypes:=#[t,t'] },ty,pos,af,gu⟩)(hw:A0p ops gu ρ=some true)(hn:Nat.blt d n=true)
  (hy:ρ.val y=some (.slice (some ⟨b,off,none⟩) dlen dcap))(hy2:ρ.val y2=some (.slice a2 m cap2))(ht:T.und t=some (.slice e))(hs:T.siz e=some k)
  (hx:RowAt (v.union (A0c β)) a2 xs)(hxl:xs.length=m*k)(hone:xs.all A2k=true)(hle:m≤dlen)(hin:InB b c ty' β)(hoff:off+m*k≤c.size)(hset:SetB b (A0z c off xs) β β')
  (h:K ⟨ds,(d,.int .i64 m)::ρ,β'⟩ v):XOp P mn rd n ops i Q K ⟨ds,ρ,β⟩ v:=by
 refine A1w ho (A0j hw) (.inr Y) hn fun ev hev hbk=>?_
 simp only [execOp,resolve,show(#[y,y2]:Array Operand).map ev=#[ev y,ev y2]from by simp,hev _ _ hy,hev _ _ hy2,A0a,A0h,invoke,builtin,Builtin.copy_]
 simp only [show(#[t,t']:Array TypeId)[0]?=some t from Y,show ∀x y:Value,(#[x,y]:Array Value)[0]?=some x from fun _ _=>rfl,show ∀x y:Value,(#[x,y]:Array Value)[1]?=some y from fun _ _=>rfl,A0a,A1k T ht,A4f T hs,A0h,Builtin.lenOf]
 have hmin:Nat.min m dlen=m:=Nat.min_eq_left hle
 rw [hmin]
 refine A3r hx hxl ?_
 obtain⟨hbk',c₀,t₀,hin',hv⟩:=A8g hbk hset
 have hcc:c₀=c∧t₀=ty':=by
  have h1:=A0q (v:=v) hbk hin'
  have h2:=A0q (v:=v) hbk hin
  rw [h1]at h2
  simp only [Option.some.injEq,Prod.mk.injEq,Obj.cells.injEq]at h2
  exact⟨h2.2.1,h2.2.2.1⟩
 obtain⟨rfl,rfl⟩:=hcc
 refine A3q (off:=off) (c:=c₀) (e:=t₀) (j:=0) hone (A0q hbk hin') (by simp;omega) ?_
 refine⟨β',v,⟨hbk',?_⟩,h⟩
 rw [hv]
 exact Le.refl _
end
section
variable{κ:Type}[DecidableEq κ]
variable{P:Program}{t:TypeId}{val:κ→Value}{E:Value→View→Prop}{v:View}
theorem A9h{K:Obj→View→Prop}{r:Nat}{p:Bool}{o:Obj}(hv:v r=some (p,o))(h1:A9u o=false)(h2:o.isChan=false)(h:K o v):SemX P (getObj r) K E v:=⟨p,o,hv,h1,h2,h⟩
theorem A6t{K:Unit→View→Prop}{r:Nat}{o o':Obj}(hv:v r=some (true,o'))(h1:A9u o'=false)(h2:o.isChan=false)(h:K () (v.set r true o)):SemX P (setObj r o) K E v:=⟨o',hv,h1,h2,h⟩
variable(T:Tab P)
end
section
variable{P:Program}{mn:Who}(T:Tab P){rd:Option Nat}{n:Nat}{Q:Exit→St→View→Prop}{ds:List Deferred}{ρ:Regs}{β:A0e}{v:View}{K:St→View→Prop}
 {ops:Array Oper}{i:Nat}{d:Nat}{ty:TypeId}{pos:String}{af:Array Edge}{gu:Option (Nat×Bool)}{κ:Type}[DecidableEq κ]{t:TypeId}{val:κ→Value}
theorem box_none{r:Nat}{p:Bool}{o:Obj}(hb:Bok β v)(hv:v r=some (p,o)):A0c β r=none:=by
 rcases hb.disj r with h|h
 ·rw [hv]at h;cases h
 ·exact h
theorem A2t{r:Nat}{x:Bool×Obj}(hv:v r=some x):(v.union (A0c β)) r=some x:=by unfold View.union;rw [hv]
theorem B2f{r:Nat}{p:Bool}{o:Obj}(hb:Bok β v)(hr:A0c β r=none):Bok β (v.set r p o)∧(v.union (A0c β)).set r p o=(v.set r p o).union (A0c β):=by
 refine⟨⟨hb.nodup,B0y hb.disj hr⟩,A2x⟩
end
end Go.Pal
end
section
namespace Go.Pal
open Go Go.Conc View
open Go.ConcN (sumTo upd sumTo_upd upd_ne upd_same)
theorem A8k{P:Program}{N N':Nat}{m m₁ m₂:Machine}{t t₁ t₂:Trace}(h:runNT P N m t=(.next m₁,t₁))(hk:runNT P N' m₁ t₁=(.next m₂,t₂)):runNT P (N+N') m t=(.next m₂,t₂):=by
 induction N generalizing m t with
 | zero=>simp only [runNT,Prod.mk.injEq,Stepped.next.injEq]at h;obtain⟨rfl,rfl⟩:=h;simpa using hk
 | succ N ih=>
  rw [Nat.add_right_comm,runNT]
  rw [runNT]at h
  rcases hs:stepT P m with ⟨s,ops⟩
  rw [hs]at h
  cases s with
  | next m'=>exact ih h
  | ended o w=>simp at h
theorem B1o{P:Program}{m m₁:Machine}{t:Trace}{ops:Array MemOp}(h:stepT P m=(.next m₁,ops)):runNT P 1 m t=(.next m₁,t++ops):=by
 simp [runNT,h]
theorem opsG{g:Nat}{fn:FuncId}{pos:String}{es:Array Event}:∀op∈MemOp.ofEvents g fn pos es,op.g=g:=by
 intro op hop
 obtain⟨e,_,rfl⟩:=Go.Conc.mem_ofEvents hop
 rfl
theorem PStep.of_at{v v':View}{w w':World}{d:Nat}(k:PStep v (w.at d) v' w'):PStep v w v' w':=⟨k.agree,k.tape,k.output,k.os,k.size,k.keep,k.dom,k.own⟩
theorem A5f(r:Nat)(wr:Bool):MemAct.ofEvent ⟨.obj r,wr,false⟩ = .access ⟨.obj r,wr,false⟩:=by cases wr<;>rfl
theorem evL_of{v:View}{S:Nat→Prop}{lo hi:Nat}{e:Event}(hS:∀b,S b→v b=none)(hl:∀b,S b→b<lo)(hv:∀b x,v b=some x→b<hi)(h:EvOk v lo hi e):EvL (ShunL S) hi e:=by
 obtain⟨l,wr,sy⟩:=e
 cases l<;>cases sy<;>simp only [EvOk]at h<;>try exact h.elim
 ·rename_i a
  have hb:¬S a.block∧a.block<hi:=by
   rcases h with h|h
   ·exact⟨fun hs=>by have:=hl _ hs;omega,h.2⟩
   ·have:∃x,v a.block=some x:=by
     cases wr
     ·simpa [Option.isSome_iff_exists]using h
     ·simp only [if_true]at h;exact⟨_,h.choose_spec⟩
    obtain⟨x,hx⟩:=this
    exact⟨fun hs=>(by rw [hS _ hs]at hx;cases hx),hv _ _ hx⟩
  exact evL_cell a wr (fun hs=>hb.1 hs) hb.2
 ·rename_i r
  have hb:r<hi:=by
   rcases h with h|h
   ·exact h.2
   ·have:∃x,v r=some x:=by
     cases wr
     ·simpa [Option.isSome_iff_exists]using h
     ·simp only [if_true]at h;exact⟨_,h.choose_spec⟩
    exact hv _ _ this.choose_spec
  refine⟨fun x hx hs=>?_,by simp,by simp,?_⟩
  ·rw [A5f]at hx
   simp only [MemAct.touch?,Option.some.injEq]at hx
   subst hx
   exact hs.elim
  ·rw [A5f];exact hb
 ·rename_i m
  cases m<;>cases wr<;>simp only at h<;>try exact h.elim
  all_goals exact⟨fun x hx=>by simp [MemAct.ofEvent,MemAct.touch?]at hx,by simp,by simp,trivial⟩
theorem evOk_norel{v:View}{lo hi:Nat}{e:Event}(h:EvOk v lo hi e)(A:Addr):MemAct.ofEvent e≠.mark (.release A):=by
 obtain⟨l,wr,sy⟩:=e
 intro he
 cases l with
 | mark m=>simp only [MemAct.ofEvent,MemAct.mark.injEq]at he;subst he;cases wr<;>cases sy<;>exact h.elim
 | obj r=>
  cases sy
  ·rw [A5f]at he;cases he
  ·exact h.elim
 | cell a=>
  cases sy
  ·have:MemAct.ofEvent ⟨.cell a,wr,false⟩ = .access ⟨.cell a,wr,false⟩:=rfl
   rw [this]at he;cases he
  ·exact h.elim
 | output=>exact h.elim
 | goroutines=>exact h.elim
theorem norel_ok{v:View}{lo hi g:Nat}{fn:FuncId}{pos:String}{es:Array Event}(h:∀e∈es,EvOk v lo hi e):NoRel (MemOp.ofEvents g fn pos es):=fun op hop A=>by
 obtain⟨e,he,rfl⟩:=Go.Conc.mem_ofEvents hop
 exact evOk_norel (h e he) A
theorem norel_mute{g:Nat}{fn:FuncId}{pos:String}{es:Array Event}(h:∀e∈es,e.mute=true):NoRel (MemOp.ofEvents g fn pos es):=fun op hop A=>by
 obtain⟨e,he,rfl⟩:=Go.Conc.mem_ofEvents hop
 have:=h e he
 obtain⟨l,wr,sy⟩:=e
 intro hx
 cases l with
 | mark m=>simp only [MemAct.ofEvent,MemAct.mark.injEq]at hx;subst hx;simp [Event.mute]at this
 | _=>simp [Event.mute]at this
theorem A3o{t:Trace}{g:Nat}{fn:FuncId}{pos:String}{es:Array Event}{v:View}{lo hi:Nat}(h:∀e∈es,EvOk v lo hi e)(g':Nat):Deaf (t++MemOp.ofEvents g fn pos es) g'=Deaf t g':=by
 by_cases hg:g=g'
 ·subst hg
  rw [Deaf_own]
  refine deafBehind_still (fun e he=>?_) _
  have:=h e he
  obtain⟨l,wr,sy⟩:=e
  refine⟨fun hl=>?_,fun hl=>?_⟩<;>(cases l<;>cases hl;cases sy<;>cases wr<;>simp [EvOk,Free]at this)
 ·exact Deaf_other t hg _ opsG
section
variable{P:Program}{v:View}{g:Goroutine}{gs:Array Goroutine}{w w':World}{t:Trace}{q:Nat→Nat}{S:Nat→Prop}
theorem BesideG.at(h:BesideG P v g gs w t q S)(d:Nat):BesideG P v g gs (w.at d) t q S:=⟨h.zero,h.leave,h.past,h.agree,h.apart,h.low,h.calm,h.norel⟩
theorem awake_all(h:BesideG P v g gs w t q S)(hs:g.status = .running):∀x∈gs,awake x:=by
 intro x hx
 obtain⟨i,hi,rfl⟩:=Array.mem_iff_getElem.1 hx
 rcases Nat.eq_zero_or_pos i with rfl|hpos
 ·have:gs[0]=g:=by simpa [Array.getElem?_eq_getElem hi]using h.zero
  rw [this];exact awake_of (.inl hs)
 ·exact awake_of ((h.leave.old i _ hpos (Array.getElem?_eq_getElem hi)).status.elim .inl fun x=>.inr (.inr x))
theorem BesideG.slip(h:BesideG P v g gs w t q S)(hs:g.status = .running){i:Nat}{x:Goroutine}(hi:gs[i]?=some x)(hpos:0<i)(hx:x.status = .running)(sl:Option (Nat×Nat)) :
    ∃gs' q' t',runT P (crowd gs w sl) i=(.next (crowd gs' w sl),t')∧BesideG P v g gs' w (t++t') q' S∧gs'.size=gs.size∧sumTo gs'.size q'<sumTo gs.size q:=by
  have hq:=h.leave.old i x hpos hi
  have hi0:(i==0)=false:=by simp;omega
  have hlt:i<gs.size:=(Array.getElem?_eq_some_iff.1 hi).1
  cases hqi:q i with
  | zero=>rw [hqi]at hq;rw [hq.1]at hx;cases hx
  | succ k=>
    rw [hqi]at hq
    rcases hq with ⟨hf,_⟩|⟨_,g',es,hm,hstp,hq'⟩
    · rw [hf]at hx;cases hx
    have hrunT:=runT_crowd_go (P:=P) (sl:=sl) (i:=i) hi (by rw [hi0];exact hstp w)
    have hsz:((gs.map (woken P x g' w)).setIfInBounds i g').size=gs.size:=by simp
    have hsum:sumTo gs.size (upd q i k)+(k+1)=sumTo gs.size q+k:=by
      have:=sumTo_upd q k id hlt
      simpa [hqi]using this
    refine⟨_,upd q i k,_,hrunT,⟨?_,⟨fun j y hj hy=>?_,fun j hj=>?_⟩,h.past.mute oM hm,h.agree,h.apart,h.low,h.calm,h.norel.app (norel_mute hm)⟩,hsz,by rw [hsz];omega⟩
    · have hne:i≠0:=oM
      rw [Array.getElem?_setIfInBounds_ne hne,Array.getElem?_map,h.zero]
      simp [woken_run hs]
    · by_cases hji:i=j
      · subst hji
        rw [Array.getElem?_setIfInBounds_self_of_lt (by simpa using hlt)]at hy
        obtain rfl:=Option.some.inj hy
        rw [upd_same,Deaf_own]
        exact hq'
      · rw [Array.getElem?_setIfInBounds_ne hji,Array.getElem?_map]at hy
        obtain⟨z,hz,rfl⟩:=Option.map_eq_some_iff.1 hy
        have hqj:=h.leave.old j z hj hz
        rw [woken_quitsD hqj,upd_ne q k (Ne.symm hji),Deaf_other t hji _ opsG]
        exact hqj
    · rw [Deaf_other t (g':=i) (by simp at hj;omega) _ opsG]
      exact h.leave.above j (by simpa using hj)
theorem BesideG.own0(h:BesideG P v g gs w t q S){g':Goroutine}{es:Array Event}{v':View}(hstep:stepG P true g w = .go g' w' es)(hok:StepOk v w v' w' es)(sl:Option (Nat×Nat)) :
  ∃gs' t',runT P (crowd gs w sl) 0=(.next (crowd gs' w' sl),t')∧BesideG P v' g' gs' w' (t++t') q S∧gs'.size=gs.size:=by
 have hrunT:=runT_crowd_go (P:=P) (sl:=sl) (i:=0) h.zero (show stepG P (0==0) g w=_ from hstep)
 have hlt:0<gs.size:=(Array.getElem?_eq_some_iff.1 h.zero).1
 have hl:∀b x,v b=some x→b<w'.heap.size:=fun b x e=>Nat.lt_of_lt_of_le (h.agree.lt e) hok.size
 refine⟨_,_,hrunT,⟨by simp [hlt],⟨fun j y hj hy=>?_,fun j hj=>?_⟩,?_,hok.agree,fun b hb=>?_,fun b hb=>Nat.lt_of_lt_of_le (h.low b hb) hok.size,by rw [hok.tape];exact h.calm,h.norel.app (norel_ok hok.ev)⟩,by simp⟩
 ·have hne:0≠j:=oM
  rw [Array.getElem?_setIfInBounds_ne hne,Array.getElem?_map]at hy
  obtain⟨z,hz,rfl⟩:=Option.map_eq_some_iff.1 hy
  have hq:=h.leave.old j z hj hz
  rw [woken_quitsD hq,Deaf_other t oM _ opsG]
  exact hq
 ·rw [Deaf_other t (g':=0) (by simp at hj;omega) _ opsG]
  exact h.leave.above j (by simpa using hj)
 ·exact(h.past.mono hok.size).own fun e he=>evL_of h.apart h.low hl (hok.ev e he)
 ·cases hv:v' b with
  | none=>rfl
  | some x=>
   rcases hok.dom b (by rw [hv];simp)with e|e
   ·exact absurd (h.apart b hb) e
   ·exact absurd (h.low b hb) oM
end
theorem run_big{P:Program}{mn:Who}{Stop:View→Goroutine→Prop}(hm:mn.main=true){v:View}{g:Goroutine}(h:Run P mn Stop v g):BigStep P v g Stop:=by
 induction h with
 | @stop u v g hl h=>exact fun gs w sl t q S hB=>⟨0,gs,w,sl,t,q,S,u,g,rfl,hB.le hl,(PStep.refl hB.agree).less hl,fun _ h=>.inl h,h⟩
 | @step v g hs ng nw ne nv h r ih=>
  intro gs w sl t q S hB
  generalize hM:sumTo gs.size q=M
  induction M using Nat.strongRecOn generalizing gs w sl t q with
  | _ M ihM=>
   obtain⟨i,x,d,sl',hi,hx,hst⟩:=crowd_pick (P:=P) (w:=w) (sl:=sl) (awake_all hB hs) ⟨0,g,hB.zero,hs⟩
   rcases Nat.eq_zero_or_pos i with rfl|hpos
   ·obtain rfl:x=g:=by rw [hB.zero]at hi;exact(Option.some.inj hi).symm
    have hBd:=hB.at d
    obtain⟨h1,h2⟩:=h (w.at d) hBd.agree
    rw [hm]at h1
    obtain⟨gs',t',h3,h4,h5⟩:=hBd.own0 h1 h2 sl'
    obtain⟨N,gs2,w2,sl2,t2,q2,S2,v2,g2,k1,k2,k3,k4,k5⟩:=ih (w.at d) hBd.agree gs' _ sl' _ q S h4
    exact⟨1+N,gs2,w2,sl2,t2,q2,S2,v2,g2,A8k (B1o (hst.trans h3)) k1,k2,(h2.pstep.trans k3).of_at,fun b hb=>(k4 b hb).imp id fun e=>e.elim (fun o=>h2.own b o) fun e=>.inr (Nat.le_trans h2.size e),k5⟩
   ·obtain⟨gs',q',t',h3,h4,h5,h6⟩:=(hB.at d).slip hs hi hpos hx sl'
    obtain⟨N,gs2,w2,sl2,t2,q2,S2,v2,g2,k1,k2,k3,k4,k5⟩:=ihM _ oM gs' (w.at d) sl' _ q' h4 rfl
    exact⟨1+N,gs2,w2,sl2,t2,q2,S2,v2,g2,A8k (B1o (hst.trans h3)) k1,k2,PStep.of_at k3,k4,k5⟩
 | phase hp hm' K h r ih=>
  intro gs w sl t q S hB
  obtain⟨N,gs',w',sl',t',q',S',v',g',h1,h2,h3,h4,h5⟩:=h gs w sl t q S hB
  obtain⟨N2,gs2,w2,sl2,t2,q2,S2,v2,g2,k1,k2,k3,k4,k5⟩:=ih v' g' h5 gs' w' sl' t' q' S' h2
  exact⟨N+N2,gs2,w2,sl2,t2,q2,S2,v2,g2,A8k h1 k1,k2,h3.trans k3,fun b hb=>(k4 b hb).elim (h4 b) fun e=>.inr (e.elim (fun o=>h3.own b o) fun e=>.inr (Nat.le_trans h3.size e)),k5⟩
end Go.Pal
end
