/- 'palfreylaw12.TollNumbered' returns true for every list of numbers, whatever the goroutines of its calls do, and the list reads as it did, as its row says it. No condition. -/
import Derived.Conc.Holds
import Derived.Conc.LeavingOf
import Derived.Handed
import Derived.JoinedOf
import Derived.OpenShut
import Derived.ProofKit
import Derived.WalkKit
import Derived.Test.YtclejblcnfaeaaaGreatPbr
import Derived.Test.YtclejblcnfaeaaaGreatPbs
set_option linter.all false
section
namespace Go.Proofs.YtclejblcnfaeaaaGreat
open Go Go.Pal Go.Proofs.Tryz
theorem bod17:A0i Tryz.prog 17:=⟨_,_,func17,Y,by decide⟩
theorem bod18:A0i Tryz.prog 18:=⟨_,_,func18,Y,by decide⟩
theorem bod19:A0i Tryz.prog 19:=⟨_,_,func19,Y,by decide⟩
theorem bod21:A0i Tryz.prog 21:=⟨_,_,func21,Y,by decide⟩
theorem bod33:A0i Tryz.prog 33:=⟨_,_,func33,Y,by decide⟩
theorem bod44:A0i Tryz.prog 44:=⟨_,_,func44,Y,by decide⟩
theorem bod58:A0i Tryz.prog 58:=⟨_,_,func58,Y,by decide⟩
theorem bod62:A0i Tryz.prog 62:=⟨_,_,func62,Y,by decide⟩
theorem bod65:A0i Tryz.prog 65:=⟨_,_,func65,Y,by decide⟩
theorem bod66:A0i Tryz.prog 66:=⟨_,_,func66,Y,by decide⟩
end Go.Proofs.YtclejblcnfaeaaaGreat
end
section
namespace Go.Pal
open Go Go.Conc View
section
variable{P:Program}{mn:Who}{ops:Array Oper}{J:Nat}
def setN:Nat→Nat→Array Bool→Array Bool
 | 0,_,listed=>listed
 | n+1,k,listed=>setN n (k+1) (listed.setIfInBounds k true)
end
end Go.Pal
end
section
namespace Go.Proofs.YtclejblcnfaeaaaGreat
open Go Go.Pal Go.Pal.To Go.Conc View
open Go.Proofs.Tryz
set_option maxHeartbeats 4000000
set_option maxRecDepth 20000
theorem ext_at{c:Array Value}{o n j:Nat}{l:List Value}(h:c.extract o (o+n)=l.toArray)(hs:o+n≤c.size)(hj:j<n):c[o+j]?=l[j]?:=by
 have:=congrArg (fun z:Array Value=>z[j]?) h
 simp only [Array.getElem?_extract,List.getElem?_toArray]at this
 rw [←this,if_pos oM]
end Go.Proofs.YtclejblcnfaeaaaGreat
end
section
namespace Go.Pal.To
open Go
theorem B4j{α:Type}[DecidableEq α]:∀{l m:List α},l.Nodup→(∀x∈l,x∈m)→l.length≤m.length
 | [],_,_,_=>Nat.zero_le _
 | x::l,m,hn,h=>by
  have hx:=h x sM
  rw [List.nodup_cons]at hn
  have:=B4j (l:=l) (m:=m.erase x) hn.2 fun y hy=>(List.mem_erase_of_ne (show y≠x from fun e=>hn.1 (by rw [←e];exact hy))).2 (h y (by simp [hy]))
  rw [List.length_erase_of_mem hx]at this
  have:=List.length_pos_of_mem hx
  simp only [List.length_cons];omega
theorem B4k{α β:Type}{f:α→β}:∀{l:List α},l.Nodup→(∀x∈l,∀y∈l,f x=f y→x=y)→(l.map f).Nodup
 | [],_,_=>by simp
 | x::l,hn,h=>by
  rw [List.nodup_cons]at hn
  rw [List.map_cons,List.nodup_cons]
  refine⟨fun hm=>?_,B4k hn.2 fun y hy z hz=>h y (by simp [hy]) z (by simp [hz])⟩
  obtain⟨y,hy,e⟩:=List.mem_map.1 hm
  have:=h y (by simp [hy]) x sM e
  subst this
  exact hn.1 hy
theorem len_inj{α β:Type}[DecidableEq β]{f:α→β}{l:List α}{m:List β}(hn:l.Nodup)(hf:∀x∈l,∀y∈l,f x=f y→x=y)(h:∀x∈l,f x∈m):l.length≤m.length:=by
 have:=B4j (B4k hn hf) (m:=m) fun y hy=>by
  obtain⟨x,hx,rfl⟩:=List.mem_map.1 hy
  exact h x hx
 rwa [List.length_map]at this
def rn(f:Int→Int)(x:MA):MA:=if x.k=1 then x else⟨x.k,f x.a,f x.b,x.h⟩
theorem rn_k(f:Int→Int)(x:MA):(rn f x).k=x.k:=by unfold rn;split<;>rfl
theorem rn_h(f:Int→Int)(x:MA):(rn f x).h=x.h:=by unfold rn;split<;>rfl
structure Inj(P:Int)(f:Int→Int):Prop where
 to:∀x,0≤x→x<P→0≤f x∧f x<P
 inj:∀x y,0≤x→x<P→0≤y→y<P→f x=f y→x=y
def ren(f:Int→Int)(w:Wy):Wy:=⟨w.marks,w.book.map (rn f),w.dusk.map f⟩
section
variable{P:Int}{f:Int→Int}
theorem rn_inj{N:Int}(hf:Inj P f){x y:MA}(hx:Ok P N x)(hy:Ok P N y)(h:rn f x=rn f y):x=y:=by
 have hk:x.k=y.k:=by rw [←rn_k f x,h,rn_k]
 obtain⟨xk,xa,xb,xh⟩:=x
 obtain⟨yk,ya,yb,yh⟩:=y
 simp only at hk
 subst hk
 unfold rn at h
 by_cases h1:xk=1
 ·simpa [h1]using h
 ·simp only [if_neg h1,MA.mk.injEq,true_and]at h
  have hx':=hx.ab h1
  have hy':=hy.ab h1
  simp only at hx' hy'
  rw [hf.inj xa ya hx'.1.1 hx'.1.2 hy'.1.1 hy'.1.2 h.1,hf.inj xb yb hx'.2.1 hx'.2.2 hy'.2.1 hy'.2.2 h.2.1,h.2.2]
theorem rn_ok{N:Int}(hf:Inj P f){x:MA}(hx:Ok P N x):Ok P N (rn f x):=by
 refine⟨by rw [rn_k];exact hx.k,by rw [rn_h];exact hx.h,fun h=>?_,fun h=>?_,fun h=>?_⟩
 ·rw [rn_k]at h
  unfold rn;rw [if_pos h];exact hx.asks h
 ·rw [rn_k]at h
  have:=hx.ab h
  unfold rn;rw [if_neg h]
  exact⟨hf.to _ this.1.1 this.1.2,hf.to _ this.2.1 this.2.2⟩
 ·rw [rn_k]at h
  have h1:x.k≠1:=oM
  have h2:=hx.ab h1
  have h3:=hx.ne h
  unfold rn;rw [if_neg h1]
  exact fun e=>h3 (hf.inj _ _ h2.1.1 h2.1.2 h2.2.1 h2.2.2 e)
theorem sold_ren{N:Int}(hf:Inj P f){os:List Int}(ho:∀o∈os,0≤o∧o<P){x:MA}(hx:Ok P N x):((os.map f)[(rn f x).h.toNat]? == some (rn f x).a)=(os[x.h.toNat]? == some x.a)∨x.k≠0:=by
 by_cases hk:x.k=0
 ·left
  have h1:x.k≠1:=oM
  have ha:(rn f x).a=f x.a:=by unfold rn;rw [if_neg h1]
  rw [rn_h,ha,List.getElem?_map]
  cases h:os[x.h.toNat]? with
  | none=>rfl
  | some o=>
   have h2:=ho o (List.mem_of_getElem? h)
   have h3:=(hx.ab h1).1
   by_cases e:o=x.a
   ·subst e;simp
   ·have:¬f o=f x.a:=fun e2=>e (hf.inj _ _ h2.1 h2.2 h3.1 h3.2 e2)
    have e1:(o==x.a)=false:=beq_eq_false_iff_ne.2 e
    have e2:(f o==f x.a)=false:=beq_eq_false_iff_ne.2 this
    simp [e1,e2]
 ·exact .inr hk
theorem refd_ren{N:Int}(hf:Inj P f){os:List Int}(ho:∀o∈os,0≤o∧o<P){x:MA}(hx:Ok P N x):refd (os.map f) (rn f x)=refd os x:=by
 unfold refd
 rw [rn_k]
 rcases sold_ren hf ho hx with h|h
 ·rw [h]
 ·rw [show(x.k==0)=false from beq_eq_false_iff_ne.2 h];rfl
theorem doN_ren{N:Int}(hf:Inj P f){os:List Int}(ho:∀o∈os,0≤o∧o<P){x:MA}(hx:Ok P N x):doN (os.map f) (rn f x)=(doN os x).map f:=by
 unfold doN
 have hs:sold (os.map f) (rn f x)=sold os x:=by
  unfold sold
  rw [rn_k]
  rcases sold_ren hf ho hx with h|h
  ·rw [h]
  ·rw [show(x.k==0)=false from beq_eq_false_iff_ne.2 h];rfl
 rw [hs]
 split
 ·rename_i h
  have hk:x.k=0:=by simp only [sold,Bool.and_eq_true,beq_iff_eq]at h;exact h.1
  have hb:(rn f x).b=f x.b:=by unfold rn;rw [if_neg oM]
  rw [rn_h,hb,List.map_set]
 ·rfl
theorem stepM_ren{N:Int}(hf:Inj P f){a b:List MA}(ha:∀x∈a,Ok P N x)(hb:∀x∈b,Ok P N x)(m:Nat) :
  A3c (a.map (rn f)) (b.map (rn f)) m=(A3c a b m).map fun t=>(rn f t.1,t.2.1.map (rn f),t.2.2.map (rn f)):=by
 rcases m with _|_|m
 ·cases a with
  | nil=>rfl
  | cons x a=>
   cases b with
   | nil=>rfl
   | cons y b=>
    simp only [List.map_cons,A3c]
    by_cases e:x=y
    ·subst e;simp
    ·have:¬rn f x=rn f y:=fun e2=>e (rn_inj hf (ha x sM) (hb y sM) e2)
     simp [e,this]
 ·cases a<;>rfl
 ·cases b<;>rfl
theorem stepM_sub{a b a' b':List MA}{m:Nat}{x:MA}(h:A3c a b m=some (x,a',b')):(x∈a∨x∈b)∧(∀y∈a',y∈a)∧∀y∈b',y∈b:=by
 rcases m with _|_|m
 ·rcases A8l dM h with ⟨_,rfl,rfl⟩|⟨h1,_⟩|⟨h1,_⟩
  ·exact⟨.inl sM,fun y hy=>by simp [hy],fun y hy=>by simp [hy]⟩
  ·cases h1
  ·cases h1
 ·cases a with
  | nil=>cases h
  | cons z a=>cases h;exact⟨.inl sM,fun y hy=>by simp [hy],fun y hy=>hy⟩
 ·cases b with
  | nil=>cases h
  | cons z b=>cases h;exact⟨.inr sM,fun y hy=>hy,fun y hy=>by simp [hy]⟩
theorem waysN_ren{N:Int}(hf:Inj P f):∀(n:Nat) {a b:List MA} {w:Wy},(∀x∈a,Ok P N x)→(∀x∈b,Ok P N x)→(∀o∈w.dusk,0≤o∧o<P)→
  B2d n (a.map (rn f)) (b.map (rn f)) (ren f w)=(B2d n a b w).map (ren f)
 | 0,_,_,_,_,_,_=>rfl
 | n+1,a,b,w,ha,hb,ho=>by
  have hM:∀m,A2n (B2d n) (a.map (rn f)) (b.map (rn f)) (ren f w) m=(A2n (B2d n) a b w m).map (ren f):=fun m=>by
   unfold A2n
   rw [stepM_ren hf ha hb]
   cases hs:A3c a b m with
   | none=>rfl
   | some t=>
    obtain⟨x,a',b'⟩:=t
    obtain⟨h1,h2,h3⟩:=stepM_sub hs
    have hx:Ok P N x:=by
     rcases h1 with h|h
     ·exact ha x h
     ·exact hb x h
    simp only [Option.map_some]
    have hr:refd (ren f w).dusk (rn f x)=refd w.dusk x:=refd_ren hf ho hx
    rw [hr]
    split
    ·rfl
    ·have hadd:(ren f w).add m (rn f x)=ren f (w.add m x):=by
      simp only [ren,Wy.add,List.map_append,List.map_cons,List.map_nil,Wy.mk.injEq,true_and]
      exact doN_ren hf ho hx
     rw [hadd]
     exact waysN_ren hf n (fun y hy=>ha y (h2 y hy)) (fun y hy=>hb y (h3 y hy)) (doN_in ho hx)
  show(if a.map (rn f)=[]∧b.map (rn f)=[]then [ren f w]else _)=_
  rw [hM,hM,hM]
  show _=(if a=[]∧b=[]then [w]else _).map (ren f)
  by_cases e:a=[]∧b=[]
  ·rw [if_pos e,if_pos (by simpa using e)];rfl
  ·rw [if_neg e,if_neg (by simpa using e),List.map_append,List.map_append]
theorem ways_ren{N:Int}(hf:Inj P f){a b:List MA}{d:List Int}(ha:∀x∈a,Ok P N x)(hb:∀x∈b,Ok P N x)(ho:∀o∈d,0≤o∧o<P) :
  ways (a.map (rn f)) (b.map (rn f)) ⟨[],[],d.map f⟩=(ways a b ⟨[],[],d⟩).map (ren f):=by
 unfold ways
 rw [List.length_map,List.length_map]
 exact waysN_ren hf _ (w:=⟨[],[],d⟩) ha hb ho
theorem fewest_ren(l:List Wy):A1s (l.map (ren f))=((A1s l).1,(A1s l).2.map (ren f)):=by
 suffices h:∀(l:List Wy) (s:Nat×List Wy),(l.map (ren f)).foldl addF (s.1,s.2.map (ren f))=((l.foldl addF s).1,(l.foldl addF s).2.map (ren f)) by
  exact h l (0,[])
 intro l
 induction l with
 | nil=>intro s;rfl
 | cons w l ih=>
  intro s
  rw [List.map_cons,List.foldl_cons,List.foldl_cons]
  have:addF (s.1,s.2.map (ren f)) (ren f w)=((addF s w).1,(addF s w).2.map (ren f)):=by
   unfold addF
   have hl:lenW (ren f w)=lenW w:=rfl
   rw [hl]
   by_cases h1:s.2=[]∨lenW w<s.1
   ·rw [if_pos h1,if_pos (by simpa using h1)];rfl
   ·rw [if_neg h1,if_neg (by simpa using h1)]
    by_cases h2:lenW w=s.1
    ·rw [if_pos h2,if_pos h2];simp
    ·rw [if_neg h2,if_neg h2]
  rw [this]
  exact ih _
variable{a b:List MA}{d:List Int}
theorem LOk.ren(hf:Inj P f)(h:LOk P d a b):LOk P (d.map f) (a.map (rn f)) (b.map (rn f)):=by
 refine⟨⟨h.m.p,by simpa using h.m.len,fun x hx=>?_⟩,by simpa using h.la,by simpa using h.lb,fun x hx=>?_,fun x hx=>?_⟩
 ·obtain⟨y,hy,rfl⟩:=List.mem_map.1 hx
  have:=h.m.all y hy
  exact hf.to y this.1 this.2
 ·obtain⟨y,hy,rfl⟩:=List.mem_map.1 hx
  rw [List.length_map]
  exact rn_ok hf (h.a y hy)
 ·obtain⟨y,hy,rfl⟩:=List.mem_map.1 hx
  rw [List.length_map]
  exact rn_ok hf (h.b y hy)
theorem B4f(hf:Inj P f)(h:LOk P d a b):A1q (a.map (rn f)) (b.map (rn f)) (d.map f)=(A1q a b d).map (ren f)∧bestN (a.map (rn f)) (b.map (rn f)) (d.map f)=bestN a b d:=by
 unfold A1q bestN
 rw [ways_ren hf h.a h.b h.m.all,fewest_ren]
 exact⟨Y,Y⟩
theorem count_ren(hf:Inj P f)(h:LOk P d a b):B2z P (d.map f) (a.map (rn f)) (b.map (rn f))=B2z P d a b:=by
 rw [countR_ok h,countR_ok (h.ren hf),(B4f hf h).1,(B4f hf h).2]
 by_cases e:A1q a b d=[]
 ·rw [if_pos e,if_pos (by simpa using e)]
 ·rw [if_neg e,if_neg (by simpa using e),List.length_map]
theorem B4g:∀{l:List MA} {i:Nat} {out:List Int},A2i i (l.map (rn f)) out=(A2i i l out).map (rn f)
 | [],_,_=>rfl
 | x::l,i,out=>by
  rw [List.map_cons]
  unfold A2i
  rw [B4g (l:=l) (i:=i+1)]
  split<;>rfl
theorem right_ren(hf:Inj P f)(h:LOk P d a b){s:Nat}:A7a (d.map f) (a.map (rn f)) (b.map (rn f)) s↔A7a d a b s:=by
 unfold A7a B1b A2x
 rw [List.length_map,List.length_map,B4g,B4g,ways_ren hf (fun x hx=>h.a x (A5p hx)) (fun x hx=>h.b x (A5p hx)) h.m.all]
 simp
theorem struck_one{P':Int}{a' b':List MA}{d':List Int}(hL:LOk P d a b)(hL':LOk P' d' a' b')(h1:a'.length=a.length)(h2:b'.length=b.length)(h3:∀s,A7a d' a' b' s↔A7a d a b s){r r':Int×List Int×List Int}(h:A4y P d a b r)(h':A4y P' d' a' b' r'):r'=r:=by
 unfold A4y at h h'
 rw [if_neg (by simpa using layE_ok.2 hL)]at h
 rw [if_neg (by simpa using layE_ok.2 hL'),h1,h2]at h'
 obtain⟨s,hs,rfl,hr,hmin⟩:=h
 obtain⟨s',hs',rfl,hr',hmin'⟩:=h'
 have k1:=hmin s' hs' ((h3 s').1 hr')
 have k2:=hmin' s hs ((h3 s).2 hr)
 have:cntN s=cntN s'∧pL s a.length (a.length+b.length)=pL s' a.length (a.length+b.length)∧qL s a.length (a.length+b.length)=qL s' a.length (a.length+b.length):=Classical.byContradiction fun e=>by
  rcases keyLt_total e with k|k
  ·exact k2 k
  ·exact k1 k
 rw [this.2.1,this.2.2]
theorem struck_ren(hf:Inj P f)(hL:LOk P d a b){r r':Int×List Int×List Int}(h:A4y P d a b r)(h':A4y P (d.map f) (a.map (rn f)) (b.map (rn f)) r'):r'=r:=
 struck_one hL (hL.ren hf) sM sM (fun _=>right_ren hf hL) h h'
theorem ow_ren{u:Wy}{h:Nat}(hh:h<u.dusk.length):ow (ren f u).dusk h=f (ow u.dusk h):=by
 rw [ow_get hh,ow_get (show h<(ren f u).dusk.length by simpa [ren]using hh)]
 simp [ren]
theorem owners_ren(hf:Inj P f)(hL:LOk P d a b){h:Nat}(hh:h<d.length){r r':List Int×Int}(hr:A9s P d a b h r)(hr':A9s P (d.map f) (a.map (rn f)) (b.map (rn f)) h r') :
  r'.2=r.2∧r.2=(B2z P d a b).2.2∧r'.1.length=r.1.length∧∀x∈r.1,0≤x∧x<P∧f x∈r'.1:=by
 obtain⟨l,e⟩:=r
 obtain⟨l',e'⟩:=r'
 have hb:=(B4f hf hL).1
 have hh':h<(d.map f).length:=by simpa using hh
 rw [countR_ok hL]
 rcases owners_ok hL hh hr with ⟨h1,h2⟩|⟨h1,h2,h3,h4⟩
 ·rw [if_pos h1]
  rcases owners_ok (hL.ren hf) hh' hr' with ⟨k1,k2⟩|⟨k1,_⟩
  ·cases h2;cases k2
   exact⟨Y,Y,Y,by simp⟩
  ·exact absurd (by rw [hb,h1];rfl) k1
 ·rw [if_neg h1]
  rcases owners_ok (hL.ren hf) hh' hr' with ⟨k1,_⟩|⟨_,k2,k3,k4⟩
  ·exact absurd (by rw [hb]at k1;simpa using k1) h1
  ·simp only at h2 h3 h4 k2 k3 k4⊢
   rw [hb]at k4
   have hin:∀x∈l,0≤x∧x<P:=fun x hx=>by
    obtain⟨w,hw,rfl⟩:=(h4 x).1 hx
    exact best_ow hL hw hh
   have hto:∀x∈l,f x∈l':=fun x hx=>by
    obtain⟨w,hw,rfl⟩:=(h4 x).1 hx
    refine(k4 _).2 ⟨ren f w,List.mem_map.2 ⟨w,hw,Y⟩,ow_ren ?_⟩
    rw [(best_w hL hw).len];exact hh
   refine⟨by rw [h2,k2],h2,Nat.le_antisymm ?_ ?_,fun x hx=>⟨(hin x hx).1,(hin x hx).2,hto x hx⟩⟩
   ·have:=B4j (asc_nodup k3) (m:=l.map f) fun y hy=>by
     obtain⟨w,hw,rfl⟩:=(k4 y).1 hy
     obtain⟨u,hu,rfl⟩:=List.mem_map.1 hw
     rw [ow_ren (by rw [(best_w hL hu).len];exact hh)]
     exact List.mem_map.2 ⟨_,(h4 _).2 ⟨u,hu,Y⟩,Y⟩
    rwa [List.length_map]at this
   ·exact len_inj (asc_nodup h3) (fun x hx y hy e=>hf.inj x y (hin x hx).1 (hin x hx).2 (hin y hy).1 (hin y hy).2 e) hto
theorem owners_len(hL:LOk P d a b){h:Nat}(hh:h<d.length){r:List Int×Int}(hr:A9s P d a b h r):r.1.length≤4:=by
 rcases owners_ok hL hh hr with ⟨_,h3⟩|⟨_,_,h4,h5⟩
 ·rw [h3];exact Nat.zero_le _
 ·refine four (asc_nodup h4) fun x hx=>?_
  obtain⟨w,hw,rfl⟩:=(h5 x).1 hx
  have:=best_ow hL hw hh
  have:=hL.m.p
  omega
end
end Go.Pal.To
end
section
namespace Go.Proofs.YtclejblcnfaeaaaGreat
open Go Go.Pal Go.Pal.To Go.Conc View
open Go.Proofs.Tryz
set_option maxHeartbeats 4000000
set_option maxRecDepth 20000
theorem ownInts_i{mn:Who}{v:View}{a:Option Addr}{cap:Nat}{xs:List Int}(hx:RowAt v a (xs.map intV))(hl:xs.length<2^30) :
  CallsB prog mn 51 #[.slice a xs.length cap] (RetB fun r β'=>∃a' cap',r = .slice a' xs.length cap'∧OwnS 3 1 β' a' xs.length cap' (xs.map intV)) [] v:=by
 refine A0d tab func51 Y nB (args:=[_]) ?_
 repeat (first|refine st ?_|refine qb fun bx=>?_)
 refine Q_op fun ho=>A3i tab ho Y Y Y Y Y Y Y Y Y (fun b2 c2 hS=>?_)
 repeat (first|refine st ?_|refine qb fun bx=>?_)
 refine Q_op fun ho=>A2r tab (xs:=xs.map intV) [(b2,c2,3)] [] [] ho Y Y Y Y Y Y Y Y Y Y (fun _=>rfl) hS
  (fun _=>hx.le (A0e _ _)) sM (by simp [List.all_eq_true,A2k]) oM oM (fun seg a' cap' hS'=>?_)
 repeat (first|refine st ?_|refine qb fun bx=>?_)
 refine A0g tab seg (by exact .tmp rfl .nil) (Back.here cntL) ?_
 rw [Nat.zero_add]at hS'
 exact⟨a',cap',by show Value.slice a' (0+xs.length) cap'=_;rw [Nat.zero_add],hS'⟩
theorem own_one{e:TypeId}{k:Nat}{seg:A0f}{a:Option Addr}{len cap:Nat}{cs:List Value}(h:OwnS e k seg a len cap cs)(hn:1≤len):∃b c,a=some ⟨b,0,none⟩∧seg=[(b,c,e)]:=by
 rcases h.two with ⟨_,_,h0,_,_⟩|⟨b,c,h1,h2,_⟩
 ·omega
 ·exact⟨b,c,h2,h1⟩
end Go.Proofs.YtclejblcnfaeaaaGreat
end
section
namespace Go.Pal.To
open Go
structure Ord(n:Nat)(l:List Nat):Prop where
 len:l.length=n
 nd:l.Nodup
 lt:∀x∈l,x<n
theorem set_perm{x:Nat}:∀{l:List Nat} {k:Nat} (hk:k<l.length),((l.set k x)++[l[k]]).Perm (l++[x])
 | [],_,h=>absurd h (Nat.not_lt_zero _)
 | a::l,0,_=>by
  show(x::(l++[a])).Perm (a::(l++[x]))
  exact((List.perm_append_comm (l₁:=l) (l₂:=[a])).cons x).trans ((List.Perm.swap a x l).trans ((List.perm_append_comm (l₁:=[x]) (l₂:=l)).cons a))
 | a::l,k+1,h=>by
  show(a::(l.set k x++[l[k]'(Nat.lt_of_succ_lt_succ h)])).Perm (a::(l++[x]))
  exact(set_perm (Nat.lt_of_succ_lt_succ h)).cons a
def stepO(l:List Nat)(k:Nat):List Nat:=((l++[l.length]).set l.length ((l++[l.length]).getD k 0)).set k l.length
theorem ord_step{n:Nat}{l:List Nat}(h:Ord n l){k:Nat}(hk:k≤n):Ord (n+1) (stepO l k):=by
 have hl:=h.len
 unfold stepO
 rw [List.set_append_right _ _ (Nat.le_refl _),Nat.sub_self]
 simp only [List.set_cons_zero]
 by_cases e:k=n
 ·subst e
  rw [←hl,List.set_append_right _ _ (Nat.le_refl _),Nat.sub_self]
  simp only [List.set_cons_zero]
  refine⟨by simp [hl],List.nodup_append.2 ⟨h.nd,by simp,fun a ha b hb=>?_⟩,fun x hx=>?_⟩
  ·have:=h.lt a ha
   simp only [List.mem_singleton]at hb
   omega
  ·rcases List.mem_append.1 hx with hx|hx
   ·have:=h.lt x hx;omega
   ·simp only [List.mem_singleton]at hx;omega
 ·have hkl:k<l.length:=oM
  have hg:(l++[l.length]).getD k 0=l[k]:=by rw [List.getD_eq_getElem?_getD,List.getElem?_append_left hkl,List.getElem?_eq_getElem hkl];rfl
  rw [hg,List.set_append_left _ _ hkl]
  have hp:=set_perm (x:=l.length) hkl
  refine⟨by simp [hl],(hp.nodup_iff).2 (List.nodup_append.2 ⟨h.nd,by simp,fun a ha b hb=>?_⟩),fun x hx=>?_⟩
  ·have:=h.lt a ha
   simp only [List.mem_singleton]at hb
   omega
  ·rcases List.mem_append.1 (hp.mem_iff.1 hx)with hx|hx
   ·have:=h.lt x hx;omega
   ·simp only [List.mem_singleton]at hx;omega
def fO(l:List Nat)(x:Int):Int:=(l.getD x.toNat 0:Nat)
theorem B4h{l:List Nat}{i:Nat}(hi:i<l.length):fO l (i:Int)=(l[i]:Nat):=by
 unfold fO
 rw [Int.toNat_natCast,List.getD_eq_getElem?_getD,List.getElem?_eq_getElem hi];rfl
theorem nodup_get:∀{l:List Nat},l.Nodup→∀{i j:Nat} (hi:i<l.length) (hj:j<l.length),l[i]=l[j]→i=j
 | [],_,_,_,hi,_,_=>absurd hi (Nat.not_lt_zero _)
 | x::l,h,0,0,_,_,_=>rfl
 | x::l,h,0,j+1,_,hj,e=>by
  rw [List.nodup_cons]at h
  have hj':j<l.length:=by simpa using hj
  exact absurd (show x∈l by rw [show x=l[j]from e];exact List.getElem_mem hj') h.1
 | x::l,h,i+1,0,hi,_,e=>by
  rw [List.nodup_cons]at h
  have hi':i<l.length:=by simpa using hi
  exact absurd (show x∈l by rw [show x=l[i]from e.symm];exact List.getElem_mem hi') h.1
 | x::l,h,i+1,j+1,hi,hj,e=>by
  rw [List.nodup_cons]at h
  have hi':i<l.length:=by simpa using hi
  have hj':j<l.length:=by simpa using hj
  rw [nodup_get h.2 hi' hj' e]
theorem ord_inj{n:Nat}{l:List Nat}(h:Ord n l):Inj n (fO l):=by
 have hl:=h.len
 refine⟨fun x h0 h1=>?_,fun x y hx0 hx1 hy0 hy1 e=>?_⟩
 ·obtain⟨i,rfl⟩:=Int.eq_ofNat_of_zero_le h0
  have hi:i<l.length:=oM
  rw [B4h hi]
  have:=h.lt _ (List.getElem_mem hi)
  omega
 ·obtain⟨i,rfl⟩:=Int.eq_ofNat_of_zero_le hx0
  obtain⟨j,rfl⟩:=Int.eq_ofNat_of_zero_le hy0
  have hi:i<l.length:=oM
  have hj:j<l.length:=oM
  rw [B4h hi,B4h hj]at e
  rw [nodup_get h.nd hi hj oM]
end Go.Pal.To
end
section
namespace Go.Proofs.YtclejblcnfaeaaaGreat
open Go Go.Pal Go.Pal.To Go.Conc View
open Go.Proofs.Tryz
set_option maxHeartbeats 4000000
set_option maxRecDepth 20000
structure OrS where
 i:Nat
 a:Option Addr
 cap:Nat
 l:List Nat
 β1:A0f
 β2:A0f
 m:Nat
section
variable{mn:Who}{v:View}
theorem own_box{e:TypeId}{k:Nat}{seg:A0f}{a:Option Addr}{len cap:Nat}{xs:List Value}(h:OwnS e k seg a len cap xs)(hl:0<len):∃b c,seg=[(b,c,e)]∧a=some ⟨b,0,none⟩∧len≤cap∧c.size=cap*k∧∀(i:Nat) (x:Value),xs[i]?=some x→c[i]?=some x:=by
 cases h with
 | nil=>cases hl
 | @box b c _ _ _ h1 h2 h3 h4=>exact⟨b,c,rfl,rfl,h2,h3,h4⟩
theorem setN{b n cap:Nat}{c:Array Value}{xs:List Value}(h:OwnS 3 1 [(b,c,3)] (some ⟨b,0,none⟩) n cap xs){i:Nat}(hi:i<n)(x:Nat) :
  Nat.ble (0+i*1+1) c.size=true∧OwnS 3 1 [(b,A0x c (0+i*1) (natV x).cells.toList,3)] (some ⟨b,0,none⟩) n cap (xs.set i (natV x)):=by
 have:=ownS_set1 (natV x) h hi
 have e:0+i*1=i:=oM
 rw [e]
 exact⟨Nat.ble_eq_true_of_le this.2,this.1⟩
theorem order_z{g:Bg}{at':Nat}{β:A0f}(hr:g.ok v)(hB:g.at at' β)(hat:at'<2^50){n:Nat}(hn:n<2^20) :
  CallsB prog mn 65 #[g.ptr,.int .i64 n] (RetB fun r β'=>∃a cap l β1 β2,r = .slice a n cap∧Ord n l∧β'=β1++β2∧g.at (at'+n) β1∧OwnS 3 1 β2 a n cap (l.map natV)) β v:=by
 refine A0d tab func65 Y nB (args:=[_,_]) ?_
 repeat (first|refine st ?_|refine qb fun bx=>?_)
 refine A1k (α:=OrS) (fun z=>⟨[],[(6,.int .i64 z.i),(5,.slice z.a z.i z.cap),(0,g.ptr),(1,.int .i64 n)],z.β1++z.β2⟩)
  (fun z u=>u=v∧z.i≤n∧Ord z.i z.l∧g.at (at'+z.i) z.β1∧OwnS 3 1 z.β2 z.a z.i z.cap (z.l.map natV)) (fun z=>n-z.i)
  ⟨0,none,0,[],β,[],0⟩ ⟨Y,rg,cntL⟩ (Le.refl _) ⟨Y,Nat.zero_le _,⟨Y,List.nodup_nil,fun x hx=>by cases hx⟩,hB,.nil⟩ ?_
 rintro⟨i,a,cap,l,β1,β2,m⟩ u ⟨rfl,hi,hl,hB1,hS⟩
 dsimp only at hi hl hB1 hS⊢
 repeat (first|refine st ?_|refine qb fun bx=>?_)
 refine A0y Y (fun h=>?_) (fun h=>?_)
 ·have hlt:i<n:=by have:=of_decide_eq_true h;omega
  clear h
  repeat (first|refine st ?_|refine qb fun bx=>?_)
  refine Q_op fun ho=>A0k β1 β2 ho B1o Y Y Y Y Y A1m (A6x (hr.le (A0e _ _)) hB1 oM i oM) (fun x β' hR=>?_)
  clear ho
  obtain⟨⟨k,rfl,hk⟩,hB2⟩:=hR
  repeat (first|refine st ?_|refine qb fun bx=>?_)
  refine Q_op fun ho=>A3i tab ho Y Y Y Y Y Y Y Y Y (fun b4 c4 hL4=>?_)
  clear ho
  refine Q_op fun ho=>A2r tab (xs:=[natV i]) β2 [(b4,c4,3)] β' ho Y Y Y Y Y Y Y Y Y Y cntA hS
   (fun hb=>RowAt.own hb cntL hL4) Y Y (by show(2*(i+1)+768)*8≤2^48;omega) oM (fun seg2 a2 cap2 hS2=>?_)
  clear ho
  obtain⟨b,c,rfl,rfl,hcap,hcs,hcc⟩:=own_box hS2 oM
  have hll:=hl.len
  have hkl:k<(l++[l.length]).length:=by rw [List.length_append];show k<l.length+1;omega
  have e0:l.map natV++[natV i]=(l++[l.length]).map natV:=by rw [List.map_append,hll];rfl
  rw [e0]at hS2 hcc
  have hg:(l++[l.length]).getD k 0=(l++[l.length])[k]:=by rw [List.getD_eq_getElem?_getD,List.getElem?_eq_getElem hkl];rfl
  have hread:=hcc k (natV ((l++[l.length]).getD k 0)) (by rw [List.getElem?_map,List.getElem?_eq_getElem hkl,hg];rfl)
  obtain⟨w1,hS3⟩:=setN hS2 (i:=i) oM ((l++[l.length]).getD k 0)
  obtain⟨w2,hS4⟩:=setN hS3 (i:=k) oM i
  repeat (first|refine st ?_|refine qb fun bx=>?_)
  refine A4j tab k Y Y Y Y Y Y Y oM ?_
  refine Q_loadB tab Y Y Y ib (A0j tab Y Y Y (by rw [Nat.mul_one,Nat.zero_add];exact hread)) ?_
  repeat (first|refine st ?_|refine qb fun bx=>?_)
  refine A4j tab i Y Y Y Y Y Y Y oM ?_
  refine Q_storeA tab (x:=natV ((l++[l.length]).getD k 0)) Y Y Y Y Y Y ib w1 sb ?_
  repeat (first|refine st ?_|refine qb fun bx=>?_)
  refine A4j tab k Y Y Y Y Y Y Y oM ?_
  refine Q_storeA tab (x:=natV i) Y Y Y Y Y Y ib w2 sb ?_
  repeat (first|refine st ?_|refine qb fun bx=>?_)
  refine A0a ⟨⟨i+1,some ⟨b,0,none⟩,cap2,stepO l k,β',[(b,A0x (A0x c (0+i*1) (natV ((l++[l.length]).getD k 0)).cells.toList) (0+k*1) (natV i).cells.toList,3)],0⟩,u,(show n-(i+1)<n-i by omega),⟨Y,rg,cntL⟩,Le.refl _,Y,hlt,ord_step hl hk,hB2,?_⟩
  show OwnS 3 1 _ _ (i+1) cap2 _
  unfold stepO
  rw [List.map_set,List.map_set,hll]
  rw [hll]at hS4
  exact hS4
 ·have hin:i=n:=by have:=of_decide_eq_false h;omega
  subst hin
  clear h
  repeat (first|refine st ?_|refine qb fun bx=>?_)
  refine A0g tab (β1++β2) (by exact .tmp rfl .nil) (Back.here cntL) ?_
  exact⟨a,cap,l,β1,β2,Y,hl,Y,hB1,hS⟩
theorem ownActs_x{a:Option Addr}{cap:Nat}{xs:List MA}(hx:ActsAt v a xs)(hl:xs.length<2^20) :
  CallsB prog mn 33 #[.slice a xs.length cap] (RetB fun r β'=>∃a' cap',r = .slice a' xs.length cap'∧OwnS 26 4 β' a' xs.length cap' (xs.map MA.cells).flatten) [] v:=by
 refine A0d tab func33 Y nB (args:=[_]) ?_
 repeat (first|refine st ?_|refine qb fun bx=>?_)
 refine Q_op fun ho=>A3i tab ho Y Y Y Y Y Y Y Y Y (fun b2 c2 hS=>?_)
 repeat (first|refine st ?_|refine qb fun bx=>?_)
 refine Q_op fun ho=>A2r tab (xs:=(xs.map MA.cells).flatten) [(b2,c2,26)] [] [] ho Y Y Y Y Y Y Y Y Y Y (fun _=>rfl) hS
  (fun _=>RowAt.le hx (A0e _ _)) (by rw [rowsR_len (SZ:=4) (fun _=>rfl)]) (by simp [List.all_eq_true,MA.cells,A2k]) oM oM (fun seg a' cap' hS'=>?_)
 repeat (first|refine st ?_|refine qb fun bx=>?_)
 refine A0g tab seg (by exact .tmp rfl .nil) (Back.here cntL) ?_
 rw [Nat.zero_add]at hS'
 exact⟨a',cap',by show Value.slice a' (0+xs.length) cap'=_;rw [Nat.zero_add],hS'⟩
theorem ownMorn_x{P:Int}{aD:Option Addr}{cD:Nat}{d:List Int}(hd:RowAt v aD (d.map intV))(hl:d.length<2^30) :
  CallsB prog mn 21 #[moV P aD d.length cD] (RetB fun r β'=>∃a c,r=moV P a d.length c∧OwnS 3 1 β' a d.length c (d.map intV)) [] v:=by
 refine A0d tab func21 Y nB (args:=[_]) ?_
 repeat (first|refine st ?_|refine qb fun bx=>?_)
 refine A1d [4,6] [0,1,2,3,4,5,6] A1f Y kR ?_
 repeat (first|refine st ?_|refine qb fun bx=>?_)
 refine S_do kR (A0k [] _ Y bod51 Y Y Y Y Y A6z (ownInts_i (hd.le (A0e _ _)) hl) (fun r1 β1 hR1=>⟨Le.refl _,kp,?_⟩))
 obtain⟨a',c',rfl,hO⟩:=hR1
 repeat (first|refine st ?_|refine qb fun bx=>?_)
 refine A0g tab β1 (by exact .cell rfl ib rfl .nil) (Back.here cntL) ?_
 exact⟨a',c',Y,hO⟩
theorem ownS_cell{e:TypeId}{k b j len cap:Nat}{c:Array Value}{xs:List Value}(x:Value)(h:OwnS e k [(b,c,e)] (some ⟨b,0,none⟩) len cap xs)(hj:j<xs.length):OwnS e k [(b,A0x c j [x],e)] (some ⟨b,0,none⟩) len cap (xs.set j x)∧j+1≤c.size:=by
 cases h with
 | box h1 h2 h3 h4=>
  have hs:j+1≤c.size:=by
   have:len*k≤cap*k:=Nat.mul_le_mul_right _ h2
   omega
  refine⟨.box (by simpa using h1) h2 (by rw [A3e];exact h3) fun i y hi=>?_,hs⟩
  rw [A7t (by simpa using hs)]
  rw [List.getElem?_set]at hi
  by_cases e:j=i
  ·subst e
   rw [if_pos Y,if_pos hj]at hi
   rw [if_pos sM,Nat.sub_self]
   exact hi
  ·rw [if_neg e]at hi
   rw [if_neg (by simp only [List.length_singleton];omega)]
   exact h4 i y hi
theorem cells_set{pre post:List MA}{k a b h a' b':Int}:((((pre++⟨k,a,b,h⟩::post).map MA.cells).flatten.set (0+pre.length*4+1) (intV a')).set (0+pre.length*4+2) (intV b'))=((pre++⟨k,a',b',h⟩::post).map MA.cells).flatten:=by
 have hp:(pre.map MA.cells).flatten.length=pre.length*4:=rowsR_len (SZ:=4) (fun _=>rfl) pre
 simp only [List.map_append,List.map_cons,List.flatten_append,List.flatten_cons]
 rw [List.set_append_right _ _ oM,List.set_append_right _ _ oM]
 congr 1
 rw [show 0+pre.length*4+1-(pre.map MA.cells).flatten.length=1 by omega,show 0+pre.length*4+2-(pre.map MA.cells).flatten.length=2 by omega]
 rfl
end
def curR(f:Int→Int)(l:List MA)(i:Nat):List MA:=(l.take i).map (rn f)++l.drop i
theorem curR_len(f:Int→Int)(l:List MA)(i:Nat):(curR f l i).length=l.length:=by
 unfold curR
 rw [List.length_append,List.length_map,List.length_take,List.length_drop];omega
section
variable{mn:Who}{v:View}
theorem renamed_x{aL aO:Option Addr}{cL cO n:Nat}{N:Int}{l:List MA}{o:List Nat}(hl:ActsAt v aL l)(hll:l.length<2^20)(hor:RowAt v aO (o.map natV))(hO:Ord n o)(hok:∀x∈l,Ok n N x) :
  CallsB prog mn 66 #[.slice aL l.length cL,.slice aO n cO] (RetB fun r β'=>∃a c,r = .slice a l.length c∧OwnS 26 4 β' a l.length c ((l.map (rn (fO o))).map MA.cells).flatten) [] v:=by
 have hol:=hO.len
 refine A0d tab func66 Y nB (args:=[_,_]) ?_
 repeat (first|refine st ?_|refine qb fun bx=>?_)
 refine Q_op fun ho=>A0k [] _ ho bod33 Y Y Y Y Y A6z (ownActs_x (hl.le (A0e _ _)) hll) (fun x β' hR=>?_)
 clear ho
 obtain⟨a',c',rfl,hS⟩:=hR
 repeat (first|refine st ?_|refine qb fun bx=>?_)
 rcases hS.two with ⟨rfl,rfl,h0,rfl,_⟩|⟨b,c,rfl,rfl,hS1⟩
 ·obtain rfl:l=[]:=List.length_eq_zero_iff.1 h0
  refine A1k (α:=Unit) (fun _=>⟨[],[(6,.int .i64 (0:Nat)),(5,.slice none 0 0)],[]⟩) (fun _ u=>u=v) (fun _=>0) () ⟨Y,rg,cntL⟩ (Le.refl _) Y ?_
  rintro _ u rfl
  repeat (first|refine st ?_|refine qb fun bx=>?_)
  refine A0g tab [] (by exact .tmp rfl .nil) (Back.here cntL) ?_
  exact⟨none,0,Y,.nil⟩
 ·refine A1k (α:=Nat×Array Value) (fun z=>⟨[],[(6,.int .i64 z.1),(5,.slice (some ⟨b,0,none⟩) l.length c'),(0,.slice aL l.length cL),(1,.slice aO n cO)],[(b,z.2,26)]⟩)
   (fun z u=>u=v∧z.1≤l.length∧OwnS 26 4 [(b,z.2,26)] (some ⟨b,0,none⟩) l.length c' ((curR (fO o) l z.1).map MA.cells).flatten) (fun z=>l.length-z.1) (0,c) ⟨Y,rg,cntL⟩ (Le.refl _) ⟨Y,Nat.zero_le _,hS1⟩ ?_
  rintro⟨i,c1⟩ u ⟨rfl,hi,hS2⟩
  simp only at hi hS2
  dsimp only
  repeat (first|refine st ?_|refine qb fun bx=>?_)
  refine A0y Y (fun hlt=>?_) (fun hlt=>?_)
  ·simp only [decide_eq_true_eq]at hlt
   have hlt:i<l.length:=oM
   obtain⟨bb,off,p,k,e,f,rfl,hv,hc⟩:=hl.get hlt
   replace hc:=hc i hlt
   have hact:=hok _ (List.getElem_mem hlt)
   have hcur:curR (fO o) l i=(l.take i).map (rn (fO o))++l[i]::l.drop (i+1):=by
    unfold curR;rw [List.drop_eq_getElem_cons hlt]
   have hnx:curR (fO o) l (i+1)=(l.take i).map (rn (fO o))++rn (fO o) l[i]::l.drop (i+1):=by
    unfold curR;rw [List.take_succ_eq_append_getElem hlt,List.map_append,List.append_assoc];rfl
   have hpl:((l.take i).map (rn (fO o))).length=i:=by rw [List.length_map,List.length_take];omega
   generalize l[i]=y at hc hact hcur hnx
   obtain⟨yk,ya,yb,yh⟩:=y
   generalize (l.take i).map (rn (fO o))=pre at hcur hnx hpl
   have hcl:=curR_len (fO o) l i
   have hcr:=curR_len (fO o) l (i+1)
   have hfl:((curR (fO o) l i).map MA.cells).flatten.length=l.length*4:=by rw [rowsR_len (SZ:=4) (fun _=>rfl),hcl]
   rw [hcur]at hS2 hfl
   have hk0:c1[0+i*4+0]?=some (intV yk):=by
    cases hS2 with
    | box _ _ _ h4=>
     refine h4 (0+i*4+0) _ ?_
     simp only [List.map_append,List.map_cons,List.flatten_append,List.flatten_cons]
     have hp:(pre.map MA.cells).flatten.length=i*4:=by rw [rowsR_len (SZ:=4) (fun _=>rfl),hpl]
     rw [List.getElem?_append_right oM,hp,show 0+i*4+0-i*4=0 by omega]
     rfl
   repeat (first|refine st ?_|refine qb fun bx=>?_)
   refine A4j tab i Y Y Y Y Y Y Y hlt ?_
   repeat (first|refine st ?_|refine qb fun bx=>?_)
   refine Q_loadB tab Y Y Y ib (A0j tab Y Y Y hk0) ?_
   repeat (first|refine st ?_|refine qb fun bx=>?_)
   by_cases hk:yk=1
   ·rw [show(yk != 1)=false from by simpa using hk]
    repeat (first|refine st ?_|refine qb fun bx=>?_)
    refine A0a ⟨(i+1,c1),u,by simp only;omega,⟨Y,rg,cntL⟩,Le.refl _,Y,hlt,?_⟩
    simp only
    rw [hnx,show rn (fO o) ⟨yk,ya,yb,yh⟩=⟨yk,ya,yb,yh⟩from by unfold rn;rw [if_pos hk]]
    exact hS2
   ·rw [show(yk != 1)=true from by simpa using hk]
    have hab:=hact.ab hk
    simp only at hab
    obtain⟨xa,rfl⟩:=Int.eq_ofNat_of_zero_le hab.1.1
    obtain⟨xb,rfl⟩:=Int.eq_ofNat_of_zero_le hab.2.1
    have hxa:xa<o.length:=oM
    have hxb:xb<o.length:=oM
    obtain⟨b2,o2,p2,k2,e2,f2,rfl,hv2,hc2⟩:=hor.get hxa
    have hca:=hc2 xa hxa
    have hcb:=hc2 xb hxb
    repeat (first|refine st ?_|refine qb fun bx=>?_)
    refine A1d [22,25] [0,1,2,3,4,5,6,7,8,9,10,11,12,13,14,15,16,17,18,19,20,21,22,23,24,25] A1f Y kR ?_
    have ea:=B4h hxa
    have eb:=B4h hxb
    generalize (o[xa]:Nat)=va at hca ea
    generalize (o[xb]:Nat)=vb at hcb eb
    have hs1:=ownS_cell (j:=0+i*4+1) (natV va) hS2 oM
    have hs2:=ownS_cell (j:=0+i*4+2) (natV vb) hs1.1 (by rw [List.length_set];omega)
    repeat (first|refine st ?_|refine qb fun bx=>?_)
    refine A0q tab i Y Y Y kR Y Y Y Y Y hlt ?_
    repeat (first|refine st ?_|refine qb fun bx=>?_)
    refine A7b tab Y Y Y kR Y hv (A0j tab Y Y Y (show k[off+i*4+1]?=some (intV xa)from ext_at hc.2 hc.1 dM)) ?_
    repeat (first|refine st ?_|refine qb fun bx=>?_)
    refine A0q tab xa Y Y Y kR Y Y Y Y Y oM ?_
    refine A7b tab Y Y Y kR Y hv2 (A0j tab Y Y Y (by rw [Nat.mul_one];exact hca)) ?_
    repeat (first|refine st ?_|refine qb fun bx=>?_)
    refine A0q tab i Y Y Y kR Y Y Y Y Y hlt ?_
    repeat (first|refine st ?_|refine qb fun bx=>?_)
    refine A7b tab Y Y Y kR Y hv (A0j tab Y Y Y (show k[off+i*4+2]?=some (intV xb)from ext_at hc.2 hc.1 dM)) ?_
    repeat (first|refine st ?_|refine qb fun bx=>?_)
    refine A0q tab xb Y Y Y kR Y Y Y Y Y oM ?_
    refine A7b tab Y Y Y kR Y hv2 (A0j tab Y Y Y (by rw [Nat.mul_one];exact hcb)) ?_
    repeat (first|refine st ?_|refine qb fun bx=>?_)
    refine A0q tab i Y Y Y kR Y Y Y Y Y hlt ?_
    repeat (refine ss ?_)
    refine S_do kR (A1a tab (c:=c1) (x:=natV va) Y Y Y Y Y Y Y ib (Nat.ble_eq_true_of_le hs1.2) sb ⟨Le.refl _,kp,?_⟩)
    repeat (first|refine st ?_|refine qb fun bx=>?_)
    refine A0q tab i Y Y Y kR Y Y Y Y Y hlt ?_
    repeat (refine ss ?_)
    refine S_do kR (A1a tab (c:=A0x c1 (0+i*4+1) (natV va).cells.toList) (x:=natV vb) Y Y Y Y Y Y Y ib (Nat.ble_eq_true_of_le hs2.2) sb ⟨Le.refl _,kp,?_⟩)
    repeat (first|refine st ?_|refine qb fun bx=>?_)
    refine A0a ⟨(i+1,A0x (A0x c1 (0+i*4+1) (natV va).cells.toList) (0+i*4+2) (natV vb).cells.toList),u,by simp only;omega,⟨Y,rg,cntL⟩,Le.refl _,Y,hlt,?_⟩
    simp only
    rw [hnx,show rn (fO o) ⟨yk,(xa:Int),(xb:Int),yh⟩=⟨yk,va,vb,yh⟩from by unfold rn;rw [if_neg hk];simp only [ea,eb]]
    have h3:=hs2.1
    rw [←hpl,cells_set,hpl]at h3
    exact h3
  ·obtain rfl:i=l.length:=by simp only [decide_eq_false_iff_not]at hlt;omega
   repeat (first|refine st ?_|refine qb fun bx=>?_)
   refine A0g tab [(b,c1,26)] (by exact .tmp rfl .nil) (Back.here cntL) ?_
   refine⟨some ⟨b,0,none⟩,c',Y,?_⟩
   unfold curR at hS2
   rw [List.take_length,List.drop_length,List.append_nil]at hS2
   exact hS2
end
end Go.Proofs.YtclejblcnfaeaaaGreat
end
section
namespace Go.Proofs.YtclejblcnfaeaaaGreat
open Go Go.Pal Go.Pal.To Go.Conc View
open Go.Proofs.Tryz
open Go.Proofs.YtclejblcnfaeaaaGreat.W (lexL)
set_option maxHeartbeats 4000000
set_option maxRecDepth 20000
theorem numbered_run{v:View}{a0:Option Addr}{cap0:Nat}{ns:List Int}(hns:RowAt v a0 (ns.map (.int .i64))):Run prog ⟨true,true⟩ (AtTop 16 2) v (G (Frame.enter prog 16 (List.toArray [.slice a0 ns.length cap0]) .normal) []):=by
 refine top_run func16 Y nB ?_
 repeat (first|refine st ?_|refine qb fun bx=>?_)
 refine Q_op fun ho=>A0k [] _ ho bod18 Y Y Y Y Y A6z (newBag_x) (fun x β' hR=>?_)
 clear ho
 obtain⟨bg,rfl,hB⟩:=hR
 repeat (first|refine st ?_|refine qb fun bx=>?_)
 refine Q_op fun ho=>A0k β' [] ho bod19 Y Y Y Y Y cntA (mornOf_z (hns.le (A0e _ _)) hB dM) (fun x β' hR=>?_)
 clear ho
 obtain⟨P,d,aD,cD,n1,βb,seg,rfl,rfl,hB1,hn1,hS,hM,hP2⟩:=hR
 obtain⟨pn,rfl⟩:∃n:Nat,P=n:=⟨P.toNat,oM⟩
 refine A8d (β1:=seg) (β2:=βb) cntA (fun hbk=>?_)
 have rD:=RowAt.own hbk (by exact cntL) hS
 replace hns:=hns.le (A0e v (A0c seg))
 clear hbk
 generalize v.union (A0c seg)=v1 at *
 clear hS
 repeat (first|refine st ?_|refine qb fun bx=>?_)
 obtain⟨b4,rfl⟩:∃x:Nat,x=bx:=⟨bx,rfl⟩
 rw [putV_mo]
 refine Q_op fun ho=>A0k βb [(b4,(moV pn aD d.length cD).cells,24)] ho bod44 Y Y Y Y Y cntA (twoOf_z (g:=Bg.mk bg a0 cap0 ns) (N:=4) (RowAt.le hns (A0e _ _)) hB1 oM (rD.le (A0e _ _)) hM hP2 dM) (fun x β' hR=>?_)
 clear ho
 obtain⟨p,q,ap,aq,cp,cq,n2,βb2,sp,sq,rfl,rfl,hB2,hn2,hSp,hSq,hp4,hq4,hpa,hqa⟩:=hR
 refine A8d (β1:=sp++sq) (β2:=(b4,(moV pn aD d.length cD).cells,24)::βb2) cntA (fun hbk=>?_)
 have rP:ActsAt _ ap p:=RowAt.own hbk (by exact cntL) hSp
 have rQ:ActsAt _ aq q:=RowAt.own hbk (by exact cntL) hSq
 replace rD:=rD.le (A0e v1 (A0c (sp++sq)))
 replace hns:=hns.le (A0e v1 (A0c (sp++sq)))
 clear hbk
 generalize v1.union (A0c (sp++sq))=v2 at *
 clear hSp hSq
 have hL:LOk pn d p q:=⟨hM,oM,oM,hpa,hqa⟩
 have hdl:d.length<2^30:=by have:=hM.len;omega
 have hpp:=hM.p
 have hdl3:=hM.len
 repeat (first|refine st ?_|refine qb fun bx=>?_)
 refine Q_op fun ho=>A0k βb2 [(b4,(moV pn aD d.length cD).cells,24)] ho bod65 Y Y Y Y Y cntA (order_z (g:=Bg.mk bg a0 cap0 ns) (RowAt.le hns (A0e _ _)) hB2 oM oM) (fun x β' hR=>?_)
 clear ho
 obtain⟨ao,cao,o,βb3,so,rfl,hO,rfl,hB3,hSo⟩:=hR
 refine A8d (β1:=so) (β2:=(b4,(moV pn aD d.length cD).cells,24)::βb3) cntA (fun hbk=>?_)
 have rO:=RowAt.own hbk (by exact cntL) hSo
 replace rD:=rD.le (A0e v2 (A0c so))
 replace rP:=rP.le (A0e v2 (A0c so))
 replace rQ:=rQ.le (A0e v2 (A0c so))
 clear hbk hns hB2 hB3
 generalize v2.union (A0c so)=v3 at *
 clear hSo
 have hI:=ord_inj hO
 have hL':=hL.ren hI
 generalize hf:fO o=f at hI hL'
 repeat (first|refine st ?_|refine qb fun bx=>?_)
 refine Q_op fun ho=>A0k [] _ ho bod21 Y Y Y Y Y A6z (ownMorn_x (rD.le (A0e _ _)) hdl) (fun x β' hR=>?_)
 clear ho
 obtain⟨am,cm,rfl,hSm⟩:=hR
 obtain⟨bm,km,rfl,rfl⟩:=own_one hSm oM
 repeat (first|refine st ?_|refine qb fun bx=>?_)
 refine Q_op fun ho=>A0k [] _ ho bod66 Y Y Y Y Y A6z (renamed_x (rP.le (A0e _ _)) oM (rO.le (A0e _ _)) hO hpa) (fun x β' hR=>?_)
 clear ho
 obtain⟨a9,c9,rfl,hS9⟩:=hR
 rename A0f=>β9
 repeat (first|refine st ?_|refine qb fun bx=>?_)
 refine Q_op fun ho=>A0k [] _ ho bod66 Y Y Y Y Y A6z (renamed_x (rQ.le (A0e _ _)) oM (rO.le (A0e _ _)) hO hqa) (fun x β' hR=>?_)
 clear ho
 obtain⟨a10,c10,rfl,hS10⟩:=hR
 rename A0f=>β10
 rw [hf]at hS9 hS10
 refine A8d (β1:=β9++β10) (β2:=[(bm,km,3),(b4,(moV pn aD d.length cD).cells,24)]++βb3) cntA (fun hbk=>?_)
 have rP9:ActsAt _ a9 (p.map (rn f)):=RowAt.own hbk (by exact cntL) hS9
 have rQ10:ActsAt _ a10 (q.map (rn f)):=RowAt.own hbk (by exact cntL) hS10
 replace rD:=rD.le (A0e v3 (A0c (β9++β10)))
 replace rP:=rP.le (A0e v3 (A0c (β9++β10)))
 replace rQ:=rQ.le (A0e v3 (A0c (β9++β10)))
 replace rO:=rO.le (A0e v3 (A0c (β9++β10)))
 clear hbk
 generalize v3.union (A0c (β9++β10))=v4 at *
 clear hS9 hS10
 repeat (first|refine st ?_|refine qb fun bx=>?_)
 obtain⟨b8,rfl⟩:∃x:Nat,x=bx:=⟨bx,rfl⟩
 rw [putV_mo]
 repeat (first|refine sr ?_|refine qb fun bx=>?_)
 refine A1k (α:=Nat×Array Value) (fun z=>⟨[],[(11,.int .i64 z.1),(4,.pointer (some ⟨b4,0,none⟩)),(5,.slice ap p.length cp),(6,.slice aq q.length cq),(7,.slice ao pn cao),(8,.pointer (some ⟨b8,0,none⟩)),(9,.slice a9 p.length c9),(10,.slice a10 q.length c10)],[(b8,(moV pn (some ⟨bm,0,none⟩) d.length cm).cells,24),(bm,z.2,3),(b4,(moV pn aD d.length cD).cells,24)]⟩)
  (fun z y=>y=v4∧z.1≤d.length∧OwnS 3 1 [(bm,z.2,3)] (some ⟨bm,0,none⟩) d.length cm (((d.take z.1).map f++d.drop z.1).map intV)) (fun z=>d.length-z.1) (0,km) ⟨Y,rg,cntL⟩ (Le.refl _) ⟨Y,Nat.zero_le _,hSm⟩ ?_
 clear hSm
 rintro⟨i,km⟩ y ⟨rfl,hi,hSm⟩
 simp only at hi hSm
 dsimp only
 repeat (first|refine st ?_|refine qb fun bx=>?_)
 refine A0y Y (fun hlt=>?_) (fun hlt=>?_)
 ·simp only [decide_eq_true_eq]at hlt
  have hlt:i<d.length:=oM
  obtain⟨b1,o1,p1,k1,e1,f1,rfl,hv1,hc1⟩:=rD.get hlt
  replace hc1:=hc1 i hlt
  have hin:=hM.all _ (List.getElem_mem hlt)
  have hcu:(d.take i).map f++d.drop i=(d.take i).map f++d[i]::d.drop (i+1):=by rw [List.drop_eq_getElem_cons hlt]
  have hnx:(d.take (i+1)).map f++d.drop (i+1)=(d.take i).map f++f d[i]::d.drop (i+1):=by
   rw [List.take_succ_eq_append_getElem hlt,List.map_append,List.append_assoc];rfl
  generalize d[i]=x0 at hc1 hin hcu hnx
  obtain⟨xa,rfl⟩:=Int.eq_ofNat_of_zero_le hin.1
  have hxa:xa<o.length:=by have:=hO.len;omega
  obtain⟨b2,o2,p2,k2,e2,f2,rfl,hv2,hc2⟩:=rO.get hxa
  replace hc2:=hc2 xa hxa
  have ea:=B4h hxa
  rw [hf]at ea
  have hpl:(d.take i).length=i:=by rw [List.length_take];omega
  have hset:=ownS_set1 (natV o[xa]) hSm hlt
  have hoff:0+i*1=i:=oM
  repeat (first|refine st ?_|refine qb fun bx=>?_)
  refine A1d [12] [0,1,2,3,4,5,6,7,8,9,10,11,12] A1f Y kR ?_
  repeat (first|refine st ?_|refine qb fun bx=>?_)
  refine A0q tab i Y Y Y kR Y Y Y Y Y hlt ?_
  refine A7b tab Y Y Y kR Y hv1 (A0j tab Y Y Y (by rw [Nat.mul_one];exact hc1)) ?_
  repeat (first|refine st ?_|refine qb fun bx=>?_)
  refine A0q tab xa Y Y Y kR Y Y Y Y Y (by have:=hO.len;omega) ?_
  refine A7b tab Y Y Y kR Y hv2 (A0j tab Y Y Y (by rw [Nat.mul_one];exact hc2)) ?_
  repeat (first|refine st ?_|refine qb fun bx=>?_)
  refine A0q tab i Y Y Y kR Y Y Y Y Y hlt ?_
  refine S_do kR (A1a tab (c:=km) (x:=natV o[xa]) Y Y Y Y Y Y Y ib (Nat.ble_eq_true_of_le (by rw [hoff];exact hset.2)) sb ⟨Le.refl _,kp,?_⟩)
  repeat (first|refine st ?_|refine qb fun bx=>?_)
  refine A0a ⟨(i+1,A0x km (0+i*1) (natV o[xa]).cells.toList),y,by simp only;omega,⟨Y,rg,cntL⟩,Le.refl _,Y,hlt,?_⟩
  simp only
  rw [hnx,hoff,ea]
  have h3:=hset.1
  rw [hcu]at h3
  rw [List.map_append,List.set_append_right _ _ (by simp only [List.length_map];omega),show i-((d.take i).map f |>.map intV).length=0 by simp only [List.length_map];omega,List.map_cons,List.set_cons_zero]at h3
  rw [List.map_append,List.map_cons]
  exact h3
 ·obtain rfl:i=d.length:=by simp only [decide_eq_false_iff_not]at hlt;omega
  rw [List.take_length,List.drop_length,List.append_nil]at hSm
  repeat (first|refine st ?_|refine qb fun bx=>?_)
  refine A8d (β1:=[(bm,km,3)]) (β2:=[(b8,(moV pn (some ⟨bm,0,none⟩) d.length cm).cells,24),(b4,(moV pn aD d.length cD).cells,24)]) cntA (fun hbk=>?_)
  have rX:=RowAt.own hbk (by exact cntL) hSm
  have hle:=A0e y (A0c [(bm,km,3)])
  replace rD:=rD.le hle
  replace rP:=rP.le hle
  replace rQ:=rQ.le hle
  replace rP9:=rP9.le hle
  replace rQ10:=rQ10.le hle
  replace rO:=rO.le hle
  clear hbk hle
  generalize y.union (A0c [(bm,km,3)])=v5 at *
  clear hSm
  obtain⟨n,c,e,hc,he⟩:∃(n c:Nat) (e:Int),B2z pn d p q=(n,c,e)∧((A1q p q d=[]∧e=11)∨(A1q p q d≠[]∧e=0)):=by
   have hk:=countR_ok hL
   generalize B2z pn d p q=t at hk
   obtain⟨n,c,e⟩:=t
   refine⟨n,c,e,Y,?_⟩
   by_cases h:A1q p q d=[]
   ·rw [if_pos h]at hk;cases hk;exact .inl ⟨h,Y⟩
   ·rw [if_neg h]at hk;cases hk;exact .inr ⟨h,Y⟩
  refine Q_op fun ho=>A0t ho bod36 Y Y Y Y Y (show Ret1 _ _ _ _ (.tuple (List.toArray [natV n,natV c,intV e])) _ from by
   have:=count_x (P:=pn) (a:=p) (b:=q) (cD:=cD) (cA:=cp) (cB:=cq) rD hdl rP rQ oM oM
   rwa [hc]at this) ?_
  clear ho
  repeat (first|refine st ?_|refine qb fun bx=>?_)
  refine Q_op fun ho=>A0t ho bod36 Y Y Y Y Y (show Ret1 _ _ _ _ (.tuple (List.toArray [natV n,natV c,intV e])) _ from by
   have:=count_x (P:=pn) (d:=d.map f) (a:=p.map (rn f)) (b:=q.map (rn f)) (cD:=cm) (cA:=c9) (cB:=c10) rX (by rw [List.length_map];exact hdl) rP9 rQ10 (by rw [List.length_map];omega) (by rw [List.length_map];omega)
   rw [count_ren hI hL,hc]at this
   simp only [List.length_map]at this
   exact this) ?_
  clear ho
  repeat (first|refine st ?_|refine qb fun bx=>?_)
  refine Q_op fun ho=>A1r ho bod40 Y Y Y Y Y (struck_x (P:=pn) (cD:=cD) (cA:=cp) (cB:=cq) rD hdl rP rQ oM oM) (fun x w hl hx=>?_)
  clear ho
  replace rD:=rD.le hl
  replace rP:=rP.le hl
  replace rQ:=rQ.le hl
  replace rX:=rX.le hl
  replace rP9:=rP9.le hl
  replace rQ10:=rQ10.le hl
  replace rO:=rO.le hl
  clear hl
  obtain⟨a5,c5,a6,c6,r1,rfl,r5,r6,hr1⟩:=hx
  have hle1:=struck_len hL hr1
  repeat (first|refine st ?_|refine qb fun bx=>?_)
  refine Q_op fun ho=>A1r ho bod40 Y Y Y Y Y (show CallV _ _ 40 [moV pn (some ⟨bm,0,none⟩) d.length cm,.slice a9 p.length c9,.slice a10 q.length c10] _ _ from by
   have:=struck_x (P:=pn) (d:=d.map f) (a:=p.map (rn f)) (b:=q.map (rn f)) (cD:=cm) (cA:=c9) (cB:=c10) rX (by rw [List.length_map];exact hdl) rP9 rQ10 (by rw [List.length_map];omega) (by rw [List.length_map];omega)
   simp only [List.length_map]at this
   exact this) (fun x w hl hx=>?_)
  clear ho
  replace rD:=rD.le hl
  replace rP:=rP.le hl
  replace rQ:=rQ.le hl
  replace rX:=rX.le hl
  replace rP9:=rP9.le hl
  replace rQ10:=rQ10.le hl
  replace rO:=rO.le hl
  replace r5:=r5.le hl
  replace r6:=r6.le hl
  clear hl
  obtain⟨a7,c7,a8,c8,r2,rfl,r7,r8,hr2⟩:=hx
  obtain rfl:=struck_ren hI hL hr1 hr2
  have h1:=(struck_ok hL hr1).1
  clear hr1 hr2
  obtain⟨re,rl,rk⟩:=r2
  simp only at h1 hle1 r5 r6 r7 r8⊢
  subst h1
  repeat (first|refine st ?_|refine qb fun bx=>?_)
  rw [show((n:Int) != (n:Int))=false from by simp]
  repeat (first|refine st ?_|refine qb fun bx=>?_)
  rw [show((c:Int) != (c:Int))=false from by simp]
  repeat (first|refine st ?_|refine qb fun bx=>?_)
  rw [show(e != e)=false from by simp]
  repeat (first|refine st ?_|refine qb fun bx=>?_)
  refine Q_op fun ho=>A0t ho bod39 Y Y Y Y Y (A6h (B0h (cA:=_) (cB:=_) r5 r7 oM oM)) ?_
  clear ho
  repeat (first|refine st ?_|refine qb fun bx=>?_)
  refine Q_op fun ho=>A0t ho bod39 Y Y Y Y Y (A6h (B0h (cA:=_) (cB:=_) r6 r8 oM oM)) ?_
  clear ho
  clear r5 r6 r7 r8
  repeat (first|refine st ?_|refine qb fun bx=>?_)
  refine A1k (α:=Nat) (fun h=>⟨[],[(24,.int .i64 h),(14,intV e),(4,.pointer (some ⟨b4,0,none⟩)),(5,.slice ap p.length cp),(6,.slice aq q.length cq),(7,.slice ao pn cao),(8,.pointer (some ⟨b8,0,none⟩)),(9,.slice a9 p.length c9),(10,.slice a10 q.length c10)],[(b8,(moV pn (some ⟨bm,0,none⟩) d.length cm).cells,24),(b4,(moV pn aD d.length cD).cells,24)]⟩)
   (fun h z=>w.Le z∧h≤d.length) (fun h=>d.length-h) 0 ⟨Y,rg,cntL⟩ (Le.refl _) ⟨Le.refl _,Nat.zero_le _⟩ ?_
  rintro h z ⟨hwz,hh⟩
  repeat (first|refine st ?_|refine qb fun bx=>?_)
  refine A0y Y (fun hlt2=>?_) (fun hlt2=>?_)
  ·simp only [decide_eq_true_eq]at hlt2
   have hlt2:h<d.length:=oM
   repeat (first|refine st ?_|refine qb fun bx=>?_)
   refine Q_op fun ho=>A1r ho bod58 Y Y Y Y Y (owners_x (P:=pn) (cD:=cD) (cA:=cp) (cB:=cq) (h:=(h:Int)) (rD.le hwz) hdl (rP.le hwz) (rQ.le hwz) oM oM) (fun x z2 hl hx=>?_)
   clear ho
   replace hwz:=hwz.trans hl
   obtain⟨ax,cx,r,rfl,rr,hr⟩:=hx
   repeat (first|refine st ?_|refine qb fun bx=>?_)
   refine Q_op fun ho=>A1r ho bod58 Y Y Y Y Y (show CallV _ _ 58 [moV pn (some ⟨bm,0,none⟩) d.length cm,.slice a9 p.length c9,.slice a10 q.length c10,intV (h:Int)] _ _ from by
    have:=owners_x (P:=pn) (d:=d.map f) (a:=p.map (rn f)) (b:=q.map (rn f)) (cD:=cm) (cA:=c9) (cB:=c10) (h:=(h:Int)) (rX.le hwz) (by rw [List.length_map];exact hdl) (rP9.le hwz) (rQ10.le hwz) (by rw [List.length_map];omega) (by rw [List.length_map];omega)
    simp only [List.length_map]at this
    exact this) (fun x z3 hl hx=>?_)
   clear ho
   replace hwz:=hwz.trans hl
   replace rr:=rr.le hl
   obtain⟨ay,cy,r',rfl,rr',hr'⟩:=hx
   have hlr:=owners_len hL hlt2 hr
   obtain⟨k1,k2,k3,k4⟩:=owners_ren hI hL hlt2 hr hr'
   rw [hc]at k2
   obtain⟨yl,ye⟩:=r
   obtain⟨zl,ze⟩:=r'
   simp only at k1 k2 k3 k4 rr rr' hlr
   subst k1
   subst k2
   rw [k3]
   repeat (first|refine st ?_|refine qb fun bx=>?_)
   rw [show(ze != ze)=false from by simp]
   repeat (first|refine st ?_|refine qb fun bx=>?_)
   rw [show(ze != ze)=false from by simp]
   repeat (first|refine st ?_|refine qb fun bx=>?_)
   rw [show((yl.length:Int) != (yl.length:Int))=false from by simp]
   repeat (first|refine st ?_|refine qb fun bx=>?_)
   refine A1k (α:=Nat) (fun j=>⟨[],[(29,.int .i64 j),(25,.slice ax yl.length cx),(27,.slice ay yl.length cy),(24,.int .i64 h),(14,intV ze),(4,.pointer (some ⟨b4,0,none⟩)),(5,.slice ap p.length cp),(6,.slice aq q.length cq),(7,.slice ao pn cao),(8,.pointer (some ⟨b8,0,none⟩)),(9,.slice a9 p.length c9),(10,.slice a10 q.length c10)],[(b8,(moV pn (some ⟨bm,0,none⟩) d.length cm).cells,24),(b4,(moV pn aD d.length cD).cells,24)]⟩)
    (fun j y=>y=z3∧j≤yl.length) (fun j=>yl.length-j) 0 ⟨Y,rg,cntL⟩ (Le.refl _) ⟨Y,Nat.zero_le _⟩ ?_
   rintro j y ⟨rfl,hj⟩
   repeat (first|refine st ?_|refine qb fun bx=>?_)
   refine A0y Y (fun hlt3=>?_) (fun hlt3=>?_)
   ·simp only [decide_eq_true_eq]at hlt3
    have hlt3:j<yl.length:=oM
    obtain⟨b1,o1,p1,k1,e1,f1,rfl,hv1,hc1⟩:=rr.get hlt3
    replace hc1:=hc1 j hlt3
    obtain⟨g1,g2,g3⟩:=k4 _ (List.getElem_mem hlt3)
    generalize yl[j]=x0 at hc1 g1 g2 g3
    obtain⟨xa,rfl⟩:=Int.eq_ofNat_of_zero_le g1
    have hxa:xa<o.length:=by have:=hO.len;omega
    obtain⟨b2,o2,p2,k2,e2,f2,rfl,hv2,hc2⟩:=(rO.le hwz).get hxa
    replace hc2:=hc2 xa hxa
    have ea:=B4h hxa
    rw [hf]at ea
    rw [ea]at g3
    repeat (first|refine st ?_|refine qb fun bx=>?_)
    refine A1d [23] [0,1,2,3,4,5,6,7,8,9,10,11,12,13,14,15,16,17,18,19,20,21,22,23,24,25] A1f Y kR ?_
    repeat (first|refine st ?_|refine qb fun bx=>?_)
    refine A0q tab j Y Y Y kR Y Y Y Y Y hlt3 ?_
    refine A7b tab Y Y Y kR Y hv1 (A0j tab Y Y Y (by rw [Nat.mul_one];exact hc1)) ?_
    repeat (first|refine st ?_|refine qb fun bx=>?_)
    rw [show decide ((xa:Int)<0)=false from decide_eq_false oM]
    repeat (first|refine st ?_|refine qb fun bx=>?_)
    refine A0q tab j Y Y Y kR Y Y Y Y Y hlt3 ?_
    refine A7b tab Y Y Y kR Y hv1 (A0j tab Y Y Y (by rw [Nat.mul_one];exact hc1)) ?_
    repeat (first|refine st ?_|refine qb fun bx=>?_)
    rw [show decide ((xa:Int)≥(pn:Int))=false from decide_eq_false oM]
    repeat (first|refine st ?_|refine qb fun bx=>?_)
    refine A0q tab j Y Y Y kR Y Y Y Y Y hlt3 ?_
    refine A7b tab Y Y Y kR Y hv1 (A0j tab Y Y Y (by rw [Nat.mul_one];exact hc1)) ?_
    repeat (first|refine st ?_|refine qb fun bx=>?_)
    refine A0q tab xa Y Y Y kR Y Y Y Y Y (by have:=hO.len;omega) ?_
    refine A7b tab Y Y Y kR Y hv2 (A0j tab Y Y Y (by rw [Nat.mul_one];exact hc2)) ?_
    repeat (first|refine st ?_|refine qb fun bx=>?_)
    refine S_do kR (A0t Y bod62 Y Y Y Y Y (show Ret1 _ _ _ [.slice ay yl.length cy,intV (o[xa]:Nat)] _ _ from by
     have:=where_x (mn:=⟨true,true⟩) (c:=cy) (n:=((o[xa]:Nat):Int)) rr' oM
     rw [k3]at this
     exact this) ⟨Le.refl _,kp,?_⟩)
    repeat (first|refine st ?_|refine qb fun bx=>?_)
    rw [show decide (B2b zl ((o[xa]:Nat):Int)<0)=false from decide_eq_false (fun e=>whereN_no.1 e g3)]
    repeat (first|refine st ?_|refine qb fun bx=>?_)
    exact A0a ⟨j+1,y,oM,⟨Y,rg,cntL⟩,Le.refl _,Y,hlt3⟩
   ·repeat (first|refine st ?_|refine qb fun bx=>?_)
    exact A0a ⟨h+1,y,oM,⟨Y,rg,cntL⟩,Le.refl _,hwz,hlt2⟩
  ·repeat (first|refine st ?_|refine qb fun bx=>?_)
   refine Q_op fun ho=>A0t ho bod17 Y Y Y Y Y held_x ?_
   clear ho
   repeat (first|refine st ?_|refine qb fun bx=>?_)
   exact⟨Y,Y,Y⟩
end Go.Proofs.YtclejblcnfaeaaaGreat
end
section
namespace Go.Proofs.YtclejblcnfaeaaaGreat
open Go Go.ChangeShapes
theorem B3v{a b:Bool}(ha:a=true)(hb:b=true):(a&&b)=true:=by rw [ha,hb];rfl
theorem j16_0:(Rows.tollNumberedRow.wf (OpenSpec.ofChange Rows.tollNumberedSpec))=true:=by kernel_rfl
theorem j16_1:(laidOutB Tryz.prog)=true:=by kernel_rfl
theorem j16_2:(mapsRowed Tryz.prog)=true:=by kernel_rfl
theorem j16_3:(Tryz.f16.params.all (Tryz.prog.readableRec ·))=true:=by kernel_rfl
theorem j16_4:(namedTie Tryz.prog Rows.tollNumberedRow.named Rows.tollNumberedSpec.vars)=true:=by kernel_rfl
theorem j16_5:((Rows.tollNumberedRow.stops == []))=true:=by kernel_rfl
theorem j16_6:((Tryz.prog.stops == []))=true:=by kernel_rfl
theorem j16_7:((Rows.tollNumberedRow.knobs == []))=true:=by kernel_rfl
theorem j16_8:((Tryz.prog.stopKnobs == []))=true:=by kernel_rfl
theorem j16_9:((Rows.tollNumberedRow.inPlace==Tryz.prog.inPlace 16))=true:=by kernel_rfl
theorem j16_10:((Rows.tollNumberedRow.unfollowed==Tryz.prog.unfollowed 16))=true:=by kernel_rfl
theorem j16_11:((Rows.tollNumberedRow.recurses==Tryz.prog.recurses 16))=true:=by kernel_rfl
theorem j16_12:((Rows.tollNumberedRow.named==Tryz.prog.varsNamed 16))=true:=by kernel_rfl
theorem j16_13:((Rows.tollNumberedRow.maps==(Tryz.f16.params.toList++Rows.tollNumberedSpec.plain.varTypes Tryz.prog).any (Tryz.prog.mapsRec ·)))=true:=by kernel_rfl
theorem j16_14:((Rows.tollNumberedRow.ifaces==(Tryz.f16.params.toList++Rows.tollNumberedSpec.plain.varTypes Tryz.prog).any (Tryz.prog.ifacesRec ·)))=true:=by kernel_rfl
theorem j16_15:((Rows.tollNumberedRow.mapsOut==Tryz.prog.mapsAmong Tryz.f16.resultTypes.toList))=true:=by kernel_rfl
theorem j16_16:((Rows.tollNumberedRow.loops==(Tryz.f16.params.toList++Rows.tollNumberedSpec.plain.varTypes Tryz.prog).any (Tryz.prog.loopsFrom ·)))=true:=by kernel_rfl
theorem j16_17:((Rows.tollNumberedRow.wideKeys==(Tryz.f16.params.toList++Rows.tollNumberedSpec.plain.varTypes Tryz.prog++Tryz.f16.resultTypes.toList).any (Tryz.prog.wideKeysFrom ·)))=true:=by kernel_rfl
theorem j16_18:(Rows.tollNumberedSpec.vars.all (Tryz.prog.varReadable ·))=true:=by kernel_rfl
theorem j16_19:(Tryz.f16.resultTypes.all (fun t=>Tryz.prog.readableRec t&&decide (t<Tryz.prog.types.size)))=true:=by kernel_rfl
theorem j16_20:((Rows.tollNumberedRow.ifacesOut==Tryz.f16.resultTypes.toList.any (Tryz.prog.ifacesRec ·)))=true:=by kernel_rfl
theorem j16_21:((Rows.tollNumberedRow.loopsOut==Tryz.f16.resultTypes.toList.any (Tryz.prog.loopsFrom ·)))=true:=by kernel_rfl
theorem j16_22:((Rows.tollNumberedRow.plainKeys==Tryz.prog.plainKeys))=true:=by kernel_rfl
theorem j16_23:(Rows.tollNumberedRow.shortTexts.isNone)=true:=by kernel_rfl
theorem j16_24:(Tryz.prog.stopsHeard)=true:=by kernel_rfl
theorem j16_25:(Tryz.prog.mayEnter)=true:=by kernel_rfl
theorem j16_26:((Rows.tollNumberedRow.lifted==Tryz.prog.liftsFinal))=true:=by kernel_rfl
theorem j16_27:((Tryz.prog.make==some Rows.tollNumberedRow.make))=true:=by kernel_rfl
theorem j16_28:((Rows.tollNumberedRow.kinds==(if Rows.tollNumberedRow.domain.isEmpty then []else Tryz.f16.params.toList.map fun t=>match Tryz.prog.underlying t with|some (.int k)=>some k|_=>none)))=true:=by kernel_rfl
theorem j16_29:((Rows.tollNumberedRow.pinned==Rows.tollNumberedRow.pinnedBy))=true:=by kernel_rfl
theorem j16_30:((Rows.tollNumberedRow.veiled==(Tryz.f16.params.toList++Rows.tollNumberedSpec.plain.varTypes Tryz.prog++Tryz.f16.resultTypes.toList).any (Tryz.prog.veiledRec ·)))=true:=by kernel_rfl
theorem j16_31:(Rows.tollNumberedRow.veiledFits Tryz.prog Tryz.f16.params.toList (Tryz.f16.params.toList++Rows.tollNumberedSpec.plain.varTypes Tryz.prog++Tryz.f16.resultTypes.toList))=true:=by kernel_rfl
set_option maxRecDepth 100000 in
theorem j16:joinedFacts Tryz.prog 16 Tryz.f16 Rows.tollNumberedSpec Rows.tollNumberedRow=true:=B3v (B3v (B3v (B3v (B3v (B3v (B3v (B3v (B3v (B3v (B3v (B3v (B3v (B3v (B3v (B3v (B3v (B3v (B3v (B3v (B3v (B3v (B3v (B3v (B3v (B3v (B3v (B3v (B3v (B3v (B3v (j16_0) j16_1) j16_2) j16_3) j16_4) j16_5) j16_6) j16_7) j16_8) j16_9) j16_10) j16_11) j16_12) j16_13) j16_14) j16_15) j16_16) j16_17) j16_18) j16_19) j16_20) j16_21) j16_22) j16_23) j16_24) j16_25) j16_26) j16_27) j16_28) j16_29) j16_30) j16_31
end Go.Proofs.YtclejblcnfaeaaaGreat
end
section
namespace Go.Proofs.YtclejblcnfaeaaaGreat
open Go Go.Pal Go.Conc Go.ConcM Go.RowKit Go.ChangeShapes Go.WideShapes Go.ChangeAt
theorem own_knob:ownKnob Tryz.prog.godebug=none:=by kernel_rfl
set_option maxRecDepth 100000 in
theorem B4i(os:Os)(started:os.Started)(H:Type)(enc:TypeId×Value→H) :
  ReturnsInLeavingWide {} Tryz.checked os 16 .any (Rows.tollNumberedSpec.pre6 enc Tryz.prog Tryz.f16 Rows.tollNumberedRow.domain false) (Rows.tollNumberedSpec.post enc Tryz.prog Tryz.f16 false true false false):=by
 refine returnsInLeavingWide_of_change_sized (C:=Tryz.checked) own_knob started Tryz.func16
  (ChangeSpec.witness6 (enc:=enc) (C:=Tryz.checked) false ⟨#[],#[.slice none 0 0],[]⟩ 8 kR kR kR kR) ?_
 intro W base args ds gs before hval0 hW _ _ _
 have hval:∀(j:Nat) t v,Tryz.f16.params[j]?=some t→args[j]?=some v→Value.okWide Tryz.prog W .any base t v:=hval0
 have hW':=hW
 obtain⟨p,q,hA0,hV,rfl,_,_⟩:=hW
 have hA:DataW.TrodAll enc Tryz.prog W 0 (fun _=>true) true Tryz.f16.params.toList args.toList ds p:=hA0
 rw [Tryz.params16]at hA hval
 obtain⟨v0,d0,rfl,rfl,h0⟩:=trodAll_one hA
 obtain⟨rfl,rfl⟩:=trodVars_none hV
 clear hA0 hval0
 simp only [List.append_nil]at hW'
 have hlt:∀x∈p,x.block<W.heap.size:=fun x hx=>by simpa using hW'.lt x hx
 obtain⟨a0,cap,ns,v,rfl,hag,hro,hns,hargs⟩:=open_nums (hval 0 22 v0 rfl rfl) h0 hlt
 obtain⟨M,last,o,w',t',r1,r2,r3,r4⟩:=law_run (P:=Tryz.prog) (W:=W) (v:=v) (args:=[.slice a0 ns.length cap]) Tryz.func16 rfl kR hag hro (numbered_run hns)
 refine⟨M,last,o,w',t',r1,r2,r3,r4.mono fun x hp=>?_⟩
 obtain⟨rfl,hbel0,hos⟩:=hp
 have hbel:Below W.heap.size W w':=by
  have e:w'.os=W.os:=hos
  rw [←e]at hbel0
  exact hbel0
 exact⟨_,_,_,[],p,[],hW',trodAll_mk1 (shut_bool Tryz.underlying4 true),trodAll_mk1 (hargs _ hbel),Y,hbel.frame _,fun h=>by cases h⟩
theorem numbered_said:Rows.TollNumberedSaid:=
 OpenClaim.holds_of_wide_leaving 16 Tryz.f16 rfl rfl rfl rfl rfl rfl rfl ⟨rfl,rfl,rfl,rfl,rfl⟩ rfl rfl rfl rfl rfl kR Tryz.func16 j16
  (of_decide_eq_true kR) (by unfold Func.isWrapper;first|(rw [if_pos (by decide +kernel)];kernel_rfl)|(rw [if_neg (by decide +kernel)];exact⟨Y,Y⟩))
  (fun os started H enc _=>B4i os started H enc)
end Go.Proofs.YtclejblcnfaeaaaGreat
end
#print axioms Go.Proofs.YtclejblcnfaeaaaGreat.numbered_said
