/- 'palfreylaw12.TollHeld' returns true for every list of numbers, whatever the goroutines of its calls do, and the list reads as it did, as its row says it. No condition. -/
import Derived.Conc.Holds
import Derived.Conc.LeavingOf
import Derived.Handed
import Derived.JoinedOf
import Derived.OpenShut
import Derived.ProofKit
import Derived.WalkKit
import Derived.Test.YtclejblcnfaeaaaGreatPbq
import Derived.Test.YtclejblcnfaeaaaGreatPbr
set_option linter.all false
section
namespace Go.Proofs.YtclejblcnfaeaaaGreat
open Go Go.Pal Go.Proofs.Tryz
theorem bod17:A0i Tryz.prog 17:=⟨_,_,func17,Y,by decide⟩
theorem bod18:A0i Tryz.prog 18:=⟨_,_,func18,Y,by decide⟩
theorem bod19:A0i Tryz.prog 19:=⟨_,_,func19,Y,by decide⟩
theorem bod42:A0i Tryz.prog 42:=⟨_,_,func42,Y,by decide⟩
theorem bod50:A0i Tryz.prog 50:=⟨_,_,func50,Y,by decide⟩
theorem bod52:A0i Tryz.prog 52:=⟨_,_,func52,Y,by decide⟩
end Go.Proofs.YtclejblcnfaeaaaGreat
end
section
namespace Go.Pal
open Go Go.Conc View
section
variable{P:Program}{mn:Who}(T:Tab P){rd:Option Nat}{n:Nat}{Q:Exit→St→View→Prop}{ds:List Deferred}{ρ:Regs}{β:A0f}{v:View}
 {ops:Array Oper}{i:Nat}{rest:List Nat}{l:List Oper}{d:Nat}{op:Op}{ty:TypeId}{pos:String}{af:Array Edge}{gu:Option (Nat×Bool)}{K:St→View→Prop}
theorem A_make{t e:TypeId}{k by_ m:Nat}{kk kk':IntKind}{z x:Value}{y y':Operand}(ho:ops[i]?=some ⟨some d,.makeSlice t y y',ty,pos,af,gu⟩)(hw:A0r ops gu ρ=some true)(hn:Nat.blt d n=true)
  (hy:ρ.val y=some (.int kk m))(hy':ρ.val y'=some (.int kk' m))(ht:T.und t=some (.slice e))(hs:T.siz e=some k)(hz:T.zer e=some z)(hzs:Nat.beq z.cells.size k=true)(hby:T.byt e=some by_)(hm:by_*m≤2^48)(hm':m<2^63)
  (h:∀b c,c.size=m*k→(∀j,j<m*k→c[j]?=some (z.cells[j % z.cells.size]!))→K ⟨ds,(d,.slice (some ⟨b,0,none⟩) m m)::ρ,(b,c,e)::β⟩ v):XOp P mn rd n ops i Q K ⟨ds,ρ,β⟩ v:=by
 refine A1u ho (A0l hw) (.inr Y) hn fun ev hev hbk=>?_
 have hzs:=Nat.eq_of_beq_eq_true hzs
 unfold execOp
 have hwr:IntKind.i64.wrap (m:Int)=m:=A2g oM oM
 simp only [Instr.makeSlice,hev _ _ hy,hev _ _ hy',asInt,asIntOf,A0b,A1h T ht,A0h,hwr]
 refine tx_info T hby fun inf hi=>?_
 have hnot:¬((decide ((m:Int)<0)||decide ((inf.bytes:Int)*(m:Int) > 2^48))=true):=by
  rw [hi]
  simp only [Bool.or_eq_true,decide_eq_true_eq,not_or]
  refine⟨oM,?_⟩
  have:((by_*m:Nat):Int)≤((2^48:Nat):Int):=Int.ofNat_le.2 hm
  simp only [Int.natCast_mul]at this
  omega
 rw [if_neg (by simp only [Bool.or_eq_true,not_or];exact⟨⟨by simpa using hnot,by simp⟩,by simp⟩)]
 rw [A0b]
 have rest:∀{K':Unit→View→Prop},K' () (v.union (A0c β))→∀b,SemX P (askRoom b) K' (fun x w=>∃β' u,(Bok β' u∧(u.union (A0c β')).Le w)∧Q (.panic [{v:=x,recovered:=false }]) ⟨ds,ρ,β'⟩ u) (v.union (A0c β)):=by
  intro K' hK b
  unfold askRoom
  split
  ·exact⟨trivial,hK⟩
  ·exact hK
 refine rest ?_ _
 rw [A0b,A3p T hs]
 obtain⟨KK,hKK⟩:∃KK:Value→View→Prop,KK=fun a v'=>∃β' u,(Bok β' u∧(u.union (A0c β')).Le v')∧K ⟨ds,putR (some d) a ρ,β'⟩ u:=⟨_,rfl⟩
 have fin:∀(EE:Value→View→Prop) (zz:Array Value),(m*k≠0→zz=z.cells)→SemX P (do pure (.slice (some (←newRow e ((Array.range ((m:Int).toNat*k)).map (zz[· % zz.size]!)))) (m:Int).toNat (m:Int).toNat)) KK EE (v.union (A0c β)):=by
  intro EE zz hzz
  simp only [newRow,A0b,A0h,A8s]
  intro b hb
  obtain⟨h1,h2⟩:=A8b (c:=(Array.range ((m:Int).toNat*k)).map (zz[· % zz.size]!)) (t:=e) hbk hb
  rw [hKK]
  refine⟨_,v,⟨h1,h2⟩,h b _ sM fun j hj=>?_⟩
  rw [hzz oM]
  simp [hj]
 rw [←hKK]
 split
 ·rename_i h0
  rw [A0b,A0h];exact fin _ _ fun h=>absurd (by simpa using h0) h
 ·rw [A0b,A8h T hz,A0b,A0h];exact fin _ _ fun _=>rfl
end
section
variable{P:Program}{mn:Who}(T:Tab P){rd:Option Nat}{n:Nat}{Q:Exit→St→View→Prop}{ds:List Deferred}{ρ:Regs}{β:A0f}{v:View}
 {ops:Array Oper}{i k:Nat}{S:List Rec}{done:List Nat}{ms:List Nat}{v0:View}{todo:List Nat}
def twoB(ops:Array Oper)(ms done:List Nat)(i k:Nat):Bool:=(Region.ready .any ops (mkL ops done)).contains i&&(Region.ready .any ops (mkL ops done)).all (fun j=>Nat.beq j i||Nat.beq j k)&&ms.contains i&&ms.contains k
theorem S_two(k:Nat)(hB:twoB ops ms done i k=true)(h1:XOp P mn (some 4294967295) n ops i (fun _ _ _=>False) (fun σ' u=>v.Le u∧KeepS ops i S σ'.β∧XS P mn n ops ms v0 Q (k::todo) S (i::done) σ' u) ⟨ds,ρ,β⟩ v)
  (h2:XOp P mn (some 4294967295) n ops k (fun _ _ _=>False) (fun σ' u=>v.Le u∧KeepS ops k S σ'.β∧XS P mn n ops ms v0 Q (i::todo) S (k::done) σ' u) ⟨ds,ρ,β⟩ v):XS P mn n ops ms v0 Q (i::k::todo) S done ⟨ds,ρ,β⟩ v:=fun a hf hb hv hc=>by
 simp only [twoB,Bool.and_eq_true]at hB
 obtain⟨⟨⟨hb1,hb2⟩,hb3⟩,hb4⟩:=hB
 have hri:i∈Region.ready .any ops (mkL ops done):=by simpa using hb1
 show AnyS P mn ops ms v0 (fun a u=>Post n Q .normal a u) (todo.length+1+1) (SV S) (mkL ops done) a (v.union (A0c β))
 refine⟨fun e=>(by rw [e]at hri;cases hri),fun j hj=>?_⟩
 have hr:=hj
 have hx:ms.contains j=true∧XOp P mn (some 4294967295) n ops j (fun _ _ _=>False) (fun σ' u=>v.Le u∧KeepS ops j S σ'.β∧XS P mn n ops ms v0 Q (k::todo) S (j::done) σ' u) ⟨ds,ρ,β⟩ v:=by
  have hji:=List.all_eq_true.1 hb2 j hj
  rw [Bool.or_eq_true]at hji
  rcases hji with hji|hji
  ·have:=Nat.eq_of_beq_eq_true hji;subst this;exact⟨hb3,h1⟩
  ·have:=Nat.eq_of_beq_eq_true hji;subst this;exact⟨hb4,h2⟩
 obtain⟨h3,h⟩:=hx
 obtain⟨o,ho,hw,hd,hs⟩:=h a hf hb
 unfold OpS
 simp only [ho,hw,if_true]
 have key:∀{a' w},KP n (fun σ' u=>v.Le u∧KeepS ops j S σ'.β∧XS P mn n ops ms v0 Q (k::todo) S (j::done) σ' u) a' w→Keeps ops ms v0 (SV S) j (v.union (A0c β)) w∧AnyS P mn ops ms v0 (fun a u=>Post n Q .normal a u) (todo.length+1) (SV S) ((mkL ops done).setIfInBounds j true) a' w:=by
  rintro a' w ⟨σ',u,⟨hl,hk,hx⟩,hf',hb',hw'⟩
  refine⟨?_,?_⟩
  ·unfold Keeps
   rw [if_pos h3]
   refine⟨((hv.trans hl).trans (A0e _ _)).trans hw',fun p hp hdp=>?_⟩
   obtain⟨b,c,t,he,hin⟩:=B0o hk p hp hdp
   rw [he]
   intro j' x e
   simp only [A0c]at e
   split at e
   ·rename_i hj';subst hj';cases e;exact hw' _ _ (A0p hb' hin)
   ·cases e
  ·exact A5k (K:=fun a u=>Post n Q .normal a u) (fun a u v hl hp=>post_le hl hp) _ _ _ _ _ _ hw' (hx _ hf' hb' (hv.trans hl) (A4z hc hr A9f))
 refine A2c _ (fun nx w hK=>?_) (fun x w hE=>?_) hs
 ·cases nx with
  | value x=>exact key hK
  | skip=>exact key hK
  | defer d=>exact absurd hK.1 sM
  | enter f args=>exact CallsX.mono hK fun e w' hR=>⟨w',Le.refl _,by
    cases e with
    | ret x=>exact key hR
    | pan ch=>obtain⟨_,_,hq,_⟩:=hR;exact hq⟩
  | round l f tmps assign body=>exact absurd rfl hK.1
  | _=>exact hK.elim
 ·obtain⟨_,_,hq,_⟩:=hE;exact hq
end
section
variable{P:Program}{mn:Who}(T:Tab P){rd:Option Nat}{n:Nat}{Q:Exit→St→View→Prop}{ds:List Deferred}{ρ:Regs}{β:A0f}{v:View}{K:St→View→Prop}
 {ops:Array Oper}{i:Nat}{d:Nat}{ty:TypeId}{pos:String}{af:Array Edge}{gu:Option (Nat×Bool)}
include T in
theorem A_indexA{t e:TypeId}{y z:Operand}{cs:Array Value}{len sz j:Nat}{jz:Int}{k:IntKind}{x:Value}(ho:ops[i]?=some ⟨some d,.index t y z,ty,pos,af,gu⟩)(hw:A0r ops gu ρ=some true)(hn:Nat.blt d n=true)
  (hy:ρ.val y=some (.agg cs))(hz:ρ.val z=some (.int k jz))(hj:jz=j)(ht:T.und t=some (.array len e))(hs:T.siz e=some sz)(hl:j<len)(hx:partOf T e cs (j*sz)=some x)
  (h:K ⟨ds,(d,x)::ρ,β⟩ v):XOp P mn rd n ops i Q K ⟨ds,ρ,β⟩ v:=by
 refine A1u ho (A0l hw) (.inr Y) hn fun ev hev hbk=>?_
 subst hj
 simp only [execOp,A0b,hev _ _ hy,hev _ _ hz,Instr.index,asIntOf,A0h,A1h T ht]
 rw [if_pos ⟨oM,oM⟩]
 simp only [A0b,A3p T hs,Int.toNat_natCast]
 exact part_sound T hx ⟨β,v,⟨hbk,Le.refl _⟩,h⟩
end
end Go.Pal
end
section
namespace Go.Pal.To
open Go
theorem B3w:∀{l:List MA} {os:List Int} {i:Nat} (hi:i<l.length),(A9c os l)[i]?=some (B2p (A3r os (l.take i)) l[i])
 | [],_,_,h=>absurd h (Nat.not_lt_zero _)
 | x::l,os,0,_=>rfl
 | x::l,os,i+1,h=>by
  show(A9c (doN os x) l)[i]?=_
  rw [B3w (by simpa using h)]
  rfl
end Go.Pal.To
end
section
namespace Go.Proofs.YtclejblcnfaeaaaGreat
open Go Go.Pal Go.Pal.To Go.Conc View
open Go.Proofs.Tryz
set_option maxHeartbeats 4000000
set_option maxRecDepth 20000
section
variable{mn:Who}{v:View}{P:Int}{aD aA:Option Addr}{cD cA:Nat}{d:List Int}{l:List MA}
theorem B4d{s:ByteArray}(t:ByteArray)(h:s≠t):(s.toList==t.toList)=false:=by
 rw [beq_eq_false_iff_ne]
 intro e
 rw [ByteArray.toList_eq,ByteArray.toList_eq]at e
 exact h (bytes_eq e)
end
end Go.Proofs.YtclejblcnfaeaaaGreat
end
section
namespace Go.Pal.To
open Go
def notB:ByteArray:=⟨#[110,111,116]⟩
def lied(os:List Int)(x:MA)(p:Int):Bool:=x.k==2&&x.a==p && !(ownH os x.h==x.b)
def B3x:List Int→List MA→Int→Bool
 | _,[],_=>false
 | os,x::l,p=>lied os x p||B3x (doN os x) l p
theorem B3y:∀{l:List MA} {os:List Int} {x:MA} {p:Int},B3x os (l++[x]) p=(B3x os l p||lied (A3r os l) x p)
 | [],os,x,p=>by simp [B3x,A3r]
 | y::l,os,x,p=>by
  show(lied os y p||B3x (doN os y) (l++[x]) p)=((lied os y p||B3x (doN os y) l p)||lied (A3r (doN os y) l) x p)
  rw [B3y,Bool.or_assoc]
def B3z(n:Nat)(os:List Int)(l:List MA):List Int:=((List.range n).filter fun p:Nat=>B3x os l p).map fun p:Nat=>(p:Int)
theorem B4a(n:Nat)(os:List Int)(l:List MA):B3z (n+1) os l=if B3x os l n=true then B3z n os l++[(n:Int)]else B3z n os l:=by
 unfold B3z
 rw [List.range_succ,List.filter_append,List.map_append]
 by_cases h:B3x os l n=true
 ·rw [if_pos h];simp [h]
 ·rw [if_neg h];simp [h]
theorem B4b(n:Nat)(os:List Int)(l:List MA):(B3z n os l).length≤n:=by
 unfold B3z
 rw [List.length_map]
 exact Nat.le_trans (List.length_filter_le _ _) sM
theorem liesL_no{P N:Int}:∀{l:List MA} {os:List Int} {p:Int},(∀x∈l,Ok P N x)→P≤p→B3x os l p=false
 | [],_,_,_,_=>rfl
 | x::l,os,p,h,hp=>by
  have hx:=h x sM
  unfold B3x
  rw [liesL_no (fun y hy=>h y (by simp [hy])) hp,Bool.or_false]
  unfold lied
  by_cases hk:x.k=2
  ·have:=(hx.ab oM).1
   have:¬x.a=p:=oM
   simp [this]
  ·simp [hk]
theorem liarsL_le{P N:Int}{l:List MA}{os:List Int}{n:Nat}(h:∀x∈l,Ok P N x)(hn:P≤n):∀k,B3z (n+k) os l=B3z n os l
 | 0=>rfl
 | k+1=>by
  rw [show n+(k+1)=n+k+1 from Y,B4a,liesL_no h oM,if_neg dM]
  exact liarsL_le h hn k
theorem reply_not{P:Int}{os:List Int}{x:MA}(hx:Ok P os.length x)(hk:x.k=2):B2p os x=notB↔¬ownH os x.h=x.b:=by
 unfold B2p
 rw [if_neg oM,if_pos hk]
 split
 ·rename_i h
  exact⟨fun e=>absurd e dM,fun e=>absurd h e⟩
 ·rename_i h
  exact⟨fun _=>h,fun _=>rfl⟩
end Go.Pal.To
end
section
namespace Go.Proofs.YtclejblcnfaeaaaGreat
open Go Go.Pal Go.Pal.To Go.Conc View
open Go.Proofs.Tryz
set_option maxHeartbeats 4000000
set_option maxRecDepth 20000
def LiarsAt(u:View)(x:Value)(r:List Int×Int):Prop:=∃a c,x = .tuple (List.toArray [.slice a r.1.length c,intV r.2])∧RowAt u a (r.1.map intV)
def lvC(f:Int→Bool):Array Value:=List.toArray [.bool (f 0),.bool (f 1),.bool (f 2),.bool (f 3)]
theorem lvC_set{f:Int→Bool}{j:Nat}(h:j<4):lvC (fun p=>f p||(j:Int)==p)=(putV (lvC f).toList (0+j*1) (Value.bool true).cells.toList).toArray:=by
 show _=(putV (lvC f).toList (0+j*1) [Value.bool true]).toArray
 rcases (by omega:j=0∨j=1∨j=2∨j=3)with rfl|rfl|rfl|rfl<;>simp [lvC,putV]
theorem lvC_get{f:Int→Bool}{j:Nat}(h:j<4):partOf tab 4 (lvC f) (j*1)=some (.bool (f j)):=by
 rcases (by omega:j=0∨j=1∨j=2∨j=3)with rfl|rfl|rfl|rfl<;>rfl
theorem B4c{os:List Int}{x:MA}(h:¬(x.k=2∧¬ownH os x.h=x.b))(p:Int):lied os x p=false:=by
 unfold lied
 by_cases hk:x.k=2
 ·have:ownH os x.h=x.b:=Classical.byContradiction fun e=>h ⟨hk,e⟩
  simp [this]
 ·simp [hk]
theorem lied_of{os:List Int}{x:MA}(hk:x.k=2)(h:¬ownH os x.h=x.b)(p:Int):lied os x p=(x.a==p):=by
 unfold lied
 simp [hk,h]
structure LiS where
 i:Nat
 sg:A0f
 a:Option Addr
 cap:Nat
section
variable{mn:Who}{v:View}{P:Int}{aD aA:Option Addr}{cD cA:Nat}{d:List Int}{a:List MA}
theorem liars_x(hd:RowAt v aD (d.map intV))(ha:ActsAt v aA a)(hok:HOk P d a) :
  CallV prog mn 50 [moV P aD d.length cD,.slice aA a.length cA] (fun x u=>LiarsAt u x (B3z 4 d a,0)) v:=by
 have hll:=hok.len
 have hdl:=hok.m.len
 refine A3l tab func50 Y nB (args:=[_,_]) ?_
 repeat (first|refine st ?_|refine qb fun bx=>?_)
 obtain⟨b2,rfl⟩:∃x:Nat,x=bx:=⟨bx,rfl⟩
 refine Q_op fun ho=>A1r ho bod49 Y Y Y Y Y (hold_ok (cD:=cD) (cA:=cA) hd ha hok) (fun x w hl hx=>?_)
 clear ho
 obtain⟨ar,cr,ad,cd,rfl,h2,h3⟩:=hx
 clear h3
 replace ha:=ha.le hl
 repeat (first|refine st ?_|refine qb fun bx=>?_)
 refine A1k (α:=Nat) (fun i=>⟨[],[(29,.int .i64 i),(28,.int .i64 a.length),(27,.slice ar a.length cr),(1,.slice aA a.length cA),(9,.pointer (some ⟨bx,0,none⟩))],[(bx,lvC (B3x d (a.take i)),166)]⟩)
  (fun i u=>u=w∧i≤a.length) (fun i=>a.length-i) 0 ⟨Y,rg,show Subm [(bx,lvC (B3x d []),166)] [(bx,lvC (B3x d []),166),(b2,(moV P aD d.length cD).cells,24)]from cntL⟩ (Le.refl _) ⟨Y,Nat.zero_le _⟩ ?_
 obtain⟨b9,rfl⟩:∃x:Nat,x=bx:=⟨bx,rfl⟩
 rintro i u ⟨rfl,hi⟩
 repeat (first|refine st ?_|refine qb fun bx=>?_)
 refine A0y Y (fun h=>?_) (fun h=>?_)
 ·replace h:=fa h
  have hlt:i<a.length:=oM
  have hri:i<(A9c d a).length:=by rw [B0j];exact hlt
  obtain⟨bb,off,p,c,e,f,rfl,hv,hc⟩:=ha.get hlt
  obtain⟨b1,o1,p1,c1,e1,f1,rfl,hv1,hc1⟩:=h2.get hri
  have hg:(A9c d a)[i]=B2p (A3r d (a.take i)) a[i]:=by
   have:=B3w (os:=d) hlt
   rw [List.getElem?_eq_some_iff]at this
   exact this.2
  have hact:=hok.all _ (List.getElem_mem hlt)
  have hdl2:=A6m (a.take i) d
  rw [←hdl2]at hact
  have htk:a.take (i+1)=a.take i++[a[i]]:=List.take_succ_eq_append_getElem hlt
  have hci:=hc i hlt
  have hci1:=hc1 i hri
  rw [hg]at hci1
  have hls:∀p,B3x d (a.take (i+1)) p=(B3x d (a.take i) p||lied (A3r d (a.take i)) a[i] p):=fun p=>by rw [htk,B3y]
  generalize a[i]=y at hact hci hci1 hls
  generalize A3r d (a.take i)=os at hact hci1 hls
  have hno:¬(y.k=2∧¬ownH os y.h=y.b)→lvC (B3x d (a.take (i+1)))=lvC (B3x d (a.take i)):=fun h=>by
   unfold lvC
   simp only [hls,B4c h,Bool.or_false]
  repeat (first|refine st ?_|refine qb fun bx=>?_)
  refine A4j tab i Y Y Y Y Y Y Y hlt ?_
  refine A1w tab Y Y Y hv1 (A0j tab Y Y Y (by rw [Nat.mul_one];exact hci1)) ?_
  repeat (first|refine st ?_|refine qb fun bx=>?_)
  refine A4j tab i Y Y Y Y Y Y Y hlt ?_
  refine A1w tab Y Y Y hv (A1i tab Y Y Y hci) ?_
  refine Q_op fun ho=>A0t ho bod107 Y Y Y Y Y (deedOf_x (x:=y) hact.k) ?_
  clear ho
  by_cases hk:y.k=2
  ·have hab:=hact.ab oM
   have hP4:=hok.m.p
   obtain⟨j,hj,hj4⟩:∃j:Nat,y.a=j∧j<4:=⟨y.a.toNat,oM,oM⟩
   have hrn:=reply_not hact hk
   rw [show y.deed = .iface 168 (.agg (List.toArray [intV y.a,intV y.b,intV y.h]))from by unfold MA.deed;rw [if_neg oM,if_pos hk]]
   repeat (first|refine st ?_|refine qb fun bx=>?_)
   by_cases hw:ownH os y.h=y.b
   ·rw [B4d ({data:=#[110,111,116] }:ByteArray) (fun e=>hrn.1 e hw)]
    repeat (first|refine st ?_|refine qb fun bx=>?_)
    refine A0a ⟨i+1,u,oM,⟨Y,rg,?_⟩,Le.refl _,Y,hlt⟩
    rw [hno (fun h=>h.2 hw)]
    exact cntL
   ·rw [hrn.2 hw]
    rw [show(notB.toList==({data:=#[110,111,116] }:ByteArray).toList)=true from beq_self_eq_true _]
    have hlv:lvC (B3x d (a.take (i+1)))=lvC (fun p=>B3x d (a.take i) p||(j:Int)==p):=by
     unfold lvC
     simp only [hls,lied_of hk hw,hj]
    rw [hj]
    repeat (first|refine st ?_|refine qb fun bx=>?_)
    refine B3o tab j Y Y Y Y Y Y Y hj4 ?_
    refine Q_op fun ho=>A2v tab ho Y Y Y Y Y Y ib (by apply Nat.ble_eq_true_of_le;show 0+j*1+1≤4;omega) sb ?_
    repeat (first|refine st ?_|refine qb fun bx=>?_)
    refine A0a ⟨i+1,u,oM,⟨Y,rg,?_⟩,Le.refl _,Y,hlt⟩
    rw [hlv,lvC_set hj4]
    exact cntL
  ·have hnk:=hno (fun h=>hk h.1)
   rcases hact.k with h0|h0|h0
   ·rw [show y.deed = .iface 203 (.agg (List.toArray [intV y.a,intV y.b,intV y.h]))from by unfold MA.deed;rw [if_pos h0]]
    repeat (first|refine st ?_|refine qb fun bx=>?_)
    refine A0a ⟨i+1,u,oM,⟨Y,rg,?_⟩,Le.refl _,Y,hlt⟩
    rw [hnk]
    exact cntL
   ·rw [show y.deed = .iface 207 (.agg (List.toArray [intV y.h]))from by unfold MA.deed;rw [if_neg oM,if_neg hk]]
    repeat (first|refine st ?_|refine qb fun bx=>?_)
    refine A0a ⟨i+1,u,oM,⟨Y,rg,?_⟩,Le.refl _,Y,hlt⟩
    rw [hnk]
    exact cntL
   ·exact absurd h0 hk
 ·replace h:=fa h
  obtain rfl:i=a.length:=oM
  rw [List.take_length]
  repeat (first|refine st ?_|refine qb fun bx=>?_)
  refine A1k (α:=LiS) (fun z=>⟨[],[(53,.int .i64 z.i),(52,.agg (lvC (B3x d a))),(14,.slice z.a (B3z z.i d a).length z.cap)],z.sg⟩)
   (fun z w=>w=u∧z.i≤4∧OwnS 3 1 z.sg z.a (B3z z.i d a).length z.cap ((B3z z.i d a).map intV)) (fun z=>4-z.i) ⟨0,[],none,0⟩ ⟨Y,rg,cntL⟩ (Le.refl _) ⟨Y,Nat.zero_le _,.nil⟩ ?_
  rintro⟨i,sg,ag,cap⟩ w ⟨rfl,hi4,hS⟩
  simp only at hi4 hS
  dsimp only
  repeat (first|refine st ?_|refine qb fun bx=>?_)
  refine A0y Y (fun hlt=>?_) (fun hlt=>?_)
  ·simp only [decide_eq_true_eq]at hlt
   have hlt:i<4:=oM
   have hsu:=B4a i d a
   have hln:=B4b i d a
   repeat (first|refine st ?_|refine qb fun bx=>?_)
   refine Q_op fun ho=>A_indexA tab (j:=i) ho Y Y Y Y Y Y Y hlt (lvC_get hlt) ?_
   clear ho
   cases hb:B3x d a i with
   | false=>
    rw [hb,if_neg dM]at hsu
    repeat (first|refine st ?_|refine qb fun bx=>?_)
    refine A0a ⟨⟨i+1,sg,ag,cap⟩,w,by simp only;omega,⟨Y,?_,cntL⟩,Le.refl _,Y,hlt,?_⟩
    ·simp only [hsu]
     exact rg
    ·simp only [hsu];exact hS
   | true=>
    rw [hb,if_pos rfl]at hsu
    repeat (first|refine st ?_|refine qb fun bx=>?_)
    refine Q_op fun ho=>A3i tab ho Y Y Y Y Y Y Y Y Y (fun b3 c3 hL=>?_)
    clear ho
    refine Q_op fun ho=>A2r tab (xs:=[intV i]) sg [(b3,c3,3)] [] ho Y Y Y Y Y Y Y Y Y Y (show ∀p,Pal.cnt p ((b3,c3,3)::sg)=Pal.cnt p (sg++([(b3,c3,3)]++[]))from cntA) hS
     (fun hb=>RowAt.own hb cntL hL) Y Y (by show(2*((B3z i d a).length+1)+768)*8≤2^48;omega) oM (fun sg' a' cap' hS'=>?_)
    clear ho
    repeat (first|refine st ?_|refine qb fun bx=>?_)
    refine A0a ⟨⟨i+1,sg',a',cap'⟩,w,by simp only;omega,⟨Y,?_,cntL⟩,Le.refl _,Y,hlt,?_⟩
    ·simp only [hsu,List.length_append]
     exact rg
    ·simp only [hsu,List.length_append,List.map_append];exact hS'
  ·obtain rfl:i=4:=by simp only [decide_eq_false_iff_not]at hlt;omega
   repeat (first|refine st ?_|refine qb fun bx=>?_)
   refine A2l tab (by exact .tmp rfl (.tmp rfl .nil)) hl fun hb hle'=>?_
   exact⟨ag,cap,Y,RowAt.own hb (by exact cntL) hS⟩
end
end Go.Proofs.YtclejblcnfaeaaaGreat
end
section
namespace Go.Pal
open Go Go.Conc View
section
variable{P:Program}{mn:Who}(T:Tab P){rd:Option Nat}{n:Nat}{Q:Exit→St→View→Prop}{ds:List Deferred}{ρ:Regs}{β:A0f}{v:View}{K:St→View→Prop}
 {ops:Array Oper}{i:Nat}{d:Nat}{ty:TypeId}{pos:String}{af:Array Edge}{gu:Option (Nat×Bool)}
theorem sx_bounds2{n l' h':Nat}{k0 k1:IntKind}{KK:Nat×Nat×Nat→View→Prop}{E:Value→View→Prop}{w:View}(h1:l'≤h')(h2:h'≤n)(h:KK (l',h',n) w):SemX P (Instr.sliceBounds false n n (some (.int k0 l')) (some (.int k1 h')) none) KK E w:=by
 unfold Instr.sliceBounds
 dsimp only
 rw [A0b,A0h,A0b]
 refine A7v h2 ?_
 rw [A0b]
 refine A7v h1 ?_
 rw [A0h]
 exact h
include T in
theorem sx_sliceS{t:TypeId}{s:ByteArray}{l' h':Nat}{k0 k1:IntKind}{KK:Value→View→Prop}{E:Value→View→Prop}{w:View}(ht:T.und t=some .string)(h1:l'≤h')(h2:h'≤s.size)(h:KK (.string (s.extract l' h')) w) :
  SemX P (Instr.slice t (.string s) (some (.int k0 l')) (some (.int k1 h')) none) KK E w:=by
 unfold Instr.slice
 rw [A0b,A1h T ht]
 dsimp only
 rw [Option.isSome_none,if_neg dM]
 rw [A0b]
 refine sx_bounds2 h1 h2 ?_
 exact h
include T in
theorem A_sliceS{t:TypeId}{y z0 z1:Operand}{s:ByteArray}{l' h':Nat}{k0 k1:IntKind}(ho:ops[i]?=some ⟨some d,.slice t y (some z0) (some z1) none,ty,pos,af,gu⟩)(hw:A0r ops gu ρ=some true)(hn:Nat.blt d n=true)
  (hy:ρ.val y=some (.string s))(ht:T.und t=some .string)(hlo:ρ.val z0=some (.int k0 l'))(hhi:ρ.val z1=some (.int k1 h'))(h1:l'≤h')(h2:h'≤s.size)
  (h:K ⟨ds,(d,.string (s.extract l' h'))::ρ,β⟩ v):XOp P mn rd n ops i Q K ⟨ds,ρ,β⟩ v:=by
 refine A1u ho (A0l hw) (.inr Y) hn fun ev hev hbk=>?_
 unfold execOp
 simp only [Option.map_none,Option.map_some,Instr.sliceAt,hev _ _ hy,hev _ _ hlo,hev _ _ hhi,A0b,A1h T ht]
 refine sx_sliceS T ht h1 h2 ?_
 exact⟨β,v,⟨hbk,Le.refl _⟩,h⟩
end
end Go.Pal
end
section
namespace Go.Proofs.YtclejblcnfaeaaaGreat
open Go Go.Pal Go.Pal.To Go.Conc View
open Go.Proofs.Tryz
set_option maxHeartbeats 4000000
set_option maxRecDepth 20000
section
variable{mn:Who}{v:View}
theorem digitK_x{n:Nat}(hn:n<10):Ret1 prog mn 52 [intV n] (.string (chrB n)) v:=by
 refine A0d tab func52 Y nB (args:=[_]) ?_
 repeat (first|refine st ?_|refine qb fun bx=>?_)
 refine Q_op fun ho=>A_sliceS tab ho Y Y Y Y Y (show _=some (Value.int .i64 ((n+1:Nat):Int))from Y) oM (by show n+1≤10;omega) ?_
 clear ho
 repeat (first|refine st ?_|refine qb fun bx=>?_)
 refine A0g tab [] (by exact .tmp rfl .nil) (Back.here cntL) ?_
 refine⟨?_,Y⟩
 rcases (by omega:n=0∨n=1∨n=2∨n=3∨n=4∨n=5∨n=6∨n=7∨n=8∨n=9)with rfl|rfl|rfl|rfl|rfl|rfl|rfl|rfl|rfl|rfl<;>rfl
end
theorem ownInts_i{mn:Who}{v:View}{a:Option Addr}{cap:Nat}{xs:List Int}(hx:RowAt v a (xs.map intV))(hl:xs.length<2^30) :
  CallsB prog mn 51 #[.slice a xs.length cap] (RetB fun r β'=>∃a' cap',r = .slice a' xs.length cap'∧OwnS 3 1 β' a' xs.length cap' (xs.map intV)) [] v:=by
 refine A0d tab func51 Y nB (args:=[_]) ?_
 repeat (first|refine st ?_|refine qb fun bx=>?_)
 refine Q_op fun ho=>A3i tab ho Y Y Y Y Y Y Y Y Y (fun b2 c2 hS=>?_)
 repeat (first|refine st ?_|refine qb fun bx=>?_)
 refine Q_op fun ho=>A2r tab (xs:=xs.map intV) [(b2,c2,3)] [] [] ho Y Y Y Y Y Y Y Y Y Y (fun _=>rfl) hS
  (fun _=>hx.le (A0e _ _)) sM (by simp [List.all_eq_true,A2k]) oM oM (fun seg a' cap' hS'=>?_)
 repeat (first|refine st ?_|refine qb fun bx=>?_)
 refine A0g tab seg (by exact .tmp rfl .nil) (Back.here cntL) ?_
 rw [Nat.zero_add]at hS'
 exact⟨a',cap',by show Value.slice a' (0+xs.length) cap'=_;rw [Nat.zero_add],hS'⟩
theorem acts_take{v:View}{a:Option Addr}{l:List MA}(h:ActsAt v a l)(k cap:Nat)(hk:k≤l.length):ActsAt v (if cap=0 then a else a.map (·.add (0*4))) (l.take k):=by
 have h1:ActsAt v a (l.take k):=by
  rcases h with h|⟨b,off,p,c,e,f,h1,h2,h3,h4⟩
  ·have hl:l=[]:=by
    cases l with
    | nil=>rfl
    | cons x l=>simp [MA.cells]at h
   subst hl
   exact .inl sM
  ·refine .inr ⟨b,off,p,c,e,f,h1,h2,?_,fun i x hi=>?_⟩
   ·have:((l.take k).map MA.cells).flatten.length≤(l.map MA.cells).flatten.length:=by
     conv=>rhs;rw [←List.take_append_drop k l,List.map_append,List.flatten_append,List.length_append]
     omega
    omega
   ·refine h4 i x ?_
    conv=>lhs;rw [←List.take_append_drop k l,List.map_append,List.flatten_append]
    rw [List.getElem?_append_left (List.getElem?_eq_some_iff.1 hi).1]
    exact hi
 split
 ·exact h1
 ·rcases h1 with h1|⟨b,off,p,c,e,f,h1,h2⟩
  ·exact .inl h1
  ·refine .inr ⟨b,off,p,c,e,f,?_,h2⟩
   rw [h1]
   simp [Addr.add]
theorem own_one{e:TypeId}{k:Nat}{seg:A0f}{a:Option Addr}{len cap:Nat}{cs:List Value}(h:OwnS e k seg a len cap cs)(hn:1≤len):∃b c,a=some ⟨b,0,none⟩∧seg=[(b,c,e)]:=by
 rcases h.two with ⟨_,_,h0,_,_⟩|⟨b,c,h1,h2,_⟩
 ·omega
 ·exact⟨b,c,h2,h1⟩
theorem XS_re{P:Program}{mn:Who}{n:Nat}{Q:Exit→St→View→Prop}{ops:Array Oper}{S:List Rec}{done ms todo todo':List Nat}{v0 v:View}{σ:St}(h:XS P mn n ops ms v0 Q todo S done σ v)(ht:todo.length=todo'.length):XS P mn n ops ms v0 Q todo' S done σ v:=fun a hf hb hv hc=>by
 have hx:=h a hf hb hv hc
 rw [ht]at hx
 exact hx
structure HhS where
 i:Nat
 co:Array Value
 cl:Array Value
theorem thl_run{v:View}{a0:Option Addr}{cap0:Nat}{ns:List Int}(hns:RowAt v a0 (ns.map (.int .i64))):Run prog ⟨true,true⟩ (AtTop 9 2) v (G (Frame.enter prog 9 (List.toArray [.slice a0 ns.length cap0]) .normal) []):=by
 refine top_run func9 Y nB ?_
 repeat (first|refine st ?_|refine qb fun bx=>?_)
 refine Q_op fun ho=>A0k [] _ ho bod18 Y Y Y Y Y A6z (newBag_x) (fun x β' hR=>?_)
 clear ho
 obtain⟨bg,rfl,hB⟩:=hR
 repeat (first|refine st ?_|refine qb fun bx=>?_)
 refine Q_op fun ho=>A0k β' [] ho bod19 Y Y Y Y Y cntA (mornOf_z (hns.le (A0e _ _)) hB dM) (fun x β' hR=>?_)
 clear ho
 obtain⟨P,d,aD,cD,n1,βb,seg,rfl,rfl,hB1,hn1,hS,hM,hP2⟩:=hR
 obtain⟨pn,rfl⟩:∃n:Nat,P=n:=⟨P.toNat,oM⟩
 refine A8d (β1:=seg) (β2:=βb) cntA (fun hbk=>?_)
 have rD:=RowAt.own hbk (by exact cntL) hS
 replace hns:=hns.le (A0e v (A0c seg))
 clear hbk
 generalize v.union (A0c seg)=v1 at *
 clear hS
 repeat (first|refine st ?_|refine qb fun bx=>?_)
 obtain⟨b4,rfl⟩:∃x:Nat,x=bx:=⟨bx,rfl⟩
 rw [putV_mo]
 refine Q_op fun ho=>A0k βb [(b4,(moV pn aD d.length cD).cells,24)] ho bod42 Y Y Y Y Y cntA (bookOf_z (g:=Bg.mk bg a0 cap0 ns) (N:=8) (RowAt.le hns (A0e _ _)) hB1 oM (rD.le (A0e _ _)) hM hP2 dM) (fun x β' hR=>?_)
 clear ho
 obtain⟨l,aA,cA,n2,βb2,seg2,rfl,rfl,hB2,hn2,hS2,hl8,hacts⟩:=hR
 have hcA:=hS2.cap
 refine A8d (β1:=seg2) (β2:=(b4,(moV pn aD d.length cD).cells,24)::βb2) cntA (fun hbk=>?_)
 have rA:ActsAt _ aA l:=RowAt.own hbk (by exact cntL) hS2
 replace rD:=rD.le (A0e v1 (A0c seg2))
 clear hbk hns
 generalize v1.union (A0c seg2)=v2 at *
 clear hS2 hB2
 have hOk:HOk pn d l:=⟨hM,hl8,hacts⟩
 have hdl:=hM.len
 have hpp:=hM.p
 repeat (first|refine st ?_|refine qb fun bx=>?_)
 refine Q_op fun ho=>A1r ho bod49 Y Y Y Y Y (hold_ok (cD:=cD) (cA:=cA) rD rA hOk) (fun x w hl hx=>?_)
 clear ho
 replace rD:=rD.le hl
 replace rA:=rA.le hl
 clear hl
 obtain⟨ar,cR,ad,cd,rfl,rr,rd⟩:=hx
 repeat (first|refine st ?_|refine qb fun bx=>?_)
 refine Q_op fun ho=>A1r ho bod50 Y Y Y Y Y (liars_x (cD:=cD) (cA:=cA) rD rA hOk) (fun x w hl hx=>?_)
 clear ho
 replace rD:=rD.le hl
 replace rA:=rA.le hl
 replace rr:=rr.le hl
 replace rd:=rd.le hl
 clear hl
 obtain⟨al,cl,rfl,rl⟩:=hx
 repeat (first|refine st ?_|refine qb fun bx=>?_)
 rw [show((l.length:Int) != (l.length:Int))=false from by simp]
 repeat (first|refine st ?_|refine qb fun bx=>?_)
 refine C_cutS (fun σ u=>u=w∧∃bo co cao bl cb,OwnS 3 1 [(bo,co,3)] (some ⟨bo,0,none⟩) d.length cao (d.map intV)∧cb.size=pn∧(∀j,j<pn→cb[j]?=some (.bool false))∧σ=⟨[],[(11,.slice (some ⟨bo,0,none⟩) d.length cao),(12,.slice (some ⟨bl,0,none⟩) pn pn),(4,.pointer (some ⟨b4,0,none⟩)),(5,.slice aA l.length cA),(6,.slice ar l.length cR),(7,.slice ad d.length cd),(9,.slice al (B3z 4 d l).length cl)],[(b4,(moV pn aD d.length cD).cells,24),(bo,co,3),(bl,cb,4)]⟩) ?_ ?_
 ·rintro σ u ⟨rfl,bo,co,cao,bl,cb,hO,hcs,hcz,rfl⟩
  repeat (first|refine st ?_|refine qb fun bx=>?_)
  refine A1k (α:=HhS) (fun z=>⟨[],[(13,.int .i64 z.i),(11,.slice (some ⟨bo,0,none⟩) d.length cao),(12,.slice (some ⟨bl,0,none⟩) pn pn),(4,.pointer (some ⟨b4,0,none⟩)),(5,.slice aA l.length cA),(6,.slice ar l.length cR),(7,.slice ad d.length cd),(9,.slice al (B3z 4 d l).length cl)],[(b4,(moV pn aD d.length cD).cells,24),(bo,z.co,3),(bl,z.cl,4)]⟩)
   (fun z y=>u.Le y∧z.i≤l.length∧OwnS 3 1 [(bo,z.co,3)] (some ⟨bo,0,none⟩) d.length cao ((A3r d (l.take z.i)).map intV)∧z.cl.size=pn∧∀j:Nat,j<pn→z.cl[j]?=some (.bool (B3x d (l.take z.i) j))) (fun z=>l.length-z.i) ⟨0,co,cb⟩ ⟨Y,rg,cntL⟩ (Le.refl _) ⟨Le.refl _,Nat.zero_le _,hO,hcs,hcz⟩ ?_
  clear hO hcs hcz
  rintro⟨i,co,cb⟩ y ⟨huy,hi,hO,hcs,hcz⟩
  simp only at hi hO hcs hcz
  dsimp only
  repeat (first|refine st ?_|refine qb fun bx=>?_)
  refine A0y Y (fun hlt=>?_) (fun hlt=>?_)
  ·simp only [decide_eq_true_eq]at hlt
   have hlt:i<l.length:=oM
   have hti:(l.take i).length=i:=by rw [List.length_take];omega
   have hOki:HOk pn d (l.take i):=⟨hM,oM,fun x hx=>hacts x (List.mem_of_mem_take hx)⟩
   repeat (first|refine st ?_|refine qb fun bx=>?_)
   refine A1d [4] [0,1,2,3,4,5,6,7,8,9,10,11] A1f Y kR ?_
   repeat (first|refine st ?_|refine qb fun bx=>?_)
   refine S_slice_h tab (h':=i) Y Y Y kR Y Y Y Y oM ?_
   repeat (first|refine st ?_|refine qb fun bx=>?_)
   refine S_do kR (A1r Y bod49 Y Y Y Y Y (show CallV _ _ 49 [moV pn aD d.length cD,.slice (if cA=0 then aA else aA.map (·.add (0*4))) (i-0) (cA-0)] _ _ from by
    have:=hold_ok (mn:=⟨true,true⟩) (cD:=cD) (cA:=cA) (rD.le huy) (acts_take (rA.le huy) i cA hi) hOki
    rw [hti]at this
    exact this) (fun x z hl hx=>⟨hl,kp,?_⟩))
   replace huy:=huy.trans hl
   clear hl
   obtain⟨ax,cx,ay,cy,rfl,_,ry⟩:=hx
   repeat (first|refine st ?_|refine qb fun bx=>?_)
   have hdd:(A3r d (l.take i)).length=d.length:=A6m _ _
   refine Q_op fun ho=>A0k [(bo,co,3)] [(b4,(moV pn aD d.length cD).cells,24),(bl,cb,4)] ho bod39 Y Y Y Y Y cntA (Ret1.box (fun hb=>show Ret1 _ _ _ _ (.bool true) _ from by
    have:=B0h (mn:=⟨true,true⟩) (cA:=cy) (cB:=cao) ((ry.le (A0e _ _)).le (A0e _ _)) (RowAt.own hb (fun p=>Nat.le_refl _) hO) oM oM
    rw [hdd]at this
    exact A6h this)) (fun x β' hR=>?_)
   clear ho
   obtain⟨rfl,rfl⟩:=hR
   obtain⟨bb,off,p,c,e,f,rfl,hv,hc⟩:=(rA.le huy).get hlt
   have hact:=hacts _ (List.getElem_mem hlt)
   have hri:i<(A9c d l).length:=by rw [B0j];exact hlt
   obtain⟨b1,o1,p1,c1,e1,f1,rfl,hv1,hc1⟩:=(rr.le huy).get hri
   have hg:(A9c d l)[i]=B2p (A3r d (l.take i)) l[i]:=by
    have:=B3w (os:=d) hlt
    rw [List.getElem?_eq_some_iff]at this
    exact this.2
   have hci:=hc i hlt
   have hci1:=hc1 i hri
   rw [hg]at hci1
   have htk:l.take (i+1)=l.take i++[l[i]]:=List.take_succ_eq_append_getElem hlt
   have hds:A3r d (l.take (i+1))=doN (A3r d (l.take i)) l[i]:=by rw [htk,duskOf_snoc]
   have hls:∀p,B3x d (l.take (i+1)) p=(B3x d (l.take i) p||lied (A3r d (l.take i)) l[i] p):=fun p=>by rw [htk,B3y]
   have hina:=duskOf_in (l:=l.take i) (N:=d.length) hM.all fun x hx=>hacts x (List.mem_of_mem_take hx)
   generalize l[i]=y0 at hact hci hci1 hls hds
   generalize A3r d (l.take i)=os at hO hds hls hci1 hdd hina
   obtain⟨yk,ya,yb,yh⟩:=y0
   rw [show(MA.cells ⟨yk,ya,yb,yh⟩).toArray=List.toArray [intV yk,intV ya,intV yb,intV yh]from rfl]at hci
   repeat (first|refine st ?_|refine qb fun bx=>?_)
   refine A4j tab i Y Y Y Y Y Y Y hlt ?_
   refine A1w tab Y Y Y hv (A1i tab Y Y Y hci) ?_
   repeat (first|refine sr ?_|refine qb fun bx=>?_)
   refine A5l (fun σ x=>x=z∧∃co' cb',OwnS 3 1 [(bo,co',3)] (some ⟨bo,0,none⟩) d.length cao ((A3r d (l.take (i+1))).map intV)∧cb'.size=pn∧(∀j:Nat,j<pn→cb'[j]?=some (.bool (B3x d (l.take (i+1)) j)))∧σ=⟨[],[(18,.string (B2p os ⟨yk,ya,yb,yh⟩)),(13,.int .i64 i),(11,.slice (some ⟨bo,0,none⟩) d.length cao),(12,.slice (some ⟨bl,0,none⟩) pn pn),(4,.pointer (some ⟨b4,0,none⟩)),(5,.slice (some ⟨bb,off,none⟩) l.length cA),(6,.slice (some ⟨b1,o1,none⟩) l.length cR),(7,.slice ad d.length cd),(9,.slice al (B3z 4 d l).length cl)],[(b4,(moV pn aD d.length cD).cells,24),(bo,co',3),(bl,cb',4)]⟩) ?_ ?_
   ·rintro σ x ⟨rfl,co',cb',hO',hcs',hcz',rfl⟩
    repeat (first|refine st ?_|refine qb fun bx=>?_)
    refine A4j tab i Y Y Y Y Y Y Y hlt ?_
    refine A1w tab Y Y Y hv1 (A0j tab Y Y Y (by rw [Nat.mul_one];exact hci1)) ?_
    repeat (first|refine st ?_|refine qb fun bx=>?_)
    rw [show((B2p os ⟨yk,ya,yb,yh⟩).toList==(B2p os ⟨yk,ya,yb,yh⟩).toList)=true from beq_self_eq_true _]
    repeat (first|refine st ?_|refine qb fun bx=>?_)
    exact A0a ⟨⟨i+1,co',cb'⟩,x,by simp only;omega,⟨Y,rg,cntL⟩,Le.refl _,huy,hlt,hO',hcs',hcz'⟩
   ·have hh:=hact.h
    have hk:=hact.k
    have hab:=hact.ab
    simp only at hh hk hab
    obtain⟨hN,rfl⟩:=Int.eq_ofNat_of_zero_le hh.1
    have hNd:hN<os.length:=oM
    have hNd':hN<d.length:=oM
    have hcell:co[hN]?=some (intV (ow os hN)):=by
     cases hO with
     | box _ _ _ h4=>exact h4 hN _ (by rw [List.getElem?_map,List.getElem?_eq_getElem hNd,ow_get hNd];rfl)
    have hsold:=sold_iff (os:=os) (x:=⟨yk,ya,yb,(hN:Int)⟩) (by simp only;omega)
    have hown:ownH os (hN:Int)=ow os hN:=rfl
    simp only [hown]at hsold
    have hin:=hina (ow os hN) (by rw [ow_get hNd];exact List.getElem_mem hNd)
    rcases hk with rfl|rfl|rfl
    ·have hl0:∀p,B3x d (l.take (i+1)) p=B3x d (l.take i) p:=fun p=>by rw [hls,B4c (fun e=>by cases e.1),Bool.or_false]
     simp only [true_and]at hsold
     repeat (first|refine st ?_|refine qb fun bx=>?_)
     refine A1l tab hN Y Y Y Y Y Y Y hNd' ?_
     refine A1j tab Y Y Y ib (A0j tab Y Y Y (by rw [Nat.mul_one,Nat.zero_add];exact hcell)) ?_
     repeat (first|refine st ?_|refine qb fun bx=>?_)
     by_cases ho:ow os hN=ya
     ·rw [show(ow os hN==ya)=true from by simpa using ho]
      have hset:=ownS_set1 (intV yb) hO hNd'
      have hoff:0+hN*1=hN:=oM
      repeat (first|refine st ?_|refine qb fun bx=>?_)
      refine A1d [7] [0,1,2,3,4,5,6,7] A1f Y kR ?_
      repeat (first|refine st ?_|refine qb fun bx=>?_)
      refine A0q tab hN Y Y Y kR Y Y Y Y Y hNd' ?_
      refine S_do kR (A1a tab (c:=co) (x:=intV yb) Y Y Y Y Y Y Y ib (Nat.ble_eq_true_of_le (by rw [hoff];exact hset.2)) sb ⟨Le.refl _,kp,?_⟩)
      repeat (first|refine st ?_|refine qb fun bx=>?_)
      have hrp:B2p os ⟨0,ya,yb,hN⟩=⟨#[111,107]⟩:=by unfold B2p;rw [if_pos Y,if_pos (hsold.2 ho)]
      rw [hrp]
      refine A0a ⟨_,_,⟨Y,A0x co (0+hN*1) (intV yb).cells.toList,cb,?_,hcs,fun j hj=>by rw [hl0];exact hcz j hj,Y⟩,⟨Y,rg,cntL⟩,Le.refl _⟩
      rw [hoff,hds]
      have:=hset.1
      rw [←List.map_set]at this
      unfold doN
      rw [if_pos (hsold.2 ho)]
      exact this
     ·rw [show(ow os hN==ya)=false from by simpa using ho]
      have hns:¬sold os ⟨0,ya,yb,hN⟩=true:=fun e=>ho (hsold.1 e)
      have hrp:B2p os ⟨0,ya,yb,hN⟩=⟨#[110,111]⟩:=by unfold B2p;rw [if_pos Y,if_neg hns]
      rw [hrp]
      repeat (first|refine st ?_|refine qb fun bx=>?_)
      refine A0a ⟨_,_,⟨Y,co,cb,?_,hcs,fun j hj=>by rw [hl0];exact hcz j hj,Y⟩,⟨Y,rg,cntL⟩,Le.refl _⟩
      rw [hds]
      unfold doN
      rw [if_neg hns]
      exact hO
    ·have hl0:∀p,B3x d (l.take (i+1)) p=B3x d (l.take i) p:=fun p=>by rw [hls,B4c (fun e=>by cases e.1),Bool.or_false]
     have hds0:A3r d (l.take (i+1))=os:=by rw [hds];rfl
     obtain⟨on,hon,hon4⟩:∃n:Nat,ow os hN=n∧n<10:=⟨(ow os hN).toNat,oM,oM⟩
     have hrp:B2p os ⟨1,ya,yb,hN⟩=chrB on:=by unfold B2p chrB;rw [if_neg (show ¬(1:Int)=0 by decide),if_neg (show ¬(1:Int)=2 by decide),hown,hon]
     rw [hrp]
     rw [hon]at hcell
     repeat (first|refine st ?_|refine qb fun bx=>?_)
     refine A4j tab hN Y Y Y Y Y Y Y hNd' ?_
     refine Q_loadB tab Y Y Y ib (A0j tab Y Y Y (by rw [Nat.mul_one,Nat.zero_add];exact hcell)) ?_
     refine Q_op fun ho=>A0t ho bod52 Y Y Y Y Y (digitK_x hon4) ?_
     clear ho
     repeat (first|refine st ?_|refine qb fun bx=>?_)
     exact A0a ⟨_,_,⟨Y,co,cb,by rw [hds0];exact hO,hcs,fun j hj=>by rw [hl0];exact hcz j hj,Y⟩,⟨Y,rg,cntL⟩,Le.refl _⟩
    ·have hds0:A3r d (l.take (i+1))=os:=by rw [hds];rfl
     repeat (first|refine st ?_|refine qb fun bx=>?_)
     refine A1l tab hN Y Y Y Y Y Y Y hNd' ?_
     refine A1j tab Y Y Y ib (A0j tab Y Y Y (by rw [Nat.mul_one,Nat.zero_add];exact hcell)) ?_
     repeat (first|refine st ?_|refine qb fun bx=>?_)
     by_cases ho:ow os hN=yb
     ·rw [show(ow os hN != yb)=false from by simpa using ho]
      have hrp:B2p os ⟨2,ya,yb,hN⟩=⟨#[115,111]⟩:=by unfold B2p;rw [if_neg (show ¬(2:Int)=0 by decide),if_pos Y,hown,if_pos ho]
      rw [hrp]
      have hl0:∀p,B3x d (l.take (i+1)) p=B3x d (l.take i) p:=fun p=>by rw [hls,B4c (x:=⟨2,ya,yb,(hN:Int)⟩) (fun e=>e.2 ho),Bool.or_false]
      repeat (first|refine st ?_|refine qb fun bx=>?_)
      exact A0a ⟨_,_,⟨Y,co,cb,by rw [hds0];exact hO,hcs,fun j hj=>by rw [hl0];exact hcz j hj,Y⟩,⟨Y,rg,cntL⟩,Le.refl _⟩
     ·rw [show(ow os hN != yb)=true from by simpa using ho]
      have hrp:B2p os ⟨2,ya,yb,hN⟩=⟨#[110,111,116]⟩:=by unfold B2p;rw [if_neg (show ¬(2:Int)=0 by decide),if_pos Y,hown,if_neg ho]
      rw [hrp]
      have hab1:=(hab dM).1
      obtain⟨j,rfl⟩:=Int.eq_ofNat_of_zero_le hab1.1
      have hjp:j<pn:=oM
      have hoff:0+j*1=j:=oM
      repeat (first|refine st ?_|refine qb fun bx=>?_)
      refine A1d [5] [0,1,2,3,4,5] A1f Y kR ?_
      repeat (first|refine st ?_|refine qb fun bx=>?_)
      refine A0q tab j Y Y Y kR Y Y Y Y Y hjp ?_
      refine S_do kR (A1a tab (c:=cb) (x:=.bool true) Y Y Y Y Y Y Y ib (Nat.ble_eq_true_of_le (by rw [hoff,hcs];exact hjp)) sb ⟨Le.refl _,kp,?_⟩)
      repeat (first|refine st ?_|refine qb fun bx=>?_)
      refine A0a ⟨_,_,⟨Y,co,A0x cb (0+j*1) (Value.bool true).cells.toList,by rw [hds0];exact hO,by rw [A3e,hcs],fun j' hj'=>?_,Y⟩,⟨Y,rg,cntL⟩,Le.refl _⟩
      rw [hls,lied_of (x:=⟨2,(j:Int),yb,(hN:Int)⟩) Y ho,hoff,show(Value.bool true).cells.toList=[.bool true]from Y,A7t (by rw [hcs];exact hjp)]
      by_cases e:j'=j
      ·subst e
       rw [if_pos sM,Nat.sub_self]
       simp
      ·rw [if_neg (by simp only [List.length_singleton];omega),hcz j' hj']
       have:((j:Int)==(j':Int))=false:=by rw [beq_eq_false_iff_ne];omega
       simp only [this,Bool.or_false]
  ·simp only [decide_eq_false_iff_not]at hlt
   obtain rfl:i=l.length:=oM
   rw [List.take_length]at hO
   simp only [List.take_length]at hcz
   have hl4:B3z 4 d l=B3z pn d l:=by
    have:=liarsL_le (P:=pn) (N:=d.length) (os:=d) (n:=pn) hacts (Int.le_refl _) (4-pn)
    rwa [show pn+(4-pn)=4 by omega]at this
   repeat (first|refine st ?_|refine qb fun bx=>?_)
   refine A1k (α:=LiS) (fun z=>⟨[],[(20,.int .i64 z.i),(19,.slice z.a (B3z z.i d l).length z.cap),(11,.slice (some ⟨bo,0,none⟩) d.length cao),(12,.slice (some ⟨bl,0,none⟩) pn pn),(4,.pointer (some ⟨b4,0,none⟩)),(7,.slice ad d.length cd),(9,.slice al (B3z 4 d l).length cl)],(b4,(moV pn aD d.length cD).cells,24)::(bo,co,3)::(bl,cb,4)::z.sg⟩)
    (fun z w=>w=y∧z.i≤pn∧OwnS 3 1 z.sg z.a (B3z z.i d l).length z.cap ((B3z z.i d l).map intV)) (fun z=>pn-z.i) ⟨0,[],none,0⟩ ⟨Y,rg,cntL⟩ (Le.refl _) ⟨Y,Nat.zero_le _,.nil⟩ ?_
   rintro⟨i,sg,ag,cap⟩ w ⟨rfl,hip,hS⟩
   simp only at hip hS
   dsimp only
   repeat (first|refine st ?_|refine qb fun bx=>?_)
   refine A0y Y (fun hlt=>?_) (fun hlt=>?_)
   ·simp only [decide_eq_true_eq]at hlt
    have hlt:i<pn:=oM
    have hsu:=B4a i d l
    have hln:=B4b i d l
    have hci:=hcz i hlt
    repeat (first|refine st ?_|refine qb fun bx=>?_)
    refine A4j tab i Y Y Y Y Y Y Y hlt ?_
    refine Q_loadB tab Y Y Y ib (A0j tab Y Y Y (by rw [Nat.mul_one,Nat.zero_add];exact hci)) ?_
    cases hb:B3x d l i with
    | false=>
     rw [hb,if_neg dM]at hsu
     repeat (first|refine st ?_|refine qb fun bx=>?_)
     refine A0a ⟨⟨i+1,sg,ag,cap⟩,w,by simp only;omega,⟨Y,?_,cntL⟩,Le.refl _,Y,hlt,?_⟩
     ·simp only [hsu]
      exact rg
     ·simp only [hsu];exact hS
    | true=>
     rw [hb,if_pos rfl]at hsu
     repeat (first|refine st ?_|refine qb fun bx=>?_)
     refine Q_op fun ho=>A3i tab ho Y Y Y Y Y Y Y Y Y (fun b3 c3 hL=>?_)
     clear ho
     refine Q_op fun ho=>A2r tab (xs:=[intV i]) sg [(b3,c3,3)] [(b4,(moV pn aD d.length cD).cells,24),(bo,co,3),(bl,cb,4)] ho Y Y Y Y Y Y Y Y Y Y (show ∀p,Pal.cnt p ((b3,c3,3)::(b4,(moV pn aD d.length cD).cells,24)::(bo,co,3)::(bl,cb,4)::sg)=Pal.cnt p (sg++([(b3,c3,3)]++[(b4,(moV pn aD d.length cD).cells,24),(bo,co,3),(bl,cb,4)]))from cntA) hS
      (fun hb=>RowAt.own hb cntL hL) Y Y (by show(2*((B3z i d l).length+1)+768)*8≤2^48;omega) oM (fun sg' a' cap' hS'=>?_)
     clear ho
     repeat (first|refine st ?_|refine qb fun bx=>?_)
     refine A0a ⟨⟨i+1,sg',a',cap'⟩,w,by simp only;omega,⟨Y,?_,cntL⟩,Le.refl _,Y,hlt,?_⟩
     ·simp only [hsu,List.length_append]
      exact rg
     ·simp only [hsu,List.length_append,List.map_append];exact hS'
   ·obtain rfl:i=pn:=by simp only [decide_eq_false_iff_not]at hlt;omega
    have hdd:(A3r d l).length=d.length:=A6m _ _
    have hln:=B4b i d l
    repeat (first|refine st ?_|refine qb fun bx=>?_)
    refine Q_op fun ho=>A0k [(bo,co,3)] ((b4,(moV i aD d.length cD).cells,24)::(bl,cb,4)::sg) ho bod39 Y Y Y Y Y cntA (Ret1.box (fun hb=>show Ret1 _ _ _ _ (.bool true) _ from by
     have:=B0h (mn:=⟨true,true⟩) (cA:=cd) (cB:=cao) (((rd.le huy).le (A0e _ _)).le (A0e _ _)) (RowAt.own hb (fun p=>Nat.le_refl _) hO) oM oM
     rw [hdd]at this
     exact A6h this)) (fun x β' hR=>?_)
    clear ho
    obtain⟨rfl,rfl⟩:=hR
    repeat (first|refine st ?_|refine qb fun bx=>?_)
    refine Q_op fun ho=>A0k sg [(b4,(moV i aD d.length cD).cells,24),(bo,co,3),(bl,cb,4)] ho bod39 Y Y Y Y Y cntA (Ret1.box (fun hb=>show Ret1 _ _ _ _ (.bool true) _ from by
     rw [hl4]at rl⊢
     exact A6h (B0h (mn:=⟨true,true⟩) (cA:=cl) (cB:=cap) (((rl.le huy).le (A0e _ _)).le (A0e _ _)) (RowAt.own hb (fun p=>Nat.le_refl _) hS) oM oM))) (fun x β' hR=>?_)
    clear ho
    obtain⟨rfl,rfl⟩:=hR
    repeat (first|refine st ?_|refine qb fun bx=>?_)
    refine Q_op fun ho=>A0t ho bod17 Y Y Y Y Y held_x ?_
    clear ho
    repeat (first|refine st ?_|refine qb fun bx=>?_)
    exact⟨Y,Y,Y⟩
 ·refine A1d [2,5] [0,1,3,4,2,5,6,7] A1f Y kR ?_
  repeat (first|refine st ?_|refine qb fun bx=>?_)
  refine S_two 5 kR (A0k [] _ Y bod51 Y Y Y Y Y A6z (ownInts_i (rD.le (A0e _ _)) oM) (fun r1 β1 hR1=>⟨Le.refl _,kp,?_⟩)) (A_make tab (m:=pn) (x:=undef) Y Y Y Y Y Y Y Y Y Y oM oM (fun bl cb hcs hcz=>⟨Le.refl _,kp,?_⟩))
  ·obtain⟨ao,cao,rfl,hO⟩:=hR1
   refine XS_re (todo:=[6,5,7]) ?_ Y
   repeat (first|refine st ?_|refine qb fun bx=>?_)
   refine S_do kR (A_make tab (m:=pn) (x:=undef) Y Y Y Y Y Y Y Y Y Y oM oM (fun bl cb hcs hcz=>⟨Le.refl _,kp,?_⟩))
   repeat (first|refine st ?_|refine qb fun bx=>?_)
   obtain⟨bo,co,rfl,rfl⟩:=own_one hO oM
   exact A0a ⟨_,_,⟨Y,bo,co,cao,bl,cb,hO,by rw [hcs,Nat.mul_one],fun j hj=>by rw [hcz j oM,show(Value.bool false).cells.size=1 from Y,Nat.mod_one];rfl,Y⟩,⟨Y,rg,cntL⟩,Le.refl _⟩
  ·repeat (first|refine st ?_|refine qb fun bx=>?_)
   refine S_do kR (A0k [] _ Y bod51 Y Y Y Y Y A6z (ownInts_i (rD.le (A0e _ _)) oM) (fun r1 β1 hR1=>⟨Le.refl _,kp,?_⟩))
   obtain⟨ao,cao,rfl,hO⟩:=hR1
   repeat (first|refine st ?_|refine qb fun bx=>?_)
   obtain⟨bo,co,rfl,rfl⟩:=own_one hO oM
   exact A0a ⟨_,_,⟨Y,bo,co,cao,bl,cb,hO,by rw [hcs,Nat.mul_one],fun j hj=>by rw [hcz j oM,show(Value.bool false).cells.size=1 from Y,Nat.mod_one];rfl,Y⟩,⟨Y,rg,cntL⟩,Le.refl _⟩
end Go.Proofs.YtclejblcnfaeaaaGreat
end
section
namespace Go.Proofs.YtclejblcnfaeaaaGreat
open Go Go.ChangeShapes
theorem B3v{a b:Bool}(ha:a=true)(hb:b=true):(a&&b)=true:=by rw [ha,hb];rfl
theorem j9_0:(Rows.tollHeldRow.wf (OpenSpec.ofChange Rows.tollHeldSpec))=true:=by kernel_rfl
theorem j9_1:(laidOutB Tryz.prog)=true:=by kernel_rfl
theorem j9_2:(mapsRowed Tryz.prog)=true:=by kernel_rfl
theorem j9_3:(Tryz.f9.params.all (Tryz.prog.readableRec ·))=true:=by kernel_rfl
theorem j9_4:(namedTie Tryz.prog Rows.tollHeldRow.named Rows.tollHeldSpec.vars)=true:=by kernel_rfl
theorem j9_5:((Rows.tollHeldRow.stops == []))=true:=by kernel_rfl
theorem j9_6:((Tryz.prog.stops == []))=true:=by kernel_rfl
theorem j9_7:((Rows.tollHeldRow.knobs == []))=true:=by kernel_rfl
theorem j9_8:((Tryz.prog.stopKnobs == []))=true:=by kernel_rfl
theorem j9_9:((Rows.tollHeldRow.inPlace==Tryz.prog.inPlace 9))=true:=by kernel_rfl
theorem j9_10:((Rows.tollHeldRow.unfollowed==Tryz.prog.unfollowed 9))=true:=by kernel_rfl
theorem j9_11:((Rows.tollHeldRow.recurses==Tryz.prog.recurses 9))=true:=by kernel_rfl
theorem j9_12:((Rows.tollHeldRow.named==Tryz.prog.varsNamed 9))=true:=by kernel_rfl
theorem j9_13:((Rows.tollHeldRow.maps==(Tryz.f9.params.toList++Rows.tollHeldSpec.plain.varTypes Tryz.prog).any (Tryz.prog.mapsRec ·)))=true:=by kernel_rfl
theorem j9_14:((Rows.tollHeldRow.ifaces==(Tryz.f9.params.toList++Rows.tollHeldSpec.plain.varTypes Tryz.prog).any (Tryz.prog.ifacesRec ·)))=true:=by kernel_rfl
theorem j9_15:((Rows.tollHeldRow.mapsOut==Tryz.prog.mapsAmong Tryz.f9.resultTypes.toList))=true:=by kernel_rfl
theorem j9_16:((Rows.tollHeldRow.loops==(Tryz.f9.params.toList++Rows.tollHeldSpec.plain.varTypes Tryz.prog).any (Tryz.prog.loopsFrom ·)))=true:=by kernel_rfl
theorem j9_17:((Rows.tollHeldRow.wideKeys==(Tryz.f9.params.toList++Rows.tollHeldSpec.plain.varTypes Tryz.prog++Tryz.f9.resultTypes.toList).any (Tryz.prog.wideKeysFrom ·)))=true:=by kernel_rfl
theorem j9_18:(Rows.tollHeldSpec.vars.all (Tryz.prog.varReadable ·))=true:=by kernel_rfl
theorem j9_19:(Tryz.f9.resultTypes.all (fun t=>Tryz.prog.readableRec t&&decide (t<Tryz.prog.types.size)))=true:=by kernel_rfl
theorem j9_20:((Rows.tollHeldRow.ifacesOut==Tryz.f9.resultTypes.toList.any (Tryz.prog.ifacesRec ·)))=true:=by kernel_rfl
theorem j9_21:((Rows.tollHeldRow.loopsOut==Tryz.f9.resultTypes.toList.any (Tryz.prog.loopsFrom ·)))=true:=by kernel_rfl
theorem j9_22:((Rows.tollHeldRow.plainKeys==Tryz.prog.plainKeys))=true:=by kernel_rfl
theorem j9_23:(Rows.tollHeldRow.shortTexts.isNone)=true:=by kernel_rfl
theorem j9_24:(Tryz.prog.stopsHeard)=true:=by kernel_rfl
theorem j9_25:(Tryz.prog.mayEnter)=true:=by kernel_rfl
theorem j9_26:((Rows.tollHeldRow.lifted==Tryz.prog.liftsFinal))=true:=by kernel_rfl
theorem j9_27:((Tryz.prog.make==some Rows.tollHeldRow.make))=true:=by kernel_rfl
theorem j9_28:((Rows.tollHeldRow.kinds==(if Rows.tollHeldRow.domain.isEmpty then []else Tryz.f9.params.toList.map fun t=>match Tryz.prog.underlying t with|some (.int k)=>some k|_=>none)))=true:=by kernel_rfl
theorem j9_29:((Rows.tollHeldRow.pinned==Rows.tollHeldRow.pinnedBy))=true:=by kernel_rfl
theorem j9_30:((Rows.tollHeldRow.veiled==(Tryz.f9.params.toList++Rows.tollHeldSpec.plain.varTypes Tryz.prog++Tryz.f9.resultTypes.toList).any (Tryz.prog.veiledRec ·)))=true:=by kernel_rfl
theorem j9_31:(Rows.tollHeldRow.veiledFits Tryz.prog Tryz.f9.params.toList (Tryz.f9.params.toList++Rows.tollHeldSpec.plain.varTypes Tryz.prog++Tryz.f9.resultTypes.toList))=true:=by kernel_rfl
set_option maxRecDepth 100000 in
theorem j9:joinedFacts Tryz.prog 9 Tryz.f9 Rows.tollHeldSpec Rows.tollHeldRow=true:=B3v (B3v (B3v (B3v (B3v (B3v (B3v (B3v (B3v (B3v (B3v (B3v (B3v (B3v (B3v (B3v (B3v (B3v (B3v (B3v (B3v (B3v (B3v (B3v (B3v (B3v (B3v (B3v (B3v (B3v (B3v (j9_0) j9_1) j9_2) j9_3) j9_4) j9_5) j9_6) j9_7) j9_8) j9_9) j9_10) j9_11) j9_12) j9_13) j9_14) j9_15) j9_16) j9_17) j9_18) j9_19) j9_20) j9_21) j9_22) j9_23) j9_24) j9_25) j9_26) j9_27) j9_28) j9_29) j9_30) j9_31
end Go.Proofs.YtclejblcnfaeaaaGreat
end
section
namespace Go.Proofs.YtclejblcnfaeaaaGreat
open Go Go.Pal Go.Conc Go.ConcM Go.RowKit Go.ChangeShapes Go.WideShapes Go.ChangeAt
theorem own_knob:ownKnob Tryz.prog.godebug=none:=by kernel_rfl
set_option maxRecDepth 100000 in
theorem held_lifted(os:Os)(started:os.Started)(H:Type)(enc:TypeId×Value→H) :
  ReturnsInLeavingWide {} Tryz.checked os 9 .any (Rows.tollHeldSpec.pre6 enc Tryz.prog Tryz.f9 Rows.tollHeldRow.domain false) (Rows.tollHeldSpec.post enc Tryz.prog Tryz.f9 false true false false):=by
 refine returnsInLeavingWide_of_change_sized (C:=Tryz.checked) own_knob started Tryz.func9
  (ChangeSpec.witness6 (enc:=enc) (C:=Tryz.checked) false ⟨#[],#[.slice none 0 0],[]⟩ 8 kR kR kR kR) ?_
 intro W base args ds gs before hval0 hW _ _ _
 have hval:∀(j:Nat) t v,Tryz.f9.params[j]?=some t→args[j]?=some v→Value.okWide Tryz.prog W .any base t v:=hval0
 have hW':=hW
 obtain⟨p,q,hA0,hV,rfl,_,_⟩:=hW
 have hA:DataW.TrodAll enc Tryz.prog W 0 (fun _=>true) true Tryz.f9.params.toList args.toList ds p:=hA0
 rw [Tryz.params9]at hA hval
 obtain⟨v0,d0,rfl,rfl,h0⟩:=trodAll_one hA
 obtain⟨rfl,rfl⟩:=trodVars_none hV
 clear hA0 hval0
 simp only [List.append_nil]at hW'
 have hlt:∀x∈p,x.block<W.heap.size:=fun x hx=>by simpa using hW'.lt x hx
 obtain⟨a0,cap,ns,v,rfl,hag,hro,hns,hargs⟩:=open_nums (hval 0 22 v0 rfl rfl) h0 hlt
 obtain⟨M,last,o,w',t',r1,r2,r3,r4⟩:=law_run (P:=Tryz.prog) (W:=W) (v:=v) (args:=[.slice a0 ns.length cap]) Tryz.func9 rfl kR hag hro (thl_run hns)
 refine⟨M,last,o,w',t',r1,r2,r3,r4.mono fun x hp=>?_⟩
 obtain⟨rfl,hbel0,hos⟩:=hp
 have hbel:Below W.heap.size W w':=by
  have e:w'.os=W.os:=hos
  rw [←e]at hbel0
  exact hbel0
 exact⟨_,_,_,[],p,[],hW',trodAll_mk1 (shut_bool Tryz.underlying4 true),trodAll_mk1 (hargs _ hbel),Y,hbel.frame _,fun h=>by cases h⟩
theorem held_said:Rows.TollHeldSaid:=
 OpenClaim.holds_of_wide_leaving 9 Tryz.f9 rfl rfl rfl rfl rfl rfl rfl ⟨rfl,rfl,rfl,rfl,rfl⟩ rfl rfl rfl rfl rfl kR Tryz.func9 j9
  (of_decide_eq_true kR) (by unfold Func.isWrapper;first|(rw [if_pos (by decide +kernel)];kernel_rfl)|(rw [if_neg (by decide +kernel)];exact⟨Y,Y⟩))
  (fun os started H enc _=>held_lifted os started H enc)
end Go.Proofs.YtclejblcnfaeaaaGreat
end
#print axioms Go.Proofs.YtclejblcnfaeaaaGreat.held_said
