/- the laws of the toll clerks -/
import Derived.Test.YtclejblcnfaeaaaGreatPbq
set_option linter.all false
section
namespace Go.Pal.To
open Go
theorem asc_nodup{l:List Int}(h:l.Pairwise (· < ·)):l.Nodup:=h.imp fun h e=>by omega
theorem countR_ok{P:Int}{d:List Int}{a b:List MA}(hL:LOk P d a b):B2z P d a b=if A1q a b d=[]then(0,0,11)else((A1q a b d).length,bestN a b d,0):=by
 unfold B2z A4o
 rw [if_neg (by simpa using layE_ok.2 hL),if_neg dM]
 by_cases h:A1q a b d=[]
 ·rw [if_pos h,if_pos h,bestN_nil h];rfl
 ·rw [if_neg h,if_neg h]
theorem laidR_e{P:Int}{d:List Int}{a b:List MA}(hL:LOk P d a b){h:Nat}(hh:h<d.length):(A4o P d a b (A7d h d.length)).1=if A1q a b d=[]then 11 else 0:=by
 have hk:A7d h d.length=true:=by
  unfold A7d
  have:¬outZ (h:Int) 0 ((d.length:Int)-1):=by unfold outZ;omega
  simp [this]
 unfold A4o
 rw [if_neg (by simpa using layE_ok.2 hL),hk,if_neg dM]
 by_cases h:A1q a b d=[]
 ·rw [if_pos h,if_pos h]
 ·rw [if_neg h,if_neg h]
theorem owners_ok{P:Int}{d:List Int}{a b:List MA}(hL:LOk P d a b){h:Nat}(hh:h<d.length){r:List Int×Int}(hr:A9s P d a b h r) :
  (A1q a b d=[]∧r=([],11))∨(A1q a b d≠[]∧r.2=0∧r.1.Pairwise (· < ·)∧∀x,x∈r.1↔∃w∈A1q a b d,ow w.dusk h=x):=by
 unfold A9s at hr
 rw [laidR_e hL hh]at hr
 by_cases hb:A1q a b d=[]
 ·rw [if_pos hb,if_pos dM]at hr
  exact .inl ⟨hb,hr⟩
 ·rw [if_neg hb,if_neg dM]at hr
  exact .inr ⟨hb,hr⟩
def swM(m:Nat):Nat:=if m=1 then 2 else if m=2 then 1 else m
theorem W.swap{a b:List MA}{os dk:List Int}{ms:List Nat}{bk:List MA}(h:W a b os ms bk dk):W b a os (ms.map swM) bk dk:=by
 induction h with
 | nil=>exact .nil
 | step g1 g2 g3 _ ih=>
  rcases A8l g1 g2 with ⟨rfl,rfl,rfl⟩|⟨rfl,rfl,rfl⟩|⟨rfl,rfl,rfl⟩
  ·exact .step (m:=0) dM stepM_0 g3 ih
  ·exact .step (m:=2) dM stepM_2 g3 ih
  ·exact .step (m:=1) dM stepM_1 g3 ih
theorem LOk.swap{P:Int}{d:List Int}{a b:List MA}(h:LOk P d a b):LOk P d b a:=⟨h.m,h.lb,h.la,h.b,h.a⟩
theorem B1j{α:Type}(p q:α→Bool):∀(l:List α),l.countP (fun x=>p x&&q x)+l.countP (fun x=>p x && !q x)=l.countP p
 | []=>rfl
 | x::l=>by
  have:=B1j p q l
  rw [List.countP_cons,List.countP_cons,List.countP_cons]
  cases p x<;>cases q x<;>simp<;>omega
theorem len_pq{s na nb:Nat}(hs:s<2 ^ (na+nb))(hn:na+nb≤8):(pL s na (na+nb)).length+(qL s na (na+nb)).length=cntN s:=by
 unfold pL qL cntN
 rw [List.length_map,List.length_map,←List.countP_eq_length_filter,←List.countP_eq_length_filter,B1j (hasN s) (fun n=>decide (n<na))]
 obtain⟨k,hk⟩:∃k,8=na+nb+k:=⟨8-(na+nb),oM⟩
 rw [hk,show List.range (na+nb+k)=List.range (na+nb)++(List.range k).map (fun x=>na+nb+x)from List.range_add,List.countP_append]
 have:List.countP (hasN s) (List.map (fun x=>na+nb+x) (List.range k))=0:=by
  rw [List.countP_eq_zero]
  intro x hx
  obtain⟨y,_,rfl⟩:=List.mem_map.1 hx
  rw [hasN_bit,Nat.testBit_lt_two_pow (Nat.lt_of_lt_of_le hs (Nat.pow_le_pow_right dM oM))]
  decide
 rw [this];rfl
theorem keyLt_of{c c':Nat}{p q p' q':List Int}(h:¬A4w c p q c' p' q'):c'≤c:=by
 unfold A4w at h
 omega
theorem struck_ok{P:Int}{d:List Int}{a b:List MA}(hL:LOk P d a b){r:Int×List Int×List Int}(h:A4y P d a b r) :
  r.1=0∧(A1q a b d≠[]↔r.2.1.length+r.2.2.length=0):=by
 unfold A4y at h
 rw [if_neg (by simpa using layE_ok.2 hL)]at h
 obtain⟨s,hs,rfl,hr,hmin⟩:=h
 have hla:=hL.la
 have hlb:=hL.lb
 have hlen:=len_pq hs oM
 refine⟨Y,fun hb=>?_,fun h0=>?_⟩
 ·have hz:∀i,hasN 0 i=false:=fun i=>by rw [hasN_bit];exact Nat.zero_testBit i
  have hp:pL 0 a.length (a.length+b.length)=[]:=List.eq_nil_iff_forall_not_mem.2 fun x hx=>by
   obtain⟨n,_,h2,_⟩:=mem_pL.1 hx
   rw [hz]at h2;cases h2
  have hq:qL 0 a.length (a.length+b.length)=[]:=List.eq_nil_iff_forall_not_mem.2 fun x hx=>by
   obtain⟨n,_,h2,_⟩:=mem_qL.1 hx
   rw [hz]at h2;cases h2
  have h1:=hmin 0 (Nat.two_pow_pos _) (by
   unfold A7a B1b
   rw [hp,hq]
   have e:∀l:List MA,A2x l []=l:=fun l=>by
    unfold A2x
    generalize 0=i
    induction l generalizing i with
    | nil=>rfl
    | cons x l ih=>unfold A2i;rw [show inL [] (i:Int)=false from rfl,ih];rfl
   rw [e,e]
   exact fun e=>hb (bests_nil.2 e))
  have h2:=keyLt_of h1
  have h3:cntN 0=0:=by decide
  show(pL s a.length (a.length+b.length)).length+(qL s a.length (a.length+b.length)).length=0
  omega
 ·have h1:pL s a.length (a.length+b.length)=[]:=List.length_eq_zero_iff.1 (by simp only at h0;omega)
  have h2:qL s a.length (a.length+b.length)=[]:=List.length_eq_zero_iff.1 (by simp only at h0;omega)
  unfold A7a B1b at hr
  rw [h1,h2]at hr
  have e:∀l:List MA,A2x l []=l:=fun l=>by
   unfold A2x
   generalize 0=i
   induction l generalizing i with
   | nil=>rfl
   | cons x l ih=>unfold A2i;rw [show inL [] (i:Int)=false from rfl,ih];rfl
  rw [e,e]at hr
  exact fun h=>hr (bests_nil.1 h)
end Go.Pal.To
end
