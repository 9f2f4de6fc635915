/- Part 26. -/
import Derived.Test.YtiolobmgibdfmaaGreatPay
set_option linter.all false
section
namespace Go.Pal
open Go Go.Conc View
section
variable{P:Program}{mn:Who}(T:Tab P){rd:Option Nat}{n:Nat}{Q:Exit→St→View→Prop}{ds:List Deferred}{ρ:Regs}{β:A0j}{v:View}{K:St→View→Prop}
 {ops:Array Oper}{i:Nat}{d:Nat}{ty:TypeId}{pos:String}{af:Array Edge}{gu:Option (Nat×Bool)}
theorem A_appendG{t t' e e':TypeId}{k by_ m len cap cap2:Nat}{y y2:Operand}{z:Value}{a a2:Option Addr}{cs xs:List Value}(ho:ops[i]?=some ⟨some d,.call {callee:=.builtin .append,args:=#[y,y2],argTypes:=#[t,t'] },ty,pos,af,gu⟩)(hw:A0x ops gu ρ=some true)(hn:Nat.blt d n=true)
  (hy:ρ.val y=some (.slice a len cap))(hy2:ρ.val y2=some (.slice a2 m cap2))
  (ht:T.und t=some (.slice e))(ht':T.und t'=some (.slice e'))(hs:T.siz e=some k)(hby:T.byt e=some by_)(hz:T.zer e=some z)(hzs:z.cells.size=k)
  (hr1:RowAt v a cs)(hl1:cs.length=len*k)(hr2:RowAt v a2 xs)(hxl:xs.length=m*k)(hc:cap<len+m)
  (hb:(2*(len+m)+768)*by_≤2^48)(hp:0<by_)
  (h:∀b c cap',OwnS e k [(b,c,e)] (some ⟨b,0,none⟩) (len+m) cap' (cs++xs)→K ⟨ds,(d,.slice (some ⟨b,0,none⟩) (len+m) cap')::ρ,(b,c,e)::β⟩ v):XOp P mn rd n ops i Q K ⟨ds,ρ,β⟩ v:=by
 refine A2x ho (A0p hw) (.inr Z) hn fun ev hev hbk=>?_
 simp only [execOp,resolve,show(#[y,y2]:Array Operand).map ev=#[ev y,ev y2]from by simp,hev _ _ hy,hev _ _ hy2,A0d,A0m,invoke,builtin]
 refine B0b T ht ht' hs hby hz hzs (hr1.le (A0b _ _)) hl1 (hr2.le (A0b _ _)) hxl hc hb hp fun r cap' c hr hc1 hc2 hc3=>?_
 obtain⟨h5,h6⟩:=B0s (c:=c) (t:=e) hbk hr
 exact⟨(r,c,e)::β,v,⟨h5,h6⟩,h r c cap' (.box (by rw [List.length_append,hl1,hxl,Nat.add_mul]) hc1 hc2 hc3)⟩
theorem A_append0{t t' e e':TypeId}{k len cap cap2 b off:Nat}{y y2:Operand}{a2:Option Addr}(ho:ops[i]?=some ⟨some d,.call {callee:=.builtin .append,args:=#[y,y2],argTypes:=#[t,t'] },ty,pos,af,gu⟩)(hw:A0x ops gu ρ=some true)(hn:Nat.blt d n=true)
  (hy:ρ.val y=some (.slice (some ⟨b,off,none⟩) len cap))(hy2:ρ.val y2=some (.slice a2 0 cap2))
  (ht:T.und t=some (.slice e))(ht':T.und t'=some (.slice e'))(hs:T.siz e=some k)(hc:len≤cap)
  (h:K ⟨ds,(d,.slice (some ⟨b,off,none⟩) len cap)::ρ,β⟩ v):XOp P mn rd n ops i Q K ⟨ds,ρ,β⟩ v:=by
 refine A2x ho (A0p hw) (.inr Z) hn fun ev hev hbk=>?_
 simp only [execOp,resolve,show(#[y,y2]:Array Operand).map ev=#[ev y,ev y2]from by simp,hev _ _ hy,hev _ _ hy2,A0d,A0m,invoke,builtin]
 unfold Builtin.append_
 simp only [show(#[t,t']:Array TypeId)[0]?=some t from Z,show(#[t,t']:Array TypeId)[1]?=some t' from Z,show ∀x y:Value,(#[x,y]:Array Value)[0]?=some x from fun _ _=>rfl,show ∀x y:Value,(#[x,y]:Array Value)[1]?=some y from fun _ _=>rfl,A0d,A1r T ht,A1r T ht',A5f T hs,A0m]
 simp only [Bool.false_eq_true,if_false,Builtin.lenOf,A0d,A0m]
 rw [if_pos (show len+0≤cap from hc),A0d]
 simp only [Bool.not_false,if_true]
 refine A4q (n:=0) (k:=k) (cs:=[]) (.inl Z) sM ?_
 rw [A0d]
 simp only [storeCells,A0m]
 exact⟨β,v,⟨hbk,Le.refl _⟩,h⟩
section
variable{S:List Rec}{done:List Nat}{ms:List Nat}{v0:View}{todo:List Nat}
theorem S_slice_hm{t e:TypeId}{y z1 z2:Operand}{a:Option Addr}{len cap h' m sz:Nat}{k1 k2:IntKind}(ho:ops[i]?=some ⟨some d,.slice t y none (some z1) (some z2),ty,pos,af,gu⟩)(hw:A0x ops gu ρ=some true)(hn:Nat.blt d n=true)(hB:B1v ops ms done i=true)
  (hy:ρ.val y=some (.slice a len cap))(ht:T.und t=some (.slice e))(hs:T.siz e=some sz)(hhi:ρ.val z1=some (.int k1 h'))(hmx:ρ.val z2=some (.int k2 m))(h3:m≤cap)(h2:h'≤m)
  (h:XS P mn n ops ms v0 Q todo S (i::done) ⟨ds,(d,.slice (if m=0 then a else a.map (·.add (0*sz))) (h'-0) (m-0))::ρ,β⟩ v):XS P mn n ops ms v0 Q (i::todo) S done ⟨ds,ρ,β⟩ v:=
 A7i (vq:=fun _=>none) (x:=.slice (if m=0 then a else a.map (·.add (0*sz))) (h'-0) (m-0)) ho hn hB (fun a hf=>.inl ⟨A0q hf (A0p hw),fun u _=>by
  unfold QAt execOp
  simp only [Option.map_none,Option.map_some,Instr.sliceAt,Instr.slice,Instr.sliceBounds,A0o hf _ _ hy,A0o hf _ _ hhi,A0o hf _ _ hmx,A0d,A0m,A1r T ht]
  refine B0a h3 ?_
  refine B0a h2 ?_
  simp only [A5f T hs]
  exact⟨Le.refl _,trivial⟩⟩) (fun _ _ b x e=>by cases e) (sv_mem fun b x e=>by cases e) h
theorem S_slice_l{t e:TypeId}{y z0:Operand}{a:Option Addr}{len cap l' sz:Nat}{k0:IntKind}(ho:ops[i]?=some ⟨some d,.slice t y (some z0) none none,ty,pos,af,gu⟩)(hw:A0x ops gu ρ=some true)(hn:Nat.blt d n=true)(hB:B1v ops ms done i=true)
  (hy:ρ.val y=some (.slice a len cap))(ht:T.und t=some (.slice e))(hs:T.siz e=some sz)(hlo:ρ.val z0=some (.int k0 l'))(h1:l'≤len)
  (h:XS P mn n ops ms v0 Q todo S (i::done) ⟨ds,(d,.slice (if cap=l' then a else a.map (·.add (l'*sz))) (len-l') (cap-l'))::ρ,β⟩ v):XS P mn n ops ms v0 Q (i::todo) S done ⟨ds,ρ,β⟩ v:=
 A7i (vq:=fun _=>none) (x:=.slice (if cap=l' then a else a.map (·.add (l'*sz))) (len-l') (cap-l')) ho hn hB (fun a hf=>.inl ⟨A0q hf (A0p hw),fun u _=>by
  unfold QAt execOp
  simp only [Option.map_none,Option.map_some,Instr.sliceAt,Instr.slice,Instr.sliceBounds,A0o hf _ _ hy,A0o hf _ _ hlo,A0d,A0m,A1r T ht]
  refine B0a h1 ?_
  simp only [A5f T hs]
  exact⟨Le.refl _,trivial⟩⟩) (fun _ _ b x e=>by cases e) (sv_mem fun b x e=>by cases e) h
end
theorem row_cell{a:Option Addr}{xs:List Value}{j:Nat}{x:Value}(h:RowAt v a xs)(hx:xs[j]?=some x):∃b off p c e f,a=some ⟨b,off,none⟩∧v b=some (p,.cells c e f)∧c[off+j]?=some x:=by
 rcases h with rfl|⟨b,off,p,c,e,f,h1,h2,_,h4⟩
 ·simp at hx
 ·exact⟨b,off,p,c,e,f,h1,h2,h4 _ _ hx⟩
end
end Go.Pal
end
section
namespace Go.Proofs.YtiolobmgibdfmaaGreat
open Go Go.Pal Go.Pal.Vo Go.Conc View
open Go.Proofs.Tryz
set_option maxHeartbeats 4000000
set_option maxRecDepth 20000
section
variable{mn:Who}{v:View}{a:Option Addr}{cap:Nat}
theorem find_idxG{α:Type}{l:List α}{p:α→Bool}:(idxL p l 0 = -1∧l.find? p=none)∨∃i,∃h:i<l.length,idxL p l 0=(i:Int)∧l.find? p=some l[i]:=by
 rcases B0l p l 0 with ⟨h1,h2⟩|⟨i,hi,h1,h2,h3⟩
 ·exact .inl ⟨h1,List.find?_eq_none.2 fun x hx=>by rw [h2 x hx];decide⟩
 ·refine .inr ⟨i,hi,by rw [h1,Nat.zero_add],?_⟩
  rw [List.find?_eq_some_iff_getElem]
  refine⟨h2,i,hi,Z,fun j hj=>?_⟩
  have:=h3 l[j] (List.mem_take_iff_getElem.2 ⟨j,oM,Z⟩)
  simp [this]
def AskRow(mn:Who)(v:View)(ls:List (List Nat))(k:FuncId)(captured:Array Value)(p:List Nat→Bool):Prop:=
 ∀l∈ls,∀ai ci u,v.Le u→RowAt u ai (l.map natV)→Ret1 prog mn k (.slice ai l.length ci::captured.toList) (.bool (p l)) u
theorem indexR_x{ls:List (List Nat)}{rows:List Value}{p:List Nat→Bool}{k:FuncId}{captured:Array Value}(hrow:RowAt v a rows)(hR:RowsOf v rows ls)(hlen:ls.length<2^30)(hk:A0n prog k)
  (hf:AskRow mn v ls k captured p):Ret1 prog mn 142 [.slice a ls.length cap,.func (.func k) #[] captured] (.int .i64 (idxL p ls 0)) v:=by
 refine A0f tab func142 Z nB (args:=[_,_]) ?_
 repeat refine st ?_
 refine A1o (α:=Nat) (fun i=>⟨[],[(8,.int .i64 i),(7,.int .i64 ls.length),(0,.slice a ls.length cap),(1,.func (.func k) #[] captured)],[]⟩)
  (fun i u=>u=v∧i≤ls.length∧idxL p ls 0=idxL p (ls.drop i) i) (fun i=>ls.length-i) 0 ⟨Z,rg,cntL⟩ (Le.refl _) ⟨Z,Nat.zero_le _,Z⟩ ?_
 rintro i u ⟨rfl,hi,hE⟩
 repeat refine st ?_
 refine A0t Z (fun h=>?_) (fun h=>?_)
 ·replace h:=fa h
  have hlt:i<ls.length:=oM
  obtain⟨ai,ci,hri,hrowi⟩:=hR.2 i hlt
  obtain⟨b,off,q,c,e,f,rfl,hv,hc⟩:=row_cell hrow hri
  rw [List.drop_eq_getElem_cons hlt,idxL]at hE
  repeat refine st ?_
  refine A2t tab i Z Z Z Z Z Z Z hlt ?_
  refine A2p tab Z Z Z hv (A1b tab Z Z Z (by rw [Nat.mul_one];exact hc)) ?_
  repeat refine st ?_
  refine Q_op fun ho=>A0s ho hk Z Z Z Z (List.nil_append _) (hf ls[i] (List.getElem_mem hlt) ai ci _ (Le.refl _) hrowi) ?_
  clear ho
  cases hp:p ls[i]with
  | true=>
   rw [hp,if_pos rfl]at hE
   repeat refine st ?_
   refine A0l tab [] (by exact .tmp rfl .nil) (Back.here cntL) ?_
   rw [hE];exact⟨Z,Z⟩
  | false=>
   rw [hp,if_neg dM]at hE
   repeat refine st ?_
   exact A0c ⟨i+1,u,(by have:=hlt;omega),⟨Z,rg,cntL⟩,Le.refl _,Z,hlt,hE⟩
 ·replace h:=fa h
  have hin:i=ls.length:=oM
  subst hin
  rw [List.drop_length]at hE
  repeat refine st ?_
  refine A0l tab [] (by exact .tmp rfl .nil) (Back.here cntL) ?_
  rw [hE];exact⟨Z,Z⟩
def FoundR(v:View)(o:Option (List Nat))(r:Value):Prop:=match o with
 | some l=>∃ai ci,r = .tuple #[.slice ai l.length ci,.bool true]∧RowAt v ai (l.map natV)
 | none=>r = .tuple #[.slice none 0 0,.bool false]
theorem first_x{v0:View}{ls:List (List Nat)}{rows:List Value}{p:List Nat→Bool}{k:FuncId}{captured:Array Value}(hl0:v0.Le v)(hrow:RowAt v0 a rows)(hR:RowsOf v0 rows ls)(hlen:ls.length<2^30)(hk:A0n prog k)
  (hf:AskRow mn v ls k captured p):CallsB prog mn 86 #[.slice a ls.length cap,.func (.func k) #[] captured] (RetB fun r β'=>FoundR v0 (ls.find? p) r∧β'=[]) [] v:=by
 refine A0f tab func86 Z nB (args:=[_,_]) ?_
 repeat refine st ?_
 refine Q_op fun ho=>A0s ho bod142 Z Z Z Z Z (indexR_x (RowAt.le hrow hl0) (hR.le hl0) hlen hk hf) ?_
 clear ho
 rcases find_idxG (l:=ls) (p:=p)with ⟨h1,h2⟩|⟨i,hi,h1,h2⟩
 ·rw [h1,h2]
  repeat refine st ?_
  refine A0l tab [] (by exact .tmp rfl (.tmp rfl .nil)) (Back.here cntL) ?_
  exact⟨Z,Z⟩
 ·rw [h1,h2]
  obtain⟨ai,ci,hri,hrowi⟩:=hR.2 i hi
  obtain⟨b,off,q,c,e,f,rfl,hv,hc⟩:=row_cell (RowAt.le hrow hl0) hri
  repeat refine st ?_
  refine A2t tab i Z Z Z Z Z Z Z hi ?_
  refine A2p tab Z Z Z hv (A1b tab Z Z Z (by rw [Nat.mul_one];exact hc)) ?_
  repeat refine st ?_
  refine A0l tab [] (by exact .tmp rfl (.tmp rfl .nil)) (Back.here cntL) ?_
  exact⟨⟨ai,ci,Z,hrowi⟩,Z⟩
end
end Go.Proofs.YtiolobmgibdfmaaGreat
end
section
namespace Go.Pal.Vo
def A6j{α:Type}(ws:List α)(i:Nat):List α:=ws.take i++ws.drop (i+1)
def A3s{α:Type}(ws:List α)(l:List Nat):List α:=l.foldr (fun i acc=>A6j acc i) ws
def Asc1(l:List Nat):Prop:=l.Pairwise (· < ·)
instance (l:List Nat):Decidable (Asc1 l):=inferInstanceAs (Decidable (l.Pairwise (· < ·)))
theorem lists_asc_tab:(List.range 9).all (fun n=>(A2e n).all fun l=>decide (Asc1 l))=true:=by decide +kernel
theorem lists_asc{n:Nat}(hn:n≤8){l:List Nat}(h:l∈A2e n):Asc1 l:=by
 have:=List.all_eq_true.1 lists_asc_tab n (List.mem_range.2 oM)
 exact of_decide_eq_true (List.all_eq_true.1 this l h)
theorem dropAt_len{α:Type}{ws:List α}{i:Nat}(h:i<ws.length):(A6j ws i).length=ws.length-1:=by
 unfold A6j
 rw [List.length_append,List.length_take,List.length_drop]
 omega
theorem B2o{α:Type}{ws:List α}:∀{l:List Nat},Asc1 l→(∀x∈l,x<ws.length)→∀k,k<ws.length→(∀x∈l,k<x)→k<(A3s ws l).length
 | [],_,_,k,hk,_=>hk
 | a::t,hA,hx,k,hk,hkl=>by
  have hA':=List.pairwise_cons.1 hA
  have ih:=B2o (ws:=ws) hA'.2 (fun x h=>hx x (List.mem_cons_of_mem _ h)) a (hx a (List.mem_cons_self ..)) (fun x h=>hA'.1 x h)
  have h1:=hkl a (List.mem_cons_self ..)
  show k<(A6j (A3s ws t) a).length
  rw [dropAt_len ih]
  omega
theorem without_at{α:Type}{ws:List α}{l:List Nat}(hA:Asc1 l)(hx:∀x∈l,x<ws.length){j:Nat}(hj:j<l.length):l[j]<(A3s ws (l.drop (j+1))).length∧A3s ws (l.drop j)=A6j (A3s ws (l.drop (j+1))) l[j]:=by
 have hd:=List.drop_eq_getElem_cons hj
 refine⟨B2o ?_ (fun x h=>hx x (List.mem_of_mem_drop h)) _ (hx _ (List.getElem_mem hj)) ?_,by rw [hd];rfl⟩
 ·exact List.Pairwise.sublist (List.drop_sublist _ _) hA
 ·have h1:Asc1 (l.drop j):=List.Pairwise.sublist (List.drop_sublist _ _) hA
  rw [hd]at h1
  exact(List.pairwise_cons.1 h1).1
theorem A9f{α:Type}{ws:List α}{x:α}:∀{l:List Nat},x∈A3s ws l→x∈ws
 | [],h=>h
 | a::t,h=>by
  have h':x∈A6j (A3s ws t) a:=h
  unfold A6j at h'
  rcases List.mem_append.1 h' with h'|h'
  ·exact A9f (List.mem_of_mem_take h')
  ·exact A9f (List.mem_of_mem_drop h')
theorem without_le{α:Type}{ws:List α}:∀{l:List Nat},(A3s ws l).length≤ws.length
 | []=>Nat.le_refl _
 | a::t=>by
  have ih:=without_le (ws:=ws) (l:=t)
  show(A6j (A3s ws t) a).length≤_
  unfold A6j
  rw [List.length_append,List.length_take,List.length_drop]
  omega
end Go.Pal.Vo
end
section
namespace Go.Pal
open Go Go.Conc View
section
variable{v:View}
theorem row_take{a:Option Addr}{xs:List Value}(h:RowAt v a xs)(m:Nat):RowAt v a (xs.take m):=by
 rcases h with rfl|⟨b,off,p,c,e,f,h1,h2,h3,h4⟩
 ·exact .inl sM
 ·refine .inr ⟨b,off,p,c,e,f,h1,h2,?_,fun i x hx=>?_⟩
  ·rw [List.length_take];omega
  ·rw [List.getElem?_take]at hx
   split at hx
   ·exact h4 _ _ hx
   ·cases hx
theorem row_drop{b off:Nat}{xs:List Value}(h:RowAt v (some ⟨b,off,none⟩) xs){m:Nat}(hm:m≤xs.length):RowAt v (some ⟨b,off+m,none⟩) (xs.drop m):=by
 rcases h with rfl|⟨b',off',p,c,e,f,h1,h2,h3,h4⟩
 ·exact .inl sM
 ·cases h1
  refine .inr ⟨b,off+m,p,c,e,f,Z,h2,?_,fun i x hx=>?_⟩
  ·rw [List.length_drop];omega
  ·rw [List.getElem?_drop]at hx
   rw [Nat.add_assoc]
   exact h4 _ _ hx
end
end Go.Pal
namespace Go.Proofs.YtiolobmgibdfmaaGreat
open Go Go.Pal Go.Pal.Vo Go.Conc View
open Go.Proofs.Tryz
set_option maxHeartbeats 4000000
theorem A4m(ws:List Wd):(ws.map wdC).flatten.length=ws.length*4:=by
 induction ws with
 | nil=>rfl
 | cons x l ih=>rw [List.map_cons,List.flatten_cons,List.length_append,ih];show 4+l.length*4=(l.length+1)*4;omega
theorem A9s:∀(ws:List Wd) (k:Nat),(ws.map wdC).flatten.take (k*4)=((ws.take k).map wdC).flatten
 | [],k=>by simp
 | x::l,0=>by simp
 | x::l,k+1=>by
  rw [List.map_cons,List.flatten_cons,List.take_succ_cons,List.map_cons,List.flatten_cons,show(k+1)*4=(wdC x).length+k*4 by show _=4+_;omega,List.take_length_add_append,A9s l k]
theorem A9t:∀(ws:List Wd) (k:Nat),(ws.map wdC).flatten.drop (k*4)=((ws.drop k).map wdC).flatten
 | [],k=>by simp
 | x::l,0=>by simp
 | x::l,k+1=>by
  rw [List.map_cons,List.flatten_cons,List.drop_succ_cons,show(k+1)*4=(wdC x).length+k*4 by show _=4+_;omega,List.drop_length_add_append,A9t l k]
section
variable{v:View}{wa:Option Addr}{wc:Nat}
theorem WdsAt.take{a:Option Addr}{ws:List Wd}(h:WdsAt v a ws)(k:Nat):WdsAt v a (ws.take k):=by
 unfold WdsAt
 rw [←A9s]
 exact row_take h _
theorem WdsAt.drop{b off:Nat}{ws:List Wd}(h:WdsAt v (some ⟨b,off,none⟩) ws){k:Nat}(hk:k≤ws.length):WdsAt v (some ⟨b,off+k*4,none⟩) (ws.drop k):=by
 unfold WdsAt
 rw [←A9t]
 exact row_drop h (by rw [A4m];omega)
structure SW where
 j:Nat
 a:Option Addr
 c:Nat
 seg:A0j
theorem silentF_x{P F:Nat}{ws:List Wd}{l:List Nat}{ai:Option Addr}{ci b1:Nat}{q1:Bool}{e1:TypeId}{f1:Nat×Nat}(hv:VOk P F ws)(hws:WdsAt v wa ws)(hwc:ws.length≤wc)(hA:Asc1 l)(hl:∀x∈l,x<ws.length)(hll:l.length<2^30)(hrow:RowAt v ai (l.map natV))(hv1:v b1=some (q1,.cells (boV P F wa ws.length wc).cells e1 f1)) :
  Ret1 prog ⟨true,true⟩ 88 [.slice ai l.length ci,.pointer (some ⟨b1,0,none⟩)] (.bool (decide (((A0g P F (A3s ws l)).length:Int) > 0))) v:=by
 refine A0f tab func88 Z nB (args:=[_,_]) ?_
 have hw8:=hv.w8
 repeat (first|refine st ?_|refine qb fun bx=>?_)
 refine A2p tab Z Z Z hv1 (A2d tab (k:=3) (x:=[.int .i64 P,.int .i64 F,.slice wa ws.length wc]) Z Z Z ⟨Nat.le_refl _,Z⟩) ?_
 repeat (first|refine st ?_|refine qb fun bx=>?_)
 refine A1o (α:=SW) (fun z=>⟨[],[(5,.int .i64 ((z.j:Int)-1)),(0,.slice ai l.length ci),(4,.pointer (some ⟨bx,0,none⟩))],[(bx,(boV P F z.a (A3s ws (l.drop z.j)).length z.c).cells,24)]⟩)
  (fun z u=>u=v.union (A0e z.seg)∧Bok z.seg v∧z.j≤l.length∧WdsAt u z.a (A3s ws (l.drop z.j))∧(A3s ws (l.drop z.j)).length≤z.c) (fun z=>z.j) ⟨l.length,wa,wc,[]⟩ ⟨Z,rg,?_⟩ (by rw [A2r];exact Le.refl _) ⟨Z,B3u v,Nat.le_refl _,?_,?_⟩ ?_
 ·simp only [List.drop_length]
  exact(show Subm [(bx,(boV P F wa ws.length wc).cells,24)] [(bx,(boV P F wa ws.length wc).cells,24)]from cntL)
 ·simp only [List.drop_length]
  rw [A2r];exact hws
 ·simp only [List.drop_length]
  exact hwc
 rintro⟨j,a,c,seg⟩ u ⟨rfl,hbS,hj,hW,hc⟩
 simp only at hbS hj hW hc
 dsimp only
 have hwl:(A3s ws (l.drop j)).length≤8:=Nat.le_trans without_le hw8
 repeat (first|refine st ?_|refine qb fun bx=>?_)
 refine A0t Z (fun h=>?_) (fun h=>?_)
 ·replace h:=fa h
  obtain⟨i,rfl⟩:∃i,j=i+1:=⟨j-1,oM⟩
  have hi:i<l.length:=oM
  obtain⟨hk,A5e⟩:=without_at hA hl hi
  have hrow':=RowAt.le hrow (A0b v (A0e seg))
  obtain⟨rb,ro,rp,rc,re,rf,rfl,hrv,hrc⟩:=hrow'.get hi
  generalize hws':A3s ws (l.drop (i+1))=ws' at *
  generalize hkk:l[i]=k at *
  obtain⟨b,off,q,wcs,e,f,rfl,hwv,hwcs⟩:=hW.get hk
  clear h
  rw [show(((i+1:Nat):Int)-1)=(i:Int) by omega]
  repeat (first|refine st ?_|refine qb fun bx=>?_)
  refine A2u [19,21] [0,1,2,3,4,5,6,7,8,9,10,11,12,13,14,15,16,17,18,19,20,21] A1w Z kR ?_
  have hrci:=hrc i hi
  rw [hkk]at hrci
  have ea:(if k=0 then some (⟨b,off,none⟩:Addr)else Option.map (fun(x:Addr)=>x.add (0*4)) (some (⟨b,off,none⟩:Addr)))=some ⟨b,off,none⟩:=by
   split
   ·rfl
   ·rw [Option.map_some,A5m];simp
  repeat (first|refine st ?_|refine qb fun bx=>?_)
  refine A0v tab i Z Z Z kR Z Z oM Z Z hi ?_
  refine A8d tab Z Z Z kR Z hrv (x:=natV k) (A1b tab Z Z Z (by rw [Nat.mul_one];exact hrci)) ?_
  repeat (first|refine st ?_|refine qb fun bx=>?_)
  refine A0v tab i Z Z Z kR Z Z oM Z Z hi ?_
  refine A8d tab Z Z Z kR Z hrv (x:=natV k) (A1b tab Z Z Z (by rw [Nat.mul_one];exact hrci)) ?_
  repeat (first|refine st ?_|refine qb fun bx=>?_)
  refine S_slice_hm tab (h':=k) (m:=k) Z Z Z kR Z Z Z Z Z oM (Nat.le_refl _) ?_
  rw [ea]
  repeat (first|refine st ?_|refine qb fun bx=>?_)
  refine A0v tab i Z Z Z kR Z Z oM Z Z hi ?_
  refine A8d tab Z Z Z kR Z hrv (x:=natV k) (A1b tab Z Z Z (by rw [Nat.mul_one];exact hrci)) ?_
  repeat (first|refine st ?_|refine qb fun bx=>?_)
  refine S_slice_l tab (l':=k+1) Z Z Z kR Z Z Z Z oM ?_
  by_cases hm:ws'.length=k+1
  ·have hsame:A3s ws (l.drop i)=ws'.take k:=by rw [A5e];unfold A6j;rw [List.drop_eq_nil_of_le oM,List.append_nil]
   have hlk:(ws'.take k).length=k:=by rw [List.length_take];omega
   refine S_do kR (A_append0 tab (a2:=if c=k+1 then some ⟨b,off,none⟩else Option.map (fun(x:Addr)=>x.add ((k+1)*4)) (some ⟨b,off,none⟩)) (cap2:=c-(k+1)) Z Z Z Z (by show some (Value.slice _ (ws'.length-(k+1)) _)=_;rw [hm,Nat.sub_self]) Z Z Z (Nat.le_refl _) ⟨Le.refl _,kp,?_⟩)
   repeat (first|refine st ?_|refine qb fun bx=>?_)
   refine A0c ⟨⟨i,some ⟨b,off,none⟩,k,seg⟩,_,(show i<i+1 by omega),⟨Z,rg,?_⟩,Le.refl _,Z,hbS,by simp only;omega,?_,?_⟩
   ·rw [hsame,hlk]
    exact cntL
   ·rw [hsame]
    exact hW.take k
   ·rw [hsame,hlk]
    exact Nat.le_refl _
  ·have hlen2:(A6j ws' k).length=k+(ws'.length-(k+1)):=by unfold A6j;rw [List.length_append,List.length_take,List.length_drop];omega
   have hflat:((ws'.take k).map wdC).flatten++((ws'.drop (k+1)).map wdC).flatten=((A6j ws' k).map wdC).flatten:=by unfold A6j;rw [List.map_append,List.flatten_append]
   rw [if_neg (show ¬c=k+1 by omega),Option.map_some,A5m]
   refine S_do kR (A_appendG tab (len:=k) (m:=ws'.length-(k+1)) (cs:=((ws'.take k).map wdC).flatten) (xs:=((ws'.drop (k+1)).map wdC).flatten) Z Z Z Z Z Z Z Z Z Z Z
    (hW.take k) (by rw [A4m,List.length_take];omega) (hW.drop oM) (by rw [A4m,List.length_drop]) oM (by show(2*(k+(ws'.length-(k+1)))+768)*32≤2^48;omega) oM (fun b5 c5 cap5 hS=>⟨Le.refl _,kp,?_⟩))
   repeat (refine ss ?_)
   refine S_do kR (B0z tab Z Z Z Z Z Z Z ib (by exact Z) sb ⟨Le.refl _,kp,?_⟩)
   repeat (refine ss ?_)
   refine A5c (A7g ?_)
   refine XC_retire (β1:=[(b5,c5,26)]) (β2:=_) (fun _=>rfl) (fun hb5=>?_)
   have hbn:Bok ([(b5,c5,26)]++seg) v:=bok_append.2 ⟨hbS,hb5⟩
   have hun:=A1m hbn
   have hrow5:=A2m hb5 hS
   obtain⟨_,_,_,_,hcap5,_⟩:=A5w hS oM
   rw [hflat]at hrow5
   rw [←hun]at hrow5⊢
   repeat (first|refine st ?_|refine qb fun bx=>?_)
   refine A0c ⟨⟨i,some ⟨b5,0,none⟩,cap5,[(b5,c5,26)]++seg⟩,_,(show i<i+1 by omega),⟨Z,rg,?_⟩,Le.refl _,Z,hbn,by simp only;omega,?_,?_⟩
   ·simp only
    rw [A5e,hlen2]
    exact(show Subm [(bx,(boV P F (some ⟨b5,0,none⟩) (k+(ws'.length-(k+1))) cap5).cells,24)] [(bx,(boV P F (some ⟨b5,0,none⟩) (k+(ws'.length-(k+1))) cap5).cells,24)]from cntL)
   ·simp only
    rw [A5e]
    exact hrow5
   ·simp only
    rw [A5e,hlen2]
    exact hcap5
 ·replace h:=fa h
  have hj0:j=0:=oM
  subst hj0
  rw [List.drop_zero]at hW hc hwl⊢
  repeat (first|refine st ?_|refine qb fun bx=>?_)
  refine Q_op fun ho=>A0i [] _ ho bod80 Z Z Z Z Z A1n (worlds_x hv.p4 hv.f3 (hW.le (A0b _ _)) (fun x hx=>hv.fit x (A9f hx)) oM) (fun x β' hR=>?_)
  clear ho
  obtain⟨a',cap',rfl,hS⟩:=hR
  repeat (first|refine st ?_|refine qb fun bx=>?_)
  refine A0l tab [] (by exact .tmp rfl .nil) (Back.forget hbS (Back.here fun p=>Nat.zero_le _)) ?_
  exact⟨Z,Z⟩
end
end Go.Proofs.YtiolobmgibdfmaaGreat
end
section
namespace Go.Proofs.YtiolobmgibdfmaaGreat
open Go Go.Pal Go.Pal.Vo Go.Conc View
open Go.Proofs.Tryz
set_option maxHeartbeats 4000000
set_option maxRecDepth 20000
section
variable{v:View}{wa:Option Addr}{wc:Nat}
def ReadL(v:View)(β:A0j)(x:Value)(l:List Nat):Prop:=∃a cap,x = .slice a l.length cap∧RowAt (v.union (A0e β)) a (l.map natV)
theorem ReadL.nil{β:A0j}:ReadL v β (.slice none 0 0) []:=⟨none,0,Z,.inl Z⟩
def canW(P F:Nat)(ws:List Wd)(l:List Nat):Bool:=decide (((A0g P F (A3s ws l)).length:Int) > 0)
def B2w(P F:Nat)(ws:List Wd):List Nat:=((A2e ws.length).find? (canW P F ws)).getD []
theorem OwnLL.read{β γ:A0j}{x:Value}{ls:List (List Nat)}(h:OwnLL β x ls)(hb:Bok γ v)(hs:Subm β γ):∃a cap rows,x = .slice a ls.length cap∧RowAt (v.union (A0e γ)) a rows∧RowsOf (v.union (A0e γ)) rows ls:=by
 obtain⟨a,cap,segO,segR,rows,rfl,rfl,hO,hR⟩:=h
 have h1:Subm segO γ:=fun p=>by have:=hs p;rw [A2g]at this;omega
 have h2:Subm segR γ:=fun p=>by have:=hs p;rw [A2g]at this;omega
 obtain⟨k1,k2⟩:=B0r h2 hb
 exact⟨a,cap,rows,Z,RowAt.own hb h1 hO,(hR v k1).le k2⟩
theorem Silent_x{P F:Int}{ws:List Wd}(hws:WdsAt v wa ws)(hwl:ws.length<2^30)(hwc:ws.length≤wc) :
  CallsB prog ⟨true,true⟩ 33 #[boV P F wa ws.length wc] (RetB fun r β'=>∃t,r = .tuple #[t,.int .i64 (A2h P F ws)]∧ReadL v β' t (if A2h P F ws=0 then B2w P.toNat F.toNat ws else [])) [] v:=by
 refine A3m tab A4x func33 Z nB (args:=[_]) ?_
 repeat (first|refine st ?_|refine qb fun bx=>?_)
 refine Q_op fun ho=>A6x Z ho Z Z ?_
 clear ho
 repeat (first|refine st ?_|refine qb fun bx=>?_)
 refine Q_op fun ho=>A6g ho bod79 Z Z Z Z (A6u (hws.le (A0b _ _)) hwl) (fun h=>?_) (fun h=>?_)
 ·rw [if_neg h]
  refine pn ?_
  exact A2n tab Z ib dM sb (xs:=[_,_]) (by exact .tmp rfl (.cell rfl ib rfl .nil)) (β':=[]) (Back.here fun p=>Nat.zero_le _) ⟨_,Z,ReadL.nil⟩
 clear ho
 rw [h,if_pos rfl]
 obtain⟨P,F,rfl,rfl,hv⟩:=A4w h
 simp only [Int.toNat_natCast]
 have hw8:=hv.w8
 clear h
 repeat (first|refine st ?_|refine qb fun bx=>?_)
 rename_i b1
 refine Q_op fun ho=>A0i [] _ ho bod87 Z Z Z Z Z A1n (lists_x (n:=ws.length) hw8) (fun x β' hR=>?_)
 clear ho
 rename A0j=>βL
 refine A0w (β1:=βL++[(b1,(boV P F wa ws.length wc).cells,24)]) (β2:=[(bx,#[Value.int .i64 0],34)])
  (show ∀p,Pal.cnt p (βL++[(bx,#[Value.int .i64 0],34),(b1,(boV P F wa ws.length wc).cells,24)])=Pal.cnt p ((βL++[(b1,(boV P F wa ws.length wc).cells,24)])++[(bx,#[Value.int .i64 0],34)])from cntA) (fun hbk=>?_)
 have hv1:=A9c hbk (b:=b1) ib
 obtain⟨a,cap,rows,rfl,hrow,hR⟩:=hR.read hbk (show Subm βL (βL++[(b1,(boV P F wa ws.length wc).cells,24)])from cntL)
 have hlen:=B3h hw8
 repeat (first|refine st ?_|refine qb fun bx=>?_)
 refine Q_op fun ho=>A0i [] _ ho bod86 Z Z Z Z Z A1n (first_x (p:=canW P F ws) (A0b _ _) hrow hR oM bod88 (fun l hl ai ci u hle hrl=>silentF_x hv (hws.le (((A0b _ _).trans (A0b _ _)).trans hle)) hwc (lists_asc hw8 hl) (A7y hw8 hl).2.2 (by have:=(A7y hw8 hl).1;omega) hrl (hle _ _ (A1p hv1)))) (fun x β' hR=>?_)
 clear ho
 obtain⟨hR,rfl⟩:=hR
 unfold B2w
 cases hfo:(A2e ws.length).find? (canW P F ws)with
 | none=>
  rw [hfo]at hR
  subst hR
  repeat (first|refine st ?_|refine qb fun bx=>?_)
  exact A6e tab Z (β':=[]++(βL++[(b1,(boV P F wa ws.length wc).cells,24)])) (xs:=[_,_]) (by exact .tmp rfl (.cell rfl ib rfl .nil)) (Back.retired hbk (Back.here fun p=>Nat.zero_le _)) ⟨_,Z,ReadL.nil⟩
 | some l=>
  rw [hfo]at hR
  obtain⟨ai,ci,rfl,hrl⟩:=hR
  repeat (first|refine st ?_|refine qb fun bx=>?_)
  exact A6e tab Z (β':=[]++(βL++[(b1,(boV P F wa ws.length wc).cells,24)])) (xs:=[_,_]) (by exact .tmp rfl (.cell rfl ib rfl .nil)) (Back.retired hbk (Back.here fun p=>Nat.zero_le _)) ⟨_,Z,ai,ci,Z,hrl⟩
end
theorem g_key:KeyT prog 100 (fun(g:Nat)=>u8 g) where
  eq:=fun a b K E v h=>by
    refine u8_eq (d:=9999) ?_
    have:(((a:Nat):Int)==((b:Nat):Int))=decide (a=b):=by
      rw [Bool.eq_iff_iff,beq_iff_eq,decide_eq_true_eq];omega
    rw [this];exact h
  chk:=fun e a K E v h=>by
    unfold Instr.checkKey
    rw [A0d,A1r tab (t:=100) rfl]
    exact h
  now:=⟨_,tab.und_ok 100 _ rfl,.inr fun a b=>by
    show some _=some _
    congr 1
    rw [Bool.eq_iff_iff,decide_eq_true_eq]
    simp
    omega⟩
  bits:=fun a=>by simp [Instr.sameBits]
theorem and_val{g h:Nat}(hg:g<256)(hh:h<256):IntKind.u8.wrap ((BitVec.ofInt IntKind.u8.bits (g:Int) &&& BitVec.ofInt IntKind.u8.bits (h:Int)).toNat:Int)=((g &&& h:Nat):Int)∧g &&& h<256:=by
 have hx:g &&& h<2^8:=Nat.and_lt_two_pow g hh
 refine⟨?_,hx⟩
 have h1:(BitVec.ofInt IntKind.u8.bits (g:Int)).toNat=g:=by
  rw [BitVec.toNat_ofInt]
  show(((g:Int) % ((2^8:Nat):Int)).toNat)=g
  omega
 have h2:(BitVec.ofInt IntKind.u8.bits (h:Int)).toNat=h:=by
  rw [BitVec.toNat_ofInt]
  show(((h:Int) % ((2^8:Nat):Int)).toNat)=h
  omega
 rw [BitVec.toNat_and,h1,h2]
 simp only [IntKind.wrap,IntKind.signed,IntKind.bits]
 simp
 omega
theorem B3q{k:Nat}{e:Nat×Value×Nat}:∀{l:Ents Nat} {i:Nat},A3l k (l++[e]) i=match A3l k l i with
  | some x=>some x
  | none=>if k=e.1 then some (i+l.length,e.2.1)else none
 | [],i=>by simp [A3l]
 | x::l,i=>by
  rw [List.cons_append,A3l,A3l]
  by_cases h:k=x.1
  ·simp [h]
  ·rw [if_neg h,if_neg h,B3q (l:=l)]
   cases A3l k l (i+1)with
   | some y=>rfl
   | none=>simp only [List.length_cons];rw [show i+1+l.length=i+(l.length+1) by omega]
def A9j(l:List Wl)(o f:Nat):Bool:=l.all fun w=>l.all fun w'=>(w.1 &&& o != w'.1 &&& o)||(bit w.2 f==bit w'.2 f)
structure MapI(o f:Nat)(pre:List Wl)(es:Ents Nat):Prop where
 has:∀w∈pre,∃j,A3l (w.1 &&& o) es 0=some (j,.bool (bit w.2 f))
 all:∀g j y,A3l g es 0=some (j,y)→∃w∈pre,w.1 &&& o=g∧y = .bool (bit w.2 f)
theorem MapI.nil{o f:Nat}:MapI o f [] []:=⟨by simp,fun g j y h=>by cases h⟩
theorem MapI.proves{o f:Nat}{l:List Wl}{es:Ents Nat}(h:MapI o f l es):A9j l o f=true:=by
 refine List.all_eq_true.2 fun w hw=>List.all_eq_true.2 fun w' hw'=>?_
 obtain⟨j,h1⟩:=h.has w hw
 obtain⟨j',h2⟩:=h.has w' hw'
 by_cases e:w.1 &&& o=w'.1 &&& o
 ·rw [e,h2]at h1
  simp only [Option.some.injEq,Prod.mk.injEq,Value.bool.injEq]at h1
  simp [h1.2]
 ·simp [e]
theorem proves_not{o f:Nat}{l:List Wl}{w w':Wl}(hw:w∈l)(hw':w'∈l)(h1:w.1 &&& o=w'.1 &&& o)(h2:bit w.2 f≠bit w'.2 f):A9j l o f=false:=by
 cases h:A9j l o f with
 | false=>rfl
 | true=>
  have:=List.all_eq_true.1 (List.all_eq_true.1 h w hw) w' hw'
  simp [h1,h2]at this
theorem MapI.old{o f:Nat}{pre:List Wl}{es:Ents Nat}(h:MapI o f pre es){w:Wl}{j:Nat}(hf:A3l (w.1 &&& o) es 0=some (j,.bool (bit w.2 f))):MapI o f (pre++[w]) es:=by
 refine⟨fun x hx=>?_,fun g j y hg=>?_⟩
 ·rcases List.mem_append.1 hx with hx|hx
  ·exact h.has x hx
  ·rw [List.mem_singleton.1 hx];exact⟨j,hf⟩
 ·obtain⟨x,hx,h1⟩:=h.all g j y hg
  exact⟨x,List.mem_append_left _ hx,h1⟩
theorem MapI.new{o f ck:Nat}{pre:List Wl}{es:Ents Nat}(h:MapI o f pre es){w:Wl}(hf:A3l (w.1 &&& o) es 0=none):MapI o f (pre++[w]) (es++[(w.1 &&& o,.bool (bit w.2 f),ck)]):=by
 refine⟨fun x hx=>?_,fun g j y hg=>?_⟩
 ·rw [B3q]
  rcases List.mem_append.1 hx with hx|hx
  ·obtain⟨j,h1⟩:=h.has x hx
   rw [h1];exact⟨j,Z⟩
  ·rw [List.mem_singleton.1 hx,hf]
   exact⟨0+es.length,by simp⟩
 ·rw [B3q]at hg
  cases hq:A3l g es 0 with
  | some p=>
   rw [hq]at hg
   simp only [Option.some.injEq]at hg
   rw [hg]at hq
   obtain⟨x,hx,h1⟩:=h.all g j y hq
   exact⟨x,List.mem_append_left _ hx,h1⟩
  | none=>
   rw [hq]at hg
   simp only at hg
   by_cases e:g=w.1 &&& o
   ·rw [if_pos e]at hg
    simp only [Option.some.injEq,Prod.mk.injEq]at hg
    exact⟨w,by simp,e.symm,hg.2.symm⟩
   ·rw [if_neg e]at hg;cases hg
end Go.Proofs.YtiolobmgibdfmaaGreat
end
section
namespace Go.Pal
open Go Go.Conc View
theorem le_new{v:View}{m:Nat}{p:Bool}{o:Obj}(h:v m=none):v.Le (v.set m p o):=fun b x hx=>by
 by_cases e:b=m
 ·subst e;rw [h]at hx;cases hx
 ·unfold View.set;rw [if_neg e];exact hx
theorem Back.more{v u:View}{β:A0j}(hl:v.Le u):Back v [] u β:=fun _=>⟨⟨List.nodup_nil,fun _=>.inr Z⟩,by rw [A2r];exact hl.trans (A0b _ _)⟩
end Go.Pal
namespace Go.Proofs.YtiolobmgibdfmaaGreat
open Go Go.Pal Go.Pal.Vo Go.Conc View
open Go.Proofs.Tryz
set_option maxHeartbeats 4000000
section
variable{mn:Who}{v:View}
theorem proofF_x{W:List Wl}{l:List Nat}{f:Nat}{ai wa:Option Addr}{ci cap b1 b2:Nat}{q1 q2:Bool}{e1 e2:TypeId}{f1 f2:Nat×Nat}(hrow:RowAt v ai (l.map natV))(h8:∀x∈l,x<8)(hll:l.length<2^30)(hf:f<8)(hW:∀w∈W,w.1<256∧w.2<256)(hWl:W.length<2^30)(hwr:RowAt v wa (wsC W))
  (hv1:v b1=some (q1,.cells #[.slice wa W.length cap] e1 f1))(hv2:v b2=some (q2,.cells #[.int .i64 f] e2 f2)) :
  Ret1 prog mn 95 [.slice ai l.length ci,.pointer (some ⟨b1,0,none⟩),.pointer (some ⟨b2,0,none⟩)] (.bool (A9j W (orG l) f)) v:=by
 refine A0f tab func95 Z nB (args:=[_,_,_]) ?_
 have ho256:=orG_lt h8
 repeat (first|refine st ?_|refine qb fun bx=>?_)
 refine Q_op fun ho=>A0s ho bod96 Z Z Z Z Z (B3m hrow h8 oM) ?_
 clear ho
 repeat (first|refine st ?_|refine qb fun bx=>?_)
 refine Q_op fun ho=>A_makeMap (fun(g:Nat)=>u8 g) ho Z Z (fun m hm0=>?_)
 clear ho
 have hle:∀es ck,v.Le (v.set m true (mapO (fun(g:Nat)=>u8 g) es ck)):=fun es ck=>le_new hm0
 repeat (first|refine st ?_|refine qb fun bx=>?_)
 refine A2p tab Z Z Z (hle _ _ _ _ hv1) (x:=.slice wa W.length cap) Z ?_
 repeat (first|refine st ?_|refine qb fun bx=>?_)
 refine A1o (α:=Nat×Ents Nat×Nat) (fun z=>⟨[],[(16,.int .i64 z.1),(15,.int .i64 W.length),(14,.slice wa W.length cap),(6,.map (some m)),(5,u8 (orG l)),(2,.pointer (some ⟨b2,0,none⟩))],[]⟩)
  (fun z u=>u=v.set m true (mapO (fun(g:Nat)=>u8 g) z.2.1 z.2.2)∧z.1≤W.length∧MapI (orG l) f (W.take z.1) z.2.1) (fun z=>W.length-z.1) (0,[],0) ⟨Z,rg,cntL⟩ (Le.refl _) ⟨Z,Nat.zero_le _,MapI.nil⟩ ?_
 rintro⟨i,es,ck⟩ u ⟨rfl,hi,hM⟩
 simp only at hi hM
 dsimp only
 repeat (first|refine st ?_|refine qb fun bx=>?_)
 refine A0t Z (fun h=>?_) (fun h=>?_)
 ·replace h:=fa h
  have hlt:i<W.length:=oM
  obtain⟨b,off,q,c,e,fz,rfl,hv',hc⟩:=A9r hwr hlt
  have hw:=hW _ (List.getElem_mem hlt)
  have htake:W.take (i+1)=W.take i++[W[i]]:=List.take_succ_eq_append_getElem hlt
  have hmem:W[i]∈W:=List.getElem_mem hlt
  have hcell:=hc i hlt
  generalize W[i]=w at hcell hw htake hmem
  obtain⟨hand,_⟩:=and_val hw.1 ho256
  clear h
  repeat (first|refine st ?_|refine qb fun bx=>?_)
  refine A2t tab i Z Z Z Z Z Z Z hlt ?_
  refine A2p tab Z Z Z (hle _ _ _ _ hv') (x:=wlV w) (A2d tab Z Z Z hcell) ?_
  repeat (first|refine st ?_|refine qb fun bx=>?_)
  rw [hand]
  refine Q_op fun ho=>A_lookup tab g_key (k:=w.1 &&& orG l) ho Z Z Z Z Z Z A5g ?_
  clear ho
  cases hfe:A3l (w.1 &&& orG l) es 0 with
  | none=>
   dsimp only
   repeat (first|refine st ?_|refine qb fun bx=>?_)
   refine S_start0 (v0:=v) [8,9] [0,1,2,3,4,5,6,7,8,9] Z A1w kR (hle _ _) ?_
   repeat (first|refine st ?_|refine qb fun bx=>?_)
   rw [hand]
   repeat (first|refine st ?_|refine qb fun bx=>?_)
   refine A8d tab Z Z Z kR Z hv2 (x:=.int .i64 f) Z ?_
   refine S_do kR (A0i [] _ Z A9n Z Z Z Z Z A1n (A9l hw.2 hf) (fun x β' hR=>⟨Le.refl _,?_,?_⟩))
   ·exact kp
   obtain⟨rfl,rfl⟩:=hR
   refine S_do0 kR (A_mapNew tab g_key (k:=w.1 &&& orG l) Z Z Z Z Z Z A5g hfe ⟨?_,?_,?_⟩)
   ·rw [A6p];exact hle _ _
   ·exact kp
   rw [A6p]
   repeat (first|refine st ?_|refine qb fun bx=>?_)
   exact A0c ⟨(i+1,es++[(w.1 &&& orG l,.bool (bit w.2 f),ck)],ck+1),_,(show W.length-(i+1)<W.length-i by omega),⟨Z,rg,cntL⟩,Le.refl _,Z,hlt,by simp only;rw [htake];exact hM.new hfe⟩
  | some p=>
   obtain⟨j,y⟩:=p
   obtain⟨w',hw',hk',rfl⟩:=hM.all _ _ _ hfe
   dsimp only
   repeat (first|refine st ?_|refine qb fun bx=>?_)
   refine A2p tab Z Z Z (hle _ _ _ _ hv2) (x:=.int .i64 f) Z ?_
   refine Q_op fun ho=>A0s ho A9n Z Z Z Z Z (A9l hw.2 hf) ?_
   clear ho
   repeat (first|refine st ?_|refine qb fun bx=>?_)
   by_cases hbb:bit w'.2 f=bit w.2 f
   ·rw [show(!(bit w'.2 f==bit w.2 f))=false from by simp [hbb]]
    rw [hbb]at hfe
    obtain⟨_,bn,hjb⟩:=A8o hfe
    rw [Nat.sub_zero]at hjb
    have hset:es.set j (w.1 &&& orG l,.bool (bit w.2 f),bn)=es:=by
     refine List.ext_getElem? fun n=>?_
     rw [List.getElem?_set]
     by_cases e:j=n
     ·subst e
      rw [if_pos Z,hjb,if_pos (List.getElem?_eq_some_iff.1 hjb).1]
     ·rw [if_neg e]
    repeat (first|refine st ?_|refine qb fun bx=>?_)
    refine S_start0 (v0:=v) [8,9] [0,1,2,3,4,5,6,7,8,9] Z A1w kR (hle _ _) ?_
    repeat (first|refine st ?_|refine qb fun bx=>?_)
    rw [hand]
    repeat (first|refine st ?_|refine qb fun bx=>?_)
    refine A8d tab Z Z Z kR Z hv2 (x:=.int .i64 f) Z ?_
    refine S_do kR (A0i [] _ Z A9n Z Z Z Z Z A1n (A9l hw.2 hf) (fun x β' hR=>⟨Le.refl _,?_,?_⟩))
    ·exact kp
    obtain⟨rfl,rfl⟩:=hR
    refine S_do0 kR (A_mapOld tab g_key (k:=w.1 &&& orG l) Z Z Z Z Z Z A5g hfe hjb ⟨?_,?_,?_⟩)
    ·rw [A6p];exact hle _ _
    ·exact kp
    rw [A6p,hset]
    repeat (first|refine st ?_|refine qb fun bx=>?_)
    exact A0c ⟨(i+1,es,ck),_,(show W.length-(i+1)<W.length-i by omega),⟨Z,rg,cntL⟩,Le.refl _,Z,hlt,by simp only;rw [htake];exact hM.old hfe⟩
   ·rw [show(!(bit w'.2 f==bit w.2 f))=true from by simp [hbb]]
    repeat (first|refine st ?_|refine qb fun bx=>?_)
    refine A0l tab [] (by exact .tmp rfl .nil) (Back.more (hle _ _)) ?_
    rw [proves_not (List.mem_of_mem_take hw') hmem hk' hbb]
    exact⟨Z,Z⟩
 ·replace h:=fa h
  have hin:i=W.length:=oM
  subst hin
  rw [List.take_length]at hM
  clear h
  repeat (first|refine st ?_|refine qb fun bx=>?_)
  refine A0l tab [] (by exact .tmp rfl .nil) (Back.more (hle _ _)) ?_
  rw [hM.proves]
  exact⟨Z,Z⟩
end
end Go.Proofs.YtiolobmgibdfmaaGreat
end
section
namespace Go.Proofs.YtiolobmgibdfmaaGreat
open Go Go.Pal Go.Pal.Vo Go.Conc View
open Go.Proofs.Tryz
set_option maxHeartbeats 4000000
set_option maxRecDepth 20000
section
variable{v:View}{wa:Option Addr}{wc:Nat}
def B4t(P:Nat)(l:List Wl)(f:Nat):Option (List Nat):=(A2e P).find? fun x=>A9j l (orG x) f
def lackE(l:List Wl)(o:Option (List Nat)):Int:=if l.isEmpty then 11 else match o with
 | some _=>0
 | none=>11
theorem lackE_ne{l:List Wl}{o:Option (List Nat)}(h:l≠[]):lackE l o=match o with
 | some _=>0
 | none=>11:=by cases l with
 | nil=>exact absurd rfl h
 | cons x l=>rfl
def B4r(P F:Int)(ws:List Wd)(x:Int):Int:=if A2h P F ws=0 then(if 0≤x∧x≤F-1 then lackE (A0g P.toNat F.toNat ws) (B4t P.toNat (A0g P.toNat F.toNat ws) x.toNat)else 3)else A2h P F ws
def B4n(P F:Int)(ws:List Wd)(x:Int):List Nat:=if B4r P F ws x=0 then(B4t P.toNat (A0g P.toNat F.toNat ws) x.toNat).getD []else []
theorem Proof_x{P F:Int}{ws:List Wd}{x:Int}(hws:WdsAt v wa ws)(hwl:ws.length<2^30) :
  CallsB prog ⟨true,true⟩ 38 #[boV P F wa ws.length wc,.int .i64 x] (RetB fun r β'=>∃t,r = .tuple #[t,.int .i64 (B4r P F ws x)]∧ReadL v β' t (B4n P F ws x)) [] v:=by
 refine A3m tab A4x func38 Z nB (args:=[_,_]) ?_
 unfold B4n
 repeat (first|refine st ?_|refine qb fun bx=>?_)
 refine Q_op fun ho=>A6x Z ho Z Z ?_
 clear ho
 repeat (first|refine st ?_|refine qb fun bx=>?_)
 refine Q_op fun ho=>A6g ho bod79 Z Z Z Z (A6u (hws.le (A0b _ _)) hwl) (fun h=>?_) (fun h=>?_)
 ·rw [show B4r P F ws x=A2h P F ws from if_neg h,if_neg h]
  refine pn ?_
  exact A2n tab Z ib dM sb (xs:=[_,_]) (by exact .tmp rfl (.cell rfl ib rfl .nil)) (β':=[]) (Back.here fun p=>Nat.zero_le _) ⟨_,Z,ReadL.nil⟩
 clear ho
 rw [show B4r P F ws x=if 0≤x∧x≤F-1 then lackE (A0g P.toNat F.toNat ws) (B4t P.toNat (A0g P.toNat F.toNat ws) x.toNat)else 3 from if_pos h]
 obtain⟨P,F,rfl,rfl,hv⟩:=A4w h
 simp only [Int.toNat_natCast]
 have hP4:=hv.p4
 have hF3:=hv.f3
 clear h
 repeat (first|refine st ?_|refine qb fun bx=>?_)
 refine Q_op fun ho=>A_needR ho bod94 Z Z Z Z (fact_x oM) (fun h=>?_) (fun h=>?_)
 ·rw [if_neg (of_decide_eq_false h)]
  refine pn ?_
  exact A2n tab Z ib dM sb (xs:=[_,_]) (by exact .tmp rfl (.cell rfl ib rfl .nil)) (β':=[]) (Back.here fun p=>Nat.zero_le _) ⟨_,Z,ReadL.nil⟩
 clear ho
 have hx:=of_decide_eq_true h
 rw [if_pos hx]
 clear h
 obtain⟨f,rfl⟩:=Int.eq_ofNat_of_zero_le hx.1
 simp only [Int.toNat_natCast]
 repeat (first|refine st ?_|refine qb fun bx=>?_)
 rename_i b2 b3 b5
 refine Q_op fun ho=>B1u ho Z Z Z Z hv hws hwl (fun h=>?_) (fun hne a cap βw hS=>?_)
 ·rw [h]
  refine pn ?_
  exact A2n tab Z ib dM sb (xs:=[_,_]) (by exact .tmp rfl (.cell rfl ib rfl .nil)) (β':=[]) (Back.here fun p=>Nat.zero_le _) ⟨_,Z,ReadL.nil⟩
 clear ho
 rw [lackE_ne hne]
 have hlen:=A4s (ws:=ws) hv.p4 hv.f3
 have hwlt:∀w∈A0g P F ws,w.1<256∧w.2<256:=fun w hw=>A4d hv.p4 hv.f3 hw
 generalize A0g P F ws=W at *
 repeat (first|refine st ?_|refine qb fun bx=>?_)
 rename_i b6
 rename A0j=>βw
 refine Q_op fun ho=>A0i [] _ ho bod87 Z Z Z Z Z A1n (lists_x (n:=P) oM) (fun x β' hR=>?_)
 clear ho
 rename A0j=>βL
 refine A0w (β1:=βL++(βw++[(bx,#[Value.slice a W.length cap],93),(b3,#[Value.int .i64 f],3)])) (β2:=[(b6,(boV P F wa ws.length wc).cells,95),(b5,#[Value.int .i64 0],34),(b2,(boV P F wa ws.length wc).cells,24)])
  (show ∀p,Pal.cnt p (βL++(bx,#[Value.slice a W.length cap],93)::(βw++[(b6,(boV P F wa ws.length wc).cells,95),(b5,#[Value.int .i64 0],34),(b3,#[Value.int .i64 f],3),(b2,(boV P F wa ws.length wc).cells,24)]))=Pal.cnt p ((βL++(βw++[(bx,#[Value.slice a W.length cap],93),(b3,#[Value.int .i64 f],3)]))++[(b6,(boV P F wa ws.length wc).cells,95),(b5,#[Value.int .i64 0],34),(b2,(boV P F wa ws.length wc).cells,24)])from cntA) (fun hbk=>?_)
 have hv3:=A9c hbk (b:=b3) ib
 have hv7:=A9c hbk (b:=bx) ib
 have hrow:=RowAt.own hbk (show Subm βw (βL++(βw++[(bx,#[Value.slice a W.length cap],93),(b3,#[Value.int .i64 f],3)]))from cntL) hS
 obtain⟨aL,capL,rows,rfl,hrowL,hRL⟩:=hR.read hbk (show Subm βL (βL++(βw++[(bx,#[Value.slice a W.length cap],93),(b3,#[Value.int .i64 f],3)]))from cntL)
 have hlenL:=B3h (n:=P) oM
 repeat (first|refine st ?_|refine qb fun bx=>?_)
 refine Q_op fun ho=>A0i [] _ ho bod86 Z Z Z Z Z A1n (first_x (p:=fun x=>A9j W (orG x) f) (A0b _ _) hrowL hRL oM bod95 (fun l hl ai ci u hle hrl=>proofF_x hrl (fun y hy=>by have:=(A7y (n:=P) oM hl).2.2 y hy;omega) (by have:=(A7y (n:=P) oM hl).1;omega) oM hwlt oM (RowAt.le hrow ((A0b _ _).trans hle)) (hle _ _ (A1p hv7)) (hle _ _ (A1p hv3)))) (fun x β' hR=>?_)
 clear ho
 obtain⟨hR,rfl⟩:=hR
 unfold B4t
 cases hfo:(A2e P).find? (fun x=>A9j W (orG x) f)with
 | none=>
  rw [hfo]at hR
  subst hR
  repeat (first|refine st ?_|refine qb fun bx=>?_)
  refine Q_op fun ho=>A3d ho Z Z Z Z (fun _=>?_) (fun h=>by cases h)
  refine pn ?_
  exact A2n tab Z ib dM sb (xs:=[_,_]) (by exact .tmp rfl (.cell rfl ib rfl .nil)) (β':=[]) (Back.forget hbk (Back.here fun p=>Nat.zero_le _)) ⟨_,Z,ReadL.nil⟩
 | some l=>
  rw [hfo]at hR
  obtain⟨ai,ci,rfl,hrl⟩:=hR
  repeat (first|refine st ?_|refine qb fun bx=>?_)
  refine Q_op fun ho=>A3d ho Z Z Z Z (fun h=>by cases h) (fun _=>?_)
  clear ho
  repeat (first|refine st ?_|refine qb fun bx=>?_)
  exact A6e tab Z (β':=[]++(βL++(βw++[(bx,#[Value.slice a W.length cap],93),(b3,#[Value.int .i64 f],3)]))) (xs:=[_,_]) (by exact .tmp rfl (.cell rfl ib rfl .nil)) (Back.retired hbk (Back.here fun p=>Nat.zero_le _)) ⟨_,Z,ai,ci,Z,hrl⟩
end
end Go.Proofs.YtiolobmgibdfmaaGreat
end
section
namespace Go.Pal
open Go Go.Conc View
section
variable{P:Program}{mn:Who}(T:Tab P){rd:Option Nat}{n:Nat}{Q:Exit→St→View→Prop}{ds:List Deferred}{ρ:Regs}{β:A0j}{v:View}
 {ops:Array Oper}{i k:Nat}{S:List Rec}{done:List Nat}{ms:List Nat}{v0:View}{todo:List Nat}
def twoB(ops:Array Oper)(ms done:List Nat)(i k:Nat):Bool:=(Region.ready .any ops (mkL ops done)).contains i&&(Region.ready .any ops (mkL ops done)).all (fun j=>Nat.beq j i||Nat.beq j k)&&ms.contains i&&ms.contains k
theorem S_two(k:Nat)(hB:twoB ops ms done i k=true)(h1:XOp P mn (some 4294967295) n ops i (fun _ _ _=>False) (fun σ' u=>v.Le u∧KeepS ops i S σ'.β∧XS P mn n ops ms v0 Q (k::todo) S (i::done) σ' u) ⟨ds,ρ,β⟩ v)
  (h2:XOp P mn (some 4294967295) n ops k (fun _ _ _=>False) (fun σ' u=>v.Le u∧KeepS ops k S σ'.β∧XS P mn n ops ms v0 Q (i::todo) S (k::done) σ' u) ⟨ds,ρ,β⟩ v):XS P mn n ops ms v0 Q (i::k::todo) S done ⟨ds,ρ,β⟩ v:=fun a hf hb hv hc=>by
 simp only [twoB,Bool.and_eq_true]at hB
 obtain⟨⟨⟨hb1,hb2⟩,hb3⟩,hb4⟩:=hB
 have hri:i∈Region.ready .any ops (mkL ops done):=by simpa using hb1
 show AnyS P mn ops ms v0 (fun a u=>Post n Q .normal a u) (todo.length+1+1) (SV S) (mkL ops done) a (v.union (A0e β))
 refine⟨fun e=>(by rw [e]at hri;cases hri),fun j hj=>?_⟩
 have hr:=hj
 have hx:ms.contains j=true∧XOp P mn (some 4294967295) n ops j (fun _ _ _=>False) (fun σ' u=>v.Le u∧KeepS ops j S σ'.β∧XS P mn n ops ms v0 Q (k::todo) S (j::done) σ' u) ⟨ds,ρ,β⟩ v:=by
  have hji:=List.all_eq_true.1 hb2 j hj
  rw [Bool.or_eq_true]at hji
  rcases hji with hji|hji
  ·have:=Nat.eq_of_beq_eq_true hji;subst this;exact⟨hb3,h1⟩
  ·have:=Nat.eq_of_beq_eq_true hji;subst this;exact⟨hb4,h2⟩
 obtain⟨h3,h⟩:=hx
 obtain⟨o,ho,hw,hd,hs⟩:=h a hf hb
 unfold OpS
 simp only [ho,hw,if_true]
 have key:∀{a' w},KP n (fun σ' u=>v.Le u∧KeepS ops j S σ'.β∧XS P mn n ops ms v0 Q (k::todo) S (j::done) σ' u) a' w→Keeps ops ms v0 (SV S) j (v.union (A0e β)) w∧AnyS P mn ops ms v0 (fun a u=>Post n Q .normal a u) (todo.length+1) (SV S) ((mkL ops done).setIfInBounds j true) a' w:=by
  rintro a' w ⟨σ',u,⟨hl,hk,hx⟩,hf',hb',hw'⟩
  refine⟨?_,?_⟩
  ·unfold Keeps
   rw [if_pos h3]
   refine⟨((hv.trans hl).trans (A0b _ _)).trans hw',fun p hp hdp=>?_⟩
   obtain⟨b,c,t,he,hin⟩:=A8l hk p hp hdp
   rw [he]
   intro j' x e
   simp only [A0e]at e
   split at e
   ·rename_i hj';subst hj';cases e;exact hw' _ _ (A1f hb' hin)
   ·cases e
  ·exact A6c (K:=fun a u=>Post n Q .normal a u) (fun a u v hl hp=>post_le hl hp) _ _ _ _ _ _ hw' (hx _ hf' hb' (hv.trans hl) (A7f hc hr B0g))
 refine A2c _ (fun nx w hK=>?_) (fun x w hE=>?_) hs
 ·cases nx with
  | value x=>exact key hK
  | skip=>exact key hK
  | defer d=>exact absurd hK.1 sM
  | enter f args=>exact CallsX.mono hK fun e w' hR=>⟨w',Le.refl _,by
    cases e with
    | ret x=>exact key hR
    | pan ch=>obtain⟨_,_,hq,_⟩:=hR;exact hq⟩
  | round l f tmps assign body=>exact absurd rfl hK.1
  | _=>exact hK.elim
 ·obtain⟨_,_,hq,_⟩:=hE;exact hq
end
end Go.Pal
end
section
namespace Go.Proofs.YtiolobmgibdfmaaGreat
open Go Go.Pal Go.Pal.Vo Go.Conc View
open Go.Proofs.Tryz
set_option maxHeartbeats 4000000
set_option maxRecDepth 20000
section
variable{mn:Who}{v:View}
theorem sameInts_x{l m:List Int}{a b:Option Addr}{c1 c2:Nat}(hl:RowAt v a (l.map (.int .i64)))(hm:RowAt v b (m.map (.int .i64)))(h1:l.length<2^30)(h2:m.length<2^30):Ret1 prog mn 35 [.slice a l.length c1,.slice b m.length c2] (.bool (decide (l=m))) v:=by
 refine A0f tab func35 Z nB (args:=[_,_]) ?_
 repeat refine st ?_
 refine A1o (α:=Nat) (fun i=>⟨[],[(5,.int .i64 i),(0,.slice a l.length c1),(1,.slice b m.length c2)],[]⟩)
  (fun i u=>u=v∧i≤l.length∧i≤m.length∧l.take i=m.take i) (fun i=>l.length-i) 0 ⟨Z,rg,cntL⟩ (Le.refl _) ⟨Z,Nat.zero_le _,Nat.zero_le _,Z⟩ ?_
 rintro i u ⟨rfl,hi,hi',hp⟩
 have hend:¬(i<l.length∧i<m.length)→Value.bool (((l.length:Nat):Int)==((m.length:Nat):Int))=Value.bool (decide (l=m)):=fun hn=>by
  congr 1
  rw [Bool.eq_iff_iff,beq_iff_eq,decide_eq_true_eq]
  constructor
  ·intro e
   have e':l.length=m.length:=oM
   have h3:l.take i=l:=List.take_of_length_le oM
   have h4:m.take i=m:=List.take_of_length_le oM
   rw [←h3,←h4,hp]
  ·intro e;rw [e]
 repeat refine st ?_
 refine A6d Z Z (fun h=>?_) (fun h=>?_)
 ·replace h:=fa h
  have hlt:i<l.length:=oM
  clear h
  repeat refine st ?_
  refine A0t Z (fun h=>?_) (fun h=>?_)
  ·replace h:=fa h
   have hlt':i<m.length:=oM
   obtain⟨b1,o1,p1,k1,e1,f1,rfl,hv1,hc1⟩:=hl.ints hlt
   obtain⟨b2,o2,p2,k2,e2,f2,rfl,hv2,hc2⟩:=hm.ints hlt'
   clear h
   repeat refine st ?_
   refine A2i tab i Z Z Z Z Z Z Z hlt ?_
   refine A9d tab Z Z Z hv1 (A1b tab Z Z Z (by rw [Nat.mul_one];exact hc1 i hlt)) ?_
   repeat refine st ?_
   refine A2i tab i Z Z Z Z Z Z Z hlt' ?_
   refine A9d tab Z Z Z hv2 (A1b tab Z Z Z (by rw [Nat.mul_one];exact hc2 i hlt')) ?_
   repeat refine st ?_
   refine A0t Z (fun h=>?_) (fun h=>?_)
   ·have h:l[i]≠m[i]:=by simpa using h
    repeat refine st ?_
    refine A0l tab [] (by exact .tmp rfl .nil) (Back.here cntL) ?_
    have:decide (l=m)=false:=decide_eq_false fun e=>h (by subst e;rfl)
    rw [this];exact⟨Z,Z⟩
   ·have h:l[i]=m[i]:=by simpa using h
    repeat refine st ?_
    refine A0c ⟨i+1,_,(by have:=hlt;omega),⟨Z,rg,cntL⟩,Le.refl _,Z,hlt,hlt',?_⟩
    rw [List.take_succ_eq_append_getElem hlt,List.take_succ_eq_append_getElem hlt',hp,h]
  ·replace h:=fa h
   have hge:¬(i<l.length∧i<m.length):=oM
   clear h
   repeat refine st ?_
   refine A0l tab [] (by exact .tmp rfl .nil) (Back.here cntL) ?_
   exact⟨hend hge,Z⟩
 ·replace h:=fa h
  have hge:¬(i<l.length∧i<m.length):=oM
  clear h
  repeat refine st ?_
  refine A0l tab [] (by exact .tmp rfl .nil) (Back.here cntL) ?_
  exact⟨hend hge,Z⟩
theorem nat_row{a:Option Addr}{l:List Nat}(h:RowAt v a (l.map natV)):RowAt v a ((l.map Int.ofNat).map (.int .i64)):=by
 rw [List.map_map];exact h
theorem nat_inj{l m:List Nat}:(l.map Int.ofNat=m.map Int.ofNat)↔l=m:=⟨fun h=>(List.map_inj_right fun _ _ h=>Int.ofNat.inj h).1 h,fun h=>by rw [h]⟩
theorem A7c{l m:List Nat}{a b:Option Addr}{c1 c2:Nat}(hl:RowAt v a (l.map natV))(hm:RowAt v b (m.map natV))(h1:l.length<2^30)(h2:m.length<2^30):Ret1 prog mn 35 [.slice a l.length c1,.slice b m.length c2] (.bool (decide (l=m))) v:=by
 have:=sameInts_x (mn:=mn) (c1:=c1) (c2:=c2) (nat_row hl) (nat_row hm) (by simpa using h1) (by simpa using h2)
 simp only [List.length_map,nat_inj]at this
 exact this
theorem sameWorlds_x{l1 l2 m1 m2:List Nat}{a1 a2 b1 b2:Option Addr}{c1 c2 d1 d2:Nat}(h1:RowAt v a1 (l1.map natV))(h2:RowAt v a2 (l2.map natV))(k1:RowAt v b1 (m1.map natV))(k2:RowAt v b2 (m2.map natV))(hl1:l1.length<2^30)(hl2:l2.length<2^30)(hm1:m1.length<2^30)(hm2:m2.length<2^30) :
  Ret1 prog mn 31 [wldV a1 l1.length c1 a2 l2.length c2,wldV b1 m1.length d1 b2 m2.length d2] (.bool (decide (l1=m1)&&decide (l2=m2))) v:=by
 refine A0f tab func31 Z nB (args:=[_,_]) ?_
 repeat (first|refine st ?_|refine qb fun bx=>?_)
 refine Q_op fun ho=>A0s ho bod35 Z Z Z Z Z (A7c h1 k1 hl1 hm1) ?_
 clear ho
 cases hd:decide (l1=m1)with
 | true=>
  repeat (first|refine st ?_|refine qb fun bx=>?_)
  refine Q_op fun ho=>A0s ho bod35 Z Z Z Z Z (A7c h2 k2 hl2 hm2) ?_
  clear ho
  repeat (first|refine st ?_|refine qb fun bx=>?_)
  refine A0l tab [] (by exact .tmp rfl .nil) (Back.here cntL) ?_
  exact⟨Z,Z⟩
 | false=>
  repeat (first|refine st ?_|refine qb fun bx=>?_)
  refine A0l tab [] (by exact .tmp rfl .nil) (Back.here cntL) ?_
  exact⟨Z,Z⟩
theorem B1o{a b c d:Int}:Ret1 prog mn 74 [.int .i64 a,.int .i64 b,.int .i64 c,.int .i64 d] (wdV ⟨a,b,c,d⟩) v:=by
 refine A0f tab func74 Z nB (args:=[_,_,_,_]) ?_
 repeat (first|refine st ?_|refine qb fun bx=>?_)
 refine A0l tab (xs:=[wdV ⟨a,b,c,d⟩]) [] (by exact .cell rfl ib rfl .nil) (Back.here fun p=>Nat.zero_le _) ⟨Z,Z⟩
def OwnV(β:A0j)(r:Value)(P F:Int)(ws:List Wd):Prop:=∃a cap,r=boV P F a ws.length cap∧OwnS 26 4 β a ws.length cap (ws.map wdC).flatten
theorem wds_one(ws:List Wd):(ws.map wdC).flatten.all A3z=true:=by
 induction ws with
 | nil=>rfl
 | cons x l ih=>rw [List.map_cons,List.flatten_cons,List.all_append,ih];rfl
theorem with_x{P F:Int}{wa:Option Addr}{wc:Nat}{ws:List Wd}{x:Wd}(hws:WdsAt v wa ws)(hwl:ws.length<2^20):CallsB prog mn 64 #[boV P F wa ws.length wc,wdV x] (RetB fun r β'=>OwnV β' r P F (ws++[x])) [] v:=by
 refine A0f tab func64 Z nB (args:=[_,_]) ?_
 repeat (first|refine st ?_|refine qb fun bx=>?_)
 rename_i bx2 bx3
 refine A2u [0,3,5,6,8] [1,2,4,0,5,3,6,7,8] A1w Z kR ?_
 repeat (first|refine st ?_|refine qb fun bx=>?_)
 refine S_two 5 kR (A3x tab Z Z Z Z Z Z Z Z Z Z (fun b3 c3 hL=>⟨Le.refl _,kp,?_⟩)) (A3x tab Z Z Z Z Z Z Z Z Z Z (fun b5 c5 hL5=>⟨Le.refl _,kp,?_⟩))
 ·refine S_two 3 kR (A3x tab Z Z Z Z Z Z Z Z Z Z (fun b5 c5 hL5=>⟨Le.refl _,kp,?_⟩)) (A2w tab (xs:=(ws.map wdC).flatten) [(b3,c3,26)] [] ([(bx,(Value.agg #[Value.int .i64 0,Value.int .i64 0,Value.slice none 0 0]).cells,24),(bx3,(wdV x).cells,26),(bx2,(boV P F wa ws.length wc).cells,24)]) Z Z Z Z Z Z Z Z Z Z Z cntA hL (fun hb=>RowAt.le hws (A0b _ _)) (A4m ws) (wds_one ws) (by show(2*(0+ws.length)+768)*32≤2^48;omega) oM (fun seg2 a2 cap2 hS2=>⟨Le.refl _,kp,?_⟩))
  ·refine S_do kR (A2w tab (xs:=(ws.map wdC).flatten) [(b3,c3,26)] [] ((b5,c5,26)::[(bx,(Value.agg #[Value.int .i64 0,Value.int .i64 0,Value.slice none 0 0]).cells,24),(bx3,(wdV x).cells,26),(bx2,(boV P F wa ws.length wc).cells,24)]) Z Z Z Z Z Z Z Z Z Z Z cntA hL (fun hb=>RowAt.le hws (A0b _ _)) (A4m ws) (wds_one ws) (by show(2*(0+ws.length)+768)*32≤2^48;omega) oM (fun seg2 a2 cap2 hS2=>⟨Le.refl _,kp,?_⟩))
   repeat (refine ss ?_)
   rw [Nat.zero_add]at hS2
   have e0:(0+ws.length)=ws.length:=Nat.zero_add _
   refine S_do kR (A2w tab (len:=0+ws.length) (xs:=wdC x) seg2 [(b5,c5,26)] [(bx,(Value.agg #[Value.int .i64 0,Value.int .i64 0,Value.slice none 0 0]).cells,24),(bx3,(wdV x).cells,26),(bx2,(boV P F wa ws.length wc).cells,24)] Z Z Z Z Z Z Z Z Z Z Z cntA (by rw [e0];exact hS2) (fun hb=>RowAt.own hb cntL hL5) Z Z (by show(2*(0+ws.length+1)+768)*32≤2^48;omega) oM (fun seg6 a6 cap6 hS6=>⟨Le.refl _,kp,?_⟩))
   rw [e0]at hS6⊢
   repeat (first|refine st ?_|refine qb fun bx=>?_)
   refine A0l tab (xs:=[boV P F a6 (ws.length+1) cap6]) seg6 (by exact .cell rfl ib rfl .nil) (Back.here cntL) ?_
   exact⟨a6,cap6,by rw [List.length_append];rfl,by rw [List.length_append,List.map_append,List.flatten_append];exact hS6⟩
  ·refine S_do kR (A3x tab Z Z Z Z Z Z Z Z Z Z (fun b5 c5 hL5=>⟨Le.refl _,kp,?_⟩))
   repeat (refine ss ?_)
   rw [Nat.zero_add]at hS2
   have e0:(0+ws.length)=ws.length:=Nat.zero_add _
   refine S_do kR (A2w tab (len:=0+ws.length) (xs:=wdC x) seg2 [(b5,c5,26)] [(bx,(Value.agg #[Value.int .i64 0,Value.int .i64 0,Value.slice none 0 0]).cells,24),(bx3,(wdV x).cells,26),(bx2,(boV P F wa ws.length wc).cells,24)] Z Z Z Z Z Z Z Z Z Z Z cntA (by rw [e0];exact hS2) (fun hb=>RowAt.own hb cntL hL5) Z Z (by show(2*(0+ws.length+1)+768)*32≤2^48;omega) oM (fun seg6 a6 cap6 hS6=>⟨Le.refl _,kp,?_⟩))
   rw [e0]at hS6⊢
   repeat (first|refine st ?_|refine qb fun bx=>?_)
   refine A0l tab (xs:=[boV P F a6 (ws.length+1) cap6]) seg6 (by exact .cell rfl ib rfl .nil) (Back.here cntL) ?_
   exact⟨a6,cap6,by rw [List.length_append];rfl,by rw [List.length_append,List.map_append,List.flatten_append];exact hS6⟩
 ·refine S_do kR (A3x tab Z Z Z Z Z Z Z Z Z Z (fun b3 c3 hL=>⟨Le.refl _,kp,?_⟩))
  refine S_do kR (A2w tab (xs:=(ws.map wdC).flatten) [(b3,c3,26)] [] ((b5,c5,26)::[(bx,(Value.agg #[Value.int .i64 0,Value.int .i64 0,Value.slice none 0 0]).cells,24),(bx3,(wdV x).cells,26),(bx2,(boV P F wa ws.length wc).cells,24)]) Z Z Z Z Z Z Z Z Z Z Z cntA hL (fun hb=>RowAt.le hws (A0b _ _)) (A4m ws) (wds_one ws) (by show(2*(0+ws.length)+768)*32≤2^48;omega) oM (fun seg2 a2 cap2 hS2=>⟨Le.refl _,kp,?_⟩))
  repeat (refine ss ?_)
  rw [Nat.zero_add]at hS2
  have e0:(0+ws.length)=ws.length:=Nat.zero_add _
  refine S_do kR (A2w tab (len:=0+ws.length) (xs:=wdC x) seg2 [(b5,c5,26)] [(bx,(Value.agg #[Value.int .i64 0,Value.int .i64 0,Value.slice none 0 0]).cells,24),(bx3,(wdV x).cells,26),(bx2,(boV P F wa ws.length wc).cells,24)] Z Z Z Z Z Z Z Z Z Z Z cntA (by rw [e0];exact hS2) (fun hb=>RowAt.own hb cntL hL5) Z Z (by show(2*(0+ws.length+1)+768)*32≤2^48;omega) oM (fun seg6 a6 cap6 hS6=>⟨Le.refl _,kp,?_⟩))
  rw [e0]at hS6⊢
  repeat (first|refine st ?_|refine qb fun bx=>?_)
  refine A0l tab (xs:=[boV P F a6 (ws.length+1) cap6]) seg6 (by exact .cell rfl ib rfl .nil) (Back.here cntL) ?_
  exact⟨a6,cap6,by rw [List.length_append];rfl,by rw [List.length_append,List.map_append,List.flatten_append];exact hS6⟩
end
end Go.Proofs.YtiolobmgibdfmaaGreat
end
