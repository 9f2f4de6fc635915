/- Part 41. -/
import Derived.Carry
import Derived.ChangeShapes
import Derived.ChangeSlices
import Derived.Conc.HoldsTime
import Derived.RowKit
import Derived.Test.YtclejblcnfaeaaaGreatDoorPah
set_option linter.all false
section
namespace Go.Proofs.YtclejblcnfaeaaaGreatDoor
open Go Go.Pal Go.Conc Go.ConcM Go.RowKit Go.ChangeShapes Go.WideShapes Go.ChangeAt
theorem laid:laidOutB Tryz.prog=true:=by kernel_rfl
theorem cells3:Tryz.prog.cellsOf 3=1:=by kernel_rfl
theorem row22:Tryz.prog.readableRec 22=true:=by kernel_rfl
theorem lt22:22<Tryz.prog.types.size:=of_decide_eq_true kR
set_option maxRecDepth 100000 in
theorem open_nums{H:Type}{enc:TypeId×Value→H}{W:World}{base:Nat}{v0:Value}{d0:DataW H}{p:List MemPlace}(hval:Value.okWide Tryz.prog W .any base 22 v0)(h0:DataW.Trod enc Tryz.prog W 0 (fun _=>true) true 22 v0 d0 p)(hlt:∀x∈p,x.block<W.heap.size) :
  ∃ a0 cap ns,∃v:View,v0 = .slice a0 (ns:List Int).length cap∧v.Agree W∧(∀b,¬v.Owns b)∧RowAt v a0 (ns.map (.int .i64))∧
   ∀w':World,Below W.heap.size W w'→DataW.Trod enc Tryz.prog w' 0 (fun b=>decide (b<W.heap.size)) true 22 v0 d0 p:=by
 have hargs:∀w':World,Below W.heap.size W w'→DataW.Trod enc Tryz.prog w' 0 (fun b=>decide (b<W.heap.size)) true 22 v0 d0 p:=fun w' hb=>
  Below.trod laid row22 lt22 h0 hb hlt
 obtain⟨a0,len,cap,rfl⟩:=okWide_slice Tryz.underlying22 hval
 obtain⟨fuel0,hf⟩:=h0
 have hnil:∀(a0:Option Addr) (cap:Nat),∃v:View,v.Agree W∧(∀b,¬v.Owns b)∧RowAt v a0 (([]:List Int).map (.int .i64)):=fun a0 cap=>
  ⟨fun _=>none,(fun b p o h=>nomatch (show none=some (p,o)from h)),(fun b h=>by obtain⟨o,h⟩:=h;cases h),.inl rfl⟩
 rcases open_ints Tryz.underlying22 Tryz.underlying3 cells3 hf with ⟨hcs,hx⟩|⟨a,len',cap',zs,hcs,_,hl,hm,hz,hx,hcell,hwz⟩
 ·simp [Value.cells]at hcs
  obtain⟨rfl,rfl,rfl⟩:=hcs
  obtain⟨v,h1,h2,h3⟩:=hnil none 0
  exact⟨none,0,[],v,Y,h1,h2,h3,hargs⟩
 ·simp [Value.cells]at hcs
  obtain⟨rfl,rfl,rfl⟩:=hcs
  simp only [if_true]at hz
  by_cases hl0:len=0
  ·subst hl0
   obtain⟨v,h1,h2,h3⟩:=hnil (some a) cap
   exact⟨some a,cap,[],v,Y,h1,h2,h3,hargs⟩
  ·obtain⟨b,off,spot⟩:=a
   have h00:=hcell 0 oM
   have hspot:spot=none:=by simpa [Addr.add]using World.cell?_spot h00
   subst hspot
   have hcell':∀i,i<zs.length→W.cell? ⟨b,off+i,none⟩=some (.int .i64 (zs.getD i 0)):=fun i hi=>by
    have:=hcell i hi
    rwa [add_plain]at this
   obtain⟨c,e,f,hO⟩:∃c e f,W.heap[b]?=some (.cells c e f):=by
    have:=hcell' 0 oM
    unfold World.cell? at this
    split at this
    ·rename_i c e f h;exact⟨c,e,f,h⟩
    ·cases this
   have hc:∀i,i<zs.length→c[off+i]?=some (.int .i64 (zs.getD i 0)):=fun i hi=>by
    have:=hcell' i hi
    unfold World.cell? at this
    rw [hO]at this
    simpa using this
   have hlen:(zs.take len).length=len:=by rw [List.length_take];omega
   refine⟨some ⟨b,off,none⟩,cap,zs.take len,fun k=>if k=b then some (false,.cells c e f)else none,by rw [hlen],fun k p o h=>?_,fun k h=>?_,.inr ⟨b,off,false,c,e,f,Y,if_pos Y,?_,fun i x hi=>?_⟩,hargs⟩
   ·dsimp only at h
    by_cases hk:k=b
    ·subst hk
     rw [if_pos rfl]at h
     cases h
     exact hO
    ·rw [if_neg hk]at h;cases h
   ·obtain⟨o,h⟩:=h
    dsimp only at h
    by_cases hk:k=b
    ·rw [if_pos hk]at h;cases h
    ·rw [if_neg hk]at h;cases h
   ·rw [List.length_map,hlen]
    have h1:=hc (len-1) oM
    have h2:=(Array.getElem?_eq_some_iff.1 h1).1
    omega
   ·rw [List.getElem?_map,Option.map_eq_some_iff]at hi
    obtain⟨y,hy,rfl⟩:=hi
    rw [List.getElem?_take]at hy
    split at hy
    ·rename_i hil
     rw [hc i oM]
     rw [List.getD_eq_getElem?_getD,hy];rfl
    ·cases hy
end Go.Proofs.YtclejblcnfaeaaaGreatDoor
end
