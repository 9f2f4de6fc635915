/- the laws of the toll clerks -/
import Derived.Conc.HoldsTime
import Derived.Test.YtclejblcnfaeaaaGreatDoorPah
set_option linter.all false
section
namespace Go.Pal
open Go Go.Conc View
def AtTop(f:FuncId)(t:Nat):View→Goroutine→Prop:=fun _ g=>∃fr:Frame,g=G fr []∧fr.mode = .returning∧fr.defers=[]∧fr.kind = .normal∧fr.fn=f∧fr.tmps[t]?=some (.bool true)
section
variable{P:Program}{mn:Who}{v:View}
theorem law_run{f:FuncId}{fn:Func}{args:List Value}{t:Nat}{W:World}(hf:P.funcs[f]?=some fn)(hres:fn.results=#[.tmp t])(hinit:P.inits.idxOf? f=none)(hag:v.Agree W)(hro:∀b,¬v.Owns b)
  (h:Run P ⟨true,true⟩ (AtTop f t) v (G (Frame.enter P f args.toArray .normal) [])) :
  ∃ M last o w' t',runNT P (M+1) (solo (G (Frame.enter P f args.toArray .normal) []) W) #[]=(.ended o w',t')∧runN P M (solo (G (Frame.enter P f args.toArray .normal) []) W) = .next last∧
   step P last = .ended o w'∧Go.Conc.Good P (fun x W'=>x = .bool true∧Go.RowKit.Below W.heap.size W {W' with os:=W.os }∧SameOs W.os W'.os) last o w' t':=by
 rw [solo_eq_crowd]
 have hS:Past (ShunL (fun _=>False)) W.heap.size #[]:=by
  have h0:=past_nil.mono (Nat.zero_le W.heap.size)
  refine⟨h0.clean,fun i a ha hm=>?_,h0.over,h0.hears,h0.seen⟩
  simp [touchAt,Trace.act?]at ha
 obtain⟨N,gs',w',sl',t',q',S',v',g',h1,h2,h3,h4,h5⟩:=run_big rfl h #[G (Frame.enter P f args.toArray .normal) []] W none #[] (fun _=>0) (fun _=>False)
  ⟨Y,leavers_one _ _,hS,hag,fun _ h=>h.elim,fun _ h=>h.elim,(show Mild W.tape from Y),fun op hop=>by simp at hop⟩
 obtain⟨fr,rfl,k1,k2,k3,k4,k5⟩:=h5
 have hB:Go.RowKit.Below W.heap.size W {w' with os:=W.os }:=⟨rfl,h3.tape,h3.output,h3.size,fun k hk=>h3.keep k hk (hro k)⟩
 obtain⟨M,last,o,w2,t2,e1,e2,e3,e4⟩:=beside_ends (P:=P) (Shun:=ShunL S') (B:=w'.heap.size) (D:=fun _ _ _=>False) (Post:=fun x W'=>x = .bool true∧Go.RowKit.Below W.heap.size W {W' with os:=W.os }∧SameOs W.os W'.os) (sl:=sl') (n:=0) (w:=w') (a:=G fr [])
  (fun _ _ _ h=>h.elim) h2.zero h2.leave h2.past (by
   intro w₁ hw
   obtain⟨d,rfl⟩:=hw
   refine⟨Y,.bool true,#[],?_,by simp,Y,⟨hB.os,hB.tape,hB.output,hB.size,hB.block⟩,h3.os⟩
   simp [G,stepG,k1,unwind,k2,k3,k4,hf,results,hres,k5,doReturn,hinit,GStep.after,seen_none,Sem.runT,Sem.bind])
 refine⟨N+M,last,o,w2,t2,?_,?_,e3,e4⟩
 ·rw [Nat.add_assoc,runNT_add,h1];exact e1
 ·rw [runN_add,←runNT_fst P _ _ #[],h1];exact e2
end
end Go.Pal
end
