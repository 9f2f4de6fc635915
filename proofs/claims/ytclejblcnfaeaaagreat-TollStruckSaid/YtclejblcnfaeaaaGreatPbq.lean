/- Part 43. -/
import Derived.Test.YtclejblcnfaeaaaGreatPbp
set_option linter.all false
section
namespace Go.Pal.To
open Go
theorem hasN_bit(s n:Nat):hasN s n=s.testBit n:=by
 unfold hasN
 rw [Nat.testBit_eq_decide_div_mod_eq]
 by_cases h:s / 2 ^ n % 2=1
 ·simp [h]
 ·simp [h]
end Go.Pal.To
end
section
namespace Go.Proofs.YtclejblcnfaeaaaGreat
open Go Go.Pal Go.Pal.To Go.Conc View
open Go.Proofs.Tryz
set_option maxHeartbeats 4000000
set_option maxRecDepth 20000
theorem C_cutS{P:Program}{mn:Who}{rd:Option Nat}{n:Nat}{Q:Exit→St→View→Prop}{σ:St}{v:View}{x y:Code}(M:St→View→Prop)(h':∀τ u,M τ u→XC P mn rd n y Q τ u)(h:XC P mn rd n x (LoopQ (fun σ' u'=>∃τ u,M τ u∧Sub τ σ'∧u.Le u') Q) σ v):XC P mn rd n x (SeqQ P mn rd n y Q) σ v:=
 B0t h fun e σ u hq=>by
  cases e with
  | normal=>
   unfold LoopQ at hq
   obtain⟨τ,u',hm,hs,hl⟩:=hq
   exact A3z (XC_sub (h' τ u' hm) hs hl)
  | _=>unfold LoopQ at hq;unfold SeqQ;exact hq
theorem struck_len{P:Int}{d:List Int}{a b:List MA}(hL:LOk P d a b){r:Int×List Int×List Int}(h:A4y P d a b r):r.2.1.length≤8∧r.2.2.length≤8:=by
 unfold A4y at h
 rw [if_neg (by simpa using layE_ok.2 hL)]at h
 obtain⟨s,_,rfl,_⟩:=h
 have hla:=hL.la
 have hlb:=hL.lb
 exact⟨Nat.le_trans (pL_len _ _ _) oM,Nat.le_trans (qL_len _ _ _) oM⟩
end Go.Proofs.YtclejblcnfaeaaaGreat
end
