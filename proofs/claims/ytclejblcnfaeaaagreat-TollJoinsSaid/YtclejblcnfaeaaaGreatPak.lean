/- Part 11. -/
import Derived.Test.YtclejblcnfaeaaaGreatPaj
set_option linter.all false
section
namespace Go.Proofs.YtclejblcnfaeaaaGreat
open Go Go.Pal Go.Pal.To Go.Conc View
open Go.Proofs.Tryz
set_option maxHeartbeats 4000000
set_option maxRecDepth 20000
section
variable{mn:Who}{v:View}
theorem saleOf_x{a b h:Int}:Ret1 prog mn 248 [.agg (List.toArray [intV a,intV b,intV h])] (intV h) v:=by
 refine A0d tab func248 Y nB (args:=[_]) ?_
 repeat (first|refine st ?_|refine qb fun bx=>?_)
 refine A0g tab [] (by exact .tmp rfl .nil) (Back.here cntL) ?_
 exact⟨Y,Y⟩
theorem claimOf_x{a b h:Int}:Ret1 prog mn 246 [.agg (List.toArray [intV a,intV b,intV h])] (intV h) v:=by
 refine A0d tab func246 Y nB (args:=[_]) ?_
 repeat (first|refine st ?_|refine qb fun bx=>?_)
 refine A0g tab [] (by exact .tmp rfl .nil) (Back.here cntL) ?_
 exact⟨Y,Y⟩
theorem askedOf_x{h:Int}:Ret1 prog mn 250 [.agg (List.toArray [intV h])] (intV h) v:=by
 refine A0d tab func250 Y nB (args:=[_]) ?_
 repeat (first|refine st ?_|refine qb fun bx=>?_)
 refine A0g tab [] (by exact .tmp rfl .nil) (Back.here cntL) ?_
 exact⟨Y,Y⟩
theorem meth203:methB prog 203 "palfrey/toll.of" 248=true:=by kernel_rfl
theorem meth168:methB prog 168 "palfrey/toll.of" 246=true:=by kernel_rfl
theorem meth207:methB prog 207 "palfrey/toll.of" 250=true:=by kernel_rfl
def _root_.Go.Pal.To.MA.deed(x:MA):Value:=
 if x.k=0 then .iface 203 (.agg (List.toArray [intV x.a,intV x.b,intV x.h]))else if x.k=2 then .iface 168 (.agg (List.toArray [intV x.a,intV x.b,intV x.h]))else .iface 207 (.agg (List.toArray [intV x.h]))
theorem deedOf_x{x:MA}(hk:x.k=0∨x.k=1∨x.k=2):Ret1 prog mn 107 [x.val] x.deed v:=by
 obtain⟨k,a,b,hn⟩:=x
 simp only at hk
 refine A0d tab func107 Y nB (args:=[_]) ?_
 rcases hk with rfl|rfl|rfl
 ·repeat (first|refine st ?_|refine qb fun bx=>?_)
  refine A0g tab [] (by exact .tmp rfl .nil) (Back.here cntL) ?_
  exact⟨Y,Y⟩
 ·repeat (first|refine st ?_|refine qb fun bx=>?_)
  refine A0g tab [] (by exact .tmp rfl .nil) (Back.here cntL) ?_
  exact⟨Y,Y⟩
 ·repeat (first|refine st ?_|refine qb fun bx=>?_)
  refine A0g tab [] (by exact .tmp rfl .nil) (Back.here cntL) ?_
  exact⟨Y,Y⟩
abbrev owC(x0 x1:Value)(os:List Int):Array Value:=List.toArray [x0,x1,intV (ow os 0),intV (ow os 1),intV (ow os 2)]
theorem owC_at{x0 x1:Value}{os:List Int}{h:Nat}(h3:h<3):(owC x0 x1 os)[2+h*1]?=some (intV (ow os h)):=by
 rcases (by omega:h=0∨h=1∨h=2)with rfl|rfl|rfl<;>rfl
theorem owC_set{x0 x1:Value}{os:List Int}{h:Nat}{b:Int}(hh:h<os.length)(h3:h<3):(putV (owC x0 x1 os).toList (2+h*1) [intV b]).toArray=owC x0 x1 (os.set h b):=by
 rcases (by omega:h=0∨h=1∨h=2)with rfl|rfl|rfl<;>simp [owC,putV,ow_set hh]
theorem do_x{x0 x1:Value}{os:List Int}{b:Nat}{t:TypeId}{x:MA}(hl:os.length≤3)(hk:x.k=0∨x.k=1∨x.k=2)(hh:0≤x.h∧x.h<os.length) :
  CallsB prog mn 106 #[.pointer (some ⟨b,2,none⟩),x.deed] (RetB fun r β'=>(∃e,r = .tuple #[.string (B2p os x),e]∧((refd os x=false∧e = .nilIface)∨(refd os x=true∧∃tx vx,e = .iface tx vx)))∧β'=[(b,owC x0 x1 (doN os x),t)]) [(b,owC x0 x1 os,t)] v:=by
 have hs:=sold_iff (os:=os) (x:=x) hh
 have hr:=refd_iff (os:=os) (x:=x) hh
 obtain⟨k,xa,xb,xh⟩:=x
 simp only at hk hh
 obtain⟨h,rfl⟩:=Int.eq_ofNat_of_zero_le hh.1
 have hlt:h<os.length:=oM
 have h3:h<3:=oM
 have hown:ownH os (h:Int)=ow os h:=rfl
 simp only [hown]at hs hr
 refine A0d tab func106 Y nB (args:=[_,_]) ?_
 rcases hk with rfl|rfl|rfl
 ·repeat (first|refine st ?_|refine qb fun bx=>?_)
  refine A1d [2] [0,1,3,2,4,5,6] A1f Y kR ?_
  repeat (first|refine st ?_|refine qb fun bx=>?_)
  refine S_do kR (A_inv1 tab Y bod248 meth203 Y Y Y Y Y Y Y saleOf_x ⟨Le.refl _,kp,?_⟩)
  repeat (first|refine st ?_|refine qb fun bx=>?_)
  refine S_elemA tab h Y Y Y kR Y Y Y Y Y h3 ?_
  refine A1c tab Y Y Y kR Y ib (A0j tab Y Y Y (owC_at h3)) ?_
  repeat (first|refine st ?_|refine qb fun bx=>?_)
  by_cases ho:ow os h=xa
  ·have hsold:sold os ⟨0,xa,xb,h⟩=true:=hs.2 ⟨Y,ho⟩
   have hrefd:refd os ⟨0,xa,xb,h⟩=false:=by
    cases e:refd os ⟨0,xa,xb,h⟩with
    | false=>rfl
    | true=>exact absurd ho (hr.1 e).2
   rw [show(ow os h != xa)=false from by simpa using ho]
   repeat (first|refine st ?_|refine qb fun bx=>?_)
   refine A1d [7] [0,1,2,3,4,5,6,7] A1f Y kR ?_
   repeat (first|refine st ?_|refine qb fun bx=>?_)
   refine S_elemA tab h Y Y Y kR Y Y Y Y Y h3 ?_
   repeat (refine ss ?_)
   refine S_do kR (A2v tab Y Y Y Y Y Y Y ib (by apply Nat.ble_eq_true_of_le;show 2+h*1+1≤5;omega) sb ⟨Le.refl _,kp,?_⟩)
   repeat (first|refine st ?_|refine qb fun bx=>?_)
   refine A0g tab [(b,owC x0 x1 (os.set h xb),t)] (by exact .tmp rfl (.tmp rfl .nil)) (Back.here ?_) ?_
   ·rw [←owC_set hlt h3]
    exact fun p=>Nat.le_add_left _ _
   ·refine⟨⟨_,?_,.inl ⟨hrefd,Y⟩⟩,?_⟩
    ·unfold B2p;rw [if_pos rfl,if_pos hsold];rfl
    ·unfold doN;rw [if_pos hsold];rfl
  ·have hsold:sold os ⟨0,xa,xb,h⟩=false:=by
    cases e:sold os ⟨0,xa,xb,h⟩with
    | false=>rfl
    | true=>exact absurd (hs.1 e).2 ho
   have hrefd:refd os ⟨0,xa,xb,h⟩=true:=hr.2 ⟨Y,ho⟩
   rw [show(ow os h != xa)=true from by simpa using ho]
   repeat (first|refine st ?_|refine qb fun bx=>?_)
   refine A0g tab [(b,owC x0 x1 os,t)] (by exact .tmp rfl (.tmp rfl .nil)) (Back.here cntL) ?_
   have hrp:B2p os ⟨0,xa,xb,h⟩=⟨#[110,111]⟩:=by unfold B2p;rw [if_pos Y,if_neg (by simp [hsold])]
   rw [hrp]
   refine⟨⟨_,Y,.inr ⟨hrefd,_,_,Y⟩⟩,?_⟩
   ·unfold doN;rw [if_neg (by simp [hsold])]
 ·have hsold:sold os ⟨1,xa,xb,h⟩=false:=rfl
  have hrefd:refd os ⟨1,xa,xb,h⟩=false:=rfl
  repeat (first|refine st ?_|refine qb fun bx=>?_)
  refine A1d [2] [0,1,3,2,4,5,6] A1f Y kR ?_
  repeat (first|refine st ?_|refine qb fun bx=>?_)
  refine S_do kR (A_inv1 tab Y bod250 meth207 Y Y Y Y Y Y Y askedOf_x ⟨Le.refl _,kp,?_⟩)
  repeat (first|refine st ?_|refine qb fun bx=>?_)
  refine S_elemA tab h Y Y Y kR Y Y Y Y Y h3 ?_
  refine A1c tab Y Y Y kR Y ib (A0j tab Y Y Y (owC_at h3)) ?_
  repeat (first|refine st ?_|refine qb fun bx=>?_)
  refine A0g tab [(b,owC x0 x1 os,t)] (by exact .tmp rfl (.tmp rfl .nil)) (Back.here cntL) ?_
  refine⟨⟨_,?_,.inl ⟨hrefd,Y⟩⟩,?_⟩
  ·unfold B2p;dsimp only;rw [if_neg dM,if_neg dM,hown];rfl
  ·unfold doN;rw [if_neg (by simp [hsold])]
 ·have hsold:sold os ⟨2,xa,xb,h⟩=false:=rfl
  have hrefd:refd os ⟨2,xa,xb,h⟩=false:=rfl
  repeat (first|refine st ?_|refine qb fun bx=>?_)
  refine A1d [2] [0,1,3,2,4,5,6] A1f Y kR ?_
  repeat (first|refine st ?_|refine qb fun bx=>?_)
  refine S_do kR (A_inv1 tab Y bod246 meth168 Y Y Y Y Y Y Y claimOf_x ⟨Le.refl _,kp,?_⟩)
  repeat (first|refine st ?_|refine qb fun bx=>?_)
  refine S_elemA tab h Y Y Y kR Y Y Y Y Y h3 ?_
  refine A1c tab Y Y Y kR Y ib (A0j tab Y Y Y (owC_at h3)) ?_
  repeat (first|refine st ?_|refine qb fun bx=>?_)
  by_cases ho:ow os h=xb
  ·rw [show(ow os h != xb)=false from by simpa using ho]
   repeat (first|refine st ?_|refine qb fun bx=>?_)
   refine A0g tab [(b,owC x0 x1 os,t)] (by exact .tmp rfl (.tmp rfl .nil)) (Back.here cntL) ?_
   refine⟨⟨_,?_,.inl ⟨hrefd,Y⟩⟩,?_⟩
   ·unfold B2p;dsimp only;rw [if_neg dM,if_pos rfl,hown,if_pos ho];rfl
   ·unfold doN;rw [if_neg (by simp [hsold])]
  ·rw [show(ow os h != xb)=true from by simpa using ho]
   repeat (first|refine st ?_|refine qb fun bx=>?_)
   refine A0g tab [(b,owC x0 x1 os,t)] (by exact .tmp rfl (.tmp rfl .nil)) (Back.here cntL) ?_
   refine⟨⟨_,?_,.inl ⟨hrefd,Y⟩⟩,?_⟩
   ·unfold B2p;dsimp only;rw [if_neg dM,if_pos rfl,hown,if_neg ho];rfl
   ·unfold doN;rw [if_neg (by simp [hsold])]
theorem open_x{P:Int}{a:Option Addr}{cap:Nat}{d:List Int}(hd:RowAt v a (d.map intV))(hlen:1≤d.length∧d.length≤3) :
  CallsB prog mn 105 #[moV P a d.length cap] (RetB fun r β'=>∃b,r = .pointer (some ⟨b,0,none⟩)∧β'=[(b,owC (intV P) (.slice a d.length cap) d,160)]) [] v:=by
 refine A0d tab func105 Y nB (args:=[_]) ?_
 repeat (first|refine st ?_|refine qb fun bx=>?_)
 rename_i b1
 refine A1k (α:=Nat) (fun i=>⟨[],[(8,.int .i64 i),(3,.pointer (some ⟨bx,0,none⟩)),(2,.pointer none),(1,.pointer (some ⟨b1,0,none⟩))],[(bx,List.toArray [intV P,.slice a d.length cap,intV (if 0<i then -1 else 0),intV (if 1<i then -1 else 0),intV (if 2<i then -1 else 0)],160),(b1,List.toArray [intV P,.slice a d.length cap],24)]⟩)
  (fun i u=>u=v∧i≤3) (fun i=>3-i) 0 ⟨Y,rg,cntL⟩ (Le.refl _) ⟨Y,Nat.zero_le _⟩ ?_
 rintro i u ⟨rfl,hi⟩
 repeat (first|refine st ?_|refine qb fun bx=>?_)
 refine A0y Y (fun h=>?_) (fun h=>?_)
 ·replace h:=fa h
  rcases (by omega:i=0∨i=1∨i=2)with rfl|rfl|rfl
  ·repeat (first|refine st ?_|refine qb fun bx=>?_)
   refine B3o tab 0 Y Y Y Y Y Y Y oM ?_
   repeat (first|refine st ?_|refine qb fun bx=>?_)
   exact A0a ⟨1,u,oM,⟨Y,rg,cntL⟩,Le.refl _,Y,oM⟩
  ·repeat (first|refine st ?_|refine qb fun bx=>?_)
   refine B3o tab 1 Y Y Y Y Y Y Y oM ?_
   repeat (first|refine st ?_|refine qb fun bx=>?_)
   exact A0a ⟨2,u,oM,⟨Y,rg,cntL⟩,Le.refl _,Y,oM⟩
  ·repeat (first|refine st ?_|refine qb fun bx=>?_)
   refine B3o tab 2 Y Y Y Y Y Y Y oM ?_
   repeat (first|refine st ?_|refine qb fun bx=>?_)
   exact A0a ⟨3,u,oM,⟨Y,rg,cntL⟩,Le.refl _,Y,oM⟩
 ·replace h:=fa h
  have:i=3:=oM
  subst this
  repeat (first|refine st ?_|refine qb fun bx=>?_)
  rcases d with _|⟨x,_|⟨y,_|⟨z,_|⟨w,l⟩⟩⟩⟩
  ·simp at hlen
  ·refine A1d [3,6] [0,1,2,4,5,3,6] A1f Y kR ?_
   repeat (first|refine st ?_|refine qb fun bx=>?_)
   refine S_do kR (B0x tab Y Y Y Y Y Y ⟨Le.refl _,kp,?_⟩)
   repeat (first|refine st ?_|refine qb fun bx=>?_)
   refine S_do kR (A_copy (xs:=[intV x]) tab Y Y Y Y Y Y Y (hd.le (A0e _ _)) Y Y nB ib nB sb ⟨Le.refl _,kp,?_⟩)
   repeat (first|refine st ?_|refine qb fun bx=>?_)
   refine A0g tab [(bx,owC (intV P) (.slice a 1 cap) [x],160)] (by exact .tmp rfl .nil) (Back.here fun p=>Nat.add_le_add_left (Nat.zero_le _) _) ?_
   exact⟨_,Y,Y⟩
  ·refine A1d [3,6] [0,1,2,4,5,3,6] A1f Y kR ?_
   repeat (first|refine st ?_|refine qb fun bx=>?_)
   refine S_do kR (B0x tab Y Y Y Y Y Y ⟨Le.refl _,kp,?_⟩)
   repeat (first|refine st ?_|refine qb fun bx=>?_)
   refine S_do kR (A_copy (xs:=[intV x,intV y]) tab Y Y Y Y Y Y Y (hd.le (A0e _ _)) Y Y nB ib nB sb ⟨Le.refl _,kp,?_⟩)
   repeat (first|refine st ?_|refine qb fun bx=>?_)
   refine A0g tab [(bx,owC (intV P) (.slice a 2 cap) [x,y],160)] (by exact .tmp rfl .nil) (Back.here fun p=>Nat.add_le_add_left (Nat.zero_le _) _) ?_
   exact⟨_,Y,Y⟩
  ·refine A1d [3,6] [0,1,2,4,5,3,6] A1f Y kR ?_
   repeat (first|refine st ?_|refine qb fun bx=>?_)
   refine S_do kR (B0x tab Y Y Y Y Y Y ⟨Le.refl _,kp,?_⟩)
   repeat (first|refine st ?_|refine qb fun bx=>?_)
   refine S_do kR (A_copy (xs:=[intV x,intV y,intV z]) tab Y Y Y Y Y Y Y (hd.le (A0e _ _)) Y Y nB ib nB sb ⟨Le.refl _,kp,?_⟩)
   repeat (first|refine st ?_|refine qb fun bx=>?_)
   refine A0g tab [(bx,owC (intV P) (.slice a 3 cap) [x,y,z],160)] (by exact .tmp rfl .nil) (Back.here fun p=>Nat.add_le_add_left (Nat.zero_le _) _) ?_
   exact⟨_,Y,Y⟩
  ·simp at hlen
theorem day_cell{x0 x1:Value}{os:List Int}(hl:os.length≤3):∀(i:Nat) (x:Value),(os.map intV)[i]?=some x→(owC x0 x1 os)[2+i]?=some x:=by
 intro i x h
 have hi:i<os.length:=by
  have:=(List.getElem?_eq_some_iff.1 h).1
  simpa using this
 have e:=owC_at (x0:=x0) (x1:=x1) (os:=os) (h:=i) oM
 rw [Nat.mul_one]at e
 rw [e,←h]
 simp [ow,hi]
theorem told_x{P:Int}{a:Option Addr}{n cap b:Nat}{os:List Int}(hn:os.length=n)(h3:n≤3) :
  CallsB prog mn 108 #[.pointer (some ⟨b,0,none⟩)] (RetB fun r β'=>∃a' cap' seg,r = .slice a' os.length cap'∧β'=seg++[(b,owC (intV P) (.slice a n cap) os,160)]∧OwnS 3 1 seg a' os.length cap' (os.map intV)) [(b,owC (intV P) (.slice a n cap) os,160)] v:=by
 refine A0d tab func108 Y nB (args:=[_]) ?_
 repeat (first|refine st ?_|refine qb fun bx=>?_)
 refine A1d [9,10] [0,1,2,3,4,5,6,7,8,9,10,11] A1f Y kR ?_
 repeat (first|refine st ?_|refine qb fun bx=>?_)
 refine S_do kR (A_sliceArr_h tab Y Y Y Y Y Y Y h3 ⟨Le.refl _,kp,?_⟩)
 repeat (first|refine st ?_|refine qb fun bx=>?_)
 refine S_do kR (A2r tab (xs:=os.map intV) [] [] [(b,owC (intV P) (.slice a n cap) os,160)] Y Y Y Y Y Y Y Y Y Y Y (fun _=>rfl) .nil
  (fun hb=>RowAt.box hb ib (by simp [owC];omega) (day_cell oM)) (by simp [hn]) (by simp [List.all_eq_true,intV,A2k]) (by show(2*(0+(n-0))+768)*8≤2^48;omega) oM (fun seg a' cap' hS=>⟨Le.refl _,kp,?_⟩))
 repeat (first|refine st ?_|refine qb fun bx=>?_)
 refine A0g tab (seg++[(b,owC (intV P) (.slice a n cap) os,160)]) (by exact .tmp rfl .nil) (Back.here fun p=>Nat.le_refl _) ?_
 have e:0+(n-0)=os.length:=oM
 change OwnS 3 1 seg a' (0+(n-0)) cap' ([]++List.map intV os)at hS
 rw [e]at hS
 refine⟨a',cap',seg,?_,Y,hS⟩
 show Value.slice a' (0+(n-0)) cap'=_
 rw [e]
end
section
variable{v:View}
theorem A9k{d:Nat}{x y:Int}{K:Bool→View→Prop}{E:Value→View→Prop}(h:K (x==y) v):SemX prog (Op.equalIn (d+1) 3 (.int .i64 x) (.int .i64 y)) K E v:=by
 unfold Op.equalIn
 rw [A0b,A1h tab (t:=3) rfl]
 simp only [if_true]
 exact h
theorem A2b{cs:Array Value}{off:Nat}{x:Value}{K:Value→View→Prop}{E:Value→View→Prop}(hx:cs[off]?=some x)(h:K x v):SemX prog (part 3 cs off) K E v:=by
 unfold part
 simp only [A0b]
 rw [sx_isAgg (tab.und_ok 3 _ Y)]
 simp only [aggOf,Bool.false_eq_true,if_false,hx]
 exact h
theorem act_eq{k a b x k' a' b' x':Int}{K:Bool→View→Prop}{E:Value→View→Prop}(h:K (decide (k=k'∧a=a'∧b=b'∧x=x')) v):SemX prog (Op.equal 26 (MA.val ⟨k,a,b,x⟩) (MA.val ⟨k',a',b',x'⟩)) K E v:=by
 have hs:prog.stoodInHeld 26=false:=by kernel_rfl
 show SemX prog (Op.equalIn (9998+1+1) 26 _ _) K E v
 unfold Op.equalIn
 rw [A0b,A1h tab (t:=26) rfl]
 simp only [A0b,A1x,hs,Bool.false_eq_true,if_false,List.forIn_toArray,List.forIn_cons,List.forIn_nil]
 rw [if_pos dM]
 simp only [A0b]
 refine A2b (x:=.int .i64 k) Y ?_
 refine A2b (x:=.int .i64 k') Y ?_
 refine A9k ?_
 by_cases h0:k=k'
 ·rw [show(k==k')=true from by simp [h0]]
  simp only [Bool.not_true,Bool.false_eq_true,if_false,A0h,A0b]
  rw [if_pos dM]
  simp only [A0b]
  refine A2b (x:=.int .i64 a) Y ?_
  refine A2b (x:=.int .i64 a') Y ?_
  refine A9k ?_
  by_cases h1:a=a'
  ·rw [show(a==a')=true from by simp [h1]]
   simp only [Bool.not_true,Bool.false_eq_true,if_false,A0h,A0b]
   rw [if_pos dM]
   simp only [A0b]
   refine A2b (x:=.int .i64 b) Y ?_
   refine A2b (x:=.int .i64 b') Y ?_
   refine A9k ?_
   by_cases h2:b=b'
   ·rw [show(b==b')=true from by simp [h2]]
    simp only [Bool.not_true,Bool.false_eq_true,if_false,A0h,A0b]
    rw [if_pos dM]
    simp only [A0b]
    refine A2b (x:=.int .i64 x) Y ?_
    refine A2b (x:=.int .i64 x') Y ?_
    refine A9k ?_
    by_cases h3:x=x'
    ·rw [show(x==x')=true from by simp [h3]]
     rw [show decide (k=k'∧a=a'∧b=b'∧x=x')=true from decide_eq_true ⟨h0,h1,h2,h3⟩]at h
     exact h
    ·rw [show(x==x')=false from by simp [h3]]
     rw [show decide (k=k'∧a=a'∧b=b'∧x=x')=false from decide_eq_false fun e=>h3 e.2.2.2]at h
     exact h
   ·rw [show(b==b')=false from by simp [h2]]
    rw [show decide (k=k'∧a=a'∧b=b'∧x=x')=false from decide_eq_false fun e=>h2 e.2.2.1]at h
    exact h
  ·rw [show(a==a')=false from by simp [h1]]
   rw [show decide (k=k'∧a=a'∧b=b'∧x=x')=false from decide_eq_false fun e=>h1 e.2.1]at h
   exact h
 ·rw [show(k==k')=false from by simp [h0]]
  rw [show decide (k=k'∧a=a'∧b=b'∧x=x')=false from decide_eq_false fun e=>h0 e.1]at h
  exact h
theorem place_eq{a b a' b':Int}{K:Bool→View→Prop}{E:Value→View→Prop}(h:K (decide (a=a'∧b=b')) v):SemX prog (Op.equal 194 (.agg (List.toArray [intV a,intV b])) (.agg (List.toArray [intV a',intV b']))) K E v:=by
 have hs:prog.stoodInHeld 194=false:=by kernel_rfl
 show SemX prog (Op.equalIn (9998+1+1) 194 _ _) K E v
 unfold Op.equalIn
 rw [A0b,A1h tab (t:=194) rfl]
 simp only [A0b,A1x,hs,Bool.false_eq_true,if_false,List.forIn_toArray,List.forIn_cons,List.forIn_nil]
 rw [if_pos dM]
 simp only [A0b]
 refine A2b (x:=.int .i64 a) Y ?_
 refine A2b (x:=.int .i64 a') Y ?_
 refine A9k ?_
 by_cases h0:a=a'
 ·rw [show(a==a')=true from by simp [h0]]
  simp only [Bool.not_true,Bool.false_eq_true,if_false,A0h,A0b]
  rw [if_pos dM]
  simp only [A0b]
  refine A2b (x:=.int .i64 b) Y ?_
  refine A2b (x:=.int .i64 b') Y ?_
  refine A9k ?_
  by_cases h1:b=b'
  ·rw [show(b==b')=true from by simp [h1]]
   rw [show decide (a=a'∧b=b')=true from decide_eq_true ⟨h0,h1⟩]at h
   exact h
  ·rw [show(b==b')=false from by simp [h1]]
   rw [show decide (a=a'∧b=b')=false from decide_eq_false fun e=>h1 e.2]at h
   exact h
 ·rw [show(a==a')=false from by simp [h0]]
  rw [show decide (a=a'∧b=b')=false from decide_eq_false fun e=>h0 e.1]at h
  exact h
end
section
variable{mn:Who}{rd:Option Nat}{n:Nat}{Q:Exit→St→View→Prop}{ds:List Deferred}{ρ:Regs}{β:A0f}{v:View}{K:St→View→Prop}
 {ops:Array Oper}{i:Nat}{l:List Oper}{d:Nat}{ty:TypeId}{pos:String}{af:Array Edge}{gu:Option (Nat×Bool)}
theorem sx_eqlA{ev:Operand→Value}{y z:Operand}{t2:TypeId}{a b:MA}(hy:ev y=a.val)(hz:ev z=b.val){K:Next→View→Prop}{E:Value→View→Prop}{w:View}(h:K (.value (.bool (decide (a=b)))) w):SemX prog (execOp ev ⟨some d,.binOp .eql 26 y z t2,ty,pos,af,gu⟩) K E w:=by
 have hg:prog.eqGuardType prog.depth 26=false:=by kernel_rfl
 simp only [execOp,A0b,hy,hz,eqGuard,binOp,A1x,hg]
 simp only [Bool.not_true,Bool.false_eq_true,if_false,A0b]
 rw [A1x,A1x,hg]
 simp only [Bool.not_true,Bool.not_false,Bool.false_eq_true,if_false,if_true,A0h,A0b]
 obtain⟨k,a,b',x⟩:=a
 obtain⟨k',a',b'',x'⟩:=b
 refine act_eq ?_
 rw [show decide (k=k'∧a=a'∧b'=b''∧x=x')=decide ((⟨k,a,b',x⟩:MA)=⟨k',a',b'',x'⟩)from by simp]
 exact h
theorem L_eqlA{y z:Operand}{t2:TypeId}{a b:MA}(hw:A0r ops gu ρ=some true)(hn:Nat.blt d n=true)(hy:ρ.val y=some a.val)(hz:ρ.val z=some b.val)
  (h:XL prog mn n ops Q l ⟨ds,(d,.bool (decide (a=b)))::ρ,β⟩ v):XL prog mn n ops Q (⟨some d,.binOp .eql 26 y z t2,ty,pos,af,gu⟩::l) ⟨ds,ρ,β⟩ v:=
 A4m (o:=⟨some d,.binOp .eql 26 y z t2,ty,pos,af,gu⟩) (A0l hw) hn (fun _ hev _ _ _=>sx_eqlA (hev _ _ hy) (hev _ _ hz) ⟨Le.refl _,rfl⟩) h
end
end Go.Proofs.YtclejblcnfaeaaaGreat
end
section
namespace Go.Pal.To
def mayG(g:List Int)(n m:Nat):Bool:=match g[n]? with
 | some x=>x==(m:Int)
 | none=>true
def A7g(g:List Int):Nat→List MA→List MA→Wy→List Wy
 | 0,_,_,w=>[w]
 | n+1,a,b,w=>if a=[]∧b=[]then [w]else
  (if mayG g w.marks.length 0 then A2n (A7g g n) a b w 0 else [])++(if mayG g w.marks.length 1 then A2n (A7g g n) a b w 1 else [])++(if mayG g w.marks.length 2 then A2n (A7g g n) a b w 2 else [])
def A3o(g:List Int)(a b:List MA)(w:Wy):List Wy:=A7g g (a.length+b.length) a b w
def A3n(g:List Int)(a b:List MA)(w:Wy)(m:Nat):List Wy:=if mayG g w.marks.length m then A2n (A3o g) a b w m else []
theorem A8r{g:List Int}:∀{n:Nat} {a b:List MA} {w:Wy},a.length+b.length≤n→A7g g n a b w=A3o g a b w
 | 0,a,b,w,h=>by
  unfold A3o
  have e:a.length+b.length=0:=oM
  rw [e]
 | n+1,a,b,w,h=>by
  unfold A3o
  by_cases e0:a=[]∧b=[]
  ·obtain⟨rfl,rfl⟩:=e0
   simp [A7g]
  ·obtain⟨m,hm⟩:∃m,a.length+b.length=m+1:=by
    refine⟨a.length+b.length-1,?_⟩
    have:a.length≠0∨b.length≠0:=by
     rcases a with _|⟨x,a⟩
     ·rcases b with _|⟨y,b⟩
      ·exact absurd ⟨Y,Y⟩ e0
      ·right;simp
     ·left;simp
    omega
   rw [hm]
   simp only [A7g,if_neg e0]
   have key:∀k,A2n (A7g g n) a b w k=A2n (A7g g m) a b w k:=fun k=>A6p fun a' b' w' h'=>by
    rw [A8r (n:=n) oM,A8r (n:=m) oM]
   rw [key,key,key]
theorem waysG_eq{g:List Int}{a b:List MA}{w:Wy}(h:¬(a=[]∧b=[])):A3o g a b w=A3n g a b w 0++A3n g a b w 1++A3n g a b w 2:=by
 rw [←A8r (n:=a.length+b.length+1) (Nat.le_succ _)]
 simp only [A7g,if_neg h]
 have key:∀k,A2n (A7g g (a.length+b.length)) a b w k=A2n (A3o g) a b w k:=fun k=>A6p fun a' b' w' h'=>A8r oM
 rw [key,key,key]
 rfl
theorem A9x{g:List Int}:∀{n:Nat} {a b:List MA} {w:Wy},a.length+b.length≤n→g.length≤w.marks.length→A3o g a b w=ways a b w
 | n,a,b,w,h,hg=>by
  by_cases e:a=[]∧b=[]
  ·obtain⟨rfl,rfl⟩:=e;rfl
  ·cases n with
   | zero=>
    exfalso
    apply e
    exact⟨List.length_eq_zero_iff.1 oM,List.length_eq_zero_iff.1 oM⟩
   | succ n=>
    rw [waysG_eq e,A8k e]
    have hm:∀m,mayG g w.marks.length m=true:=fun m=>by
     unfold mayG
     rw [List.getElem?_eq_none hg]
    have key:∀m,A3n g a b w m=A2n ways a b w m:=fun m=>by
     unfold A3n
     rw [if_pos (hm m)]
     unfold A2n
     cases es:A3c a b m with
     | none=>rfl
     | some t=>
      obtain⟨x,a',b'⟩:=t
      simp only
      split
      ·rfl
      ·have hl:=A4c es
       exact A9x (n:=n) oM (by simp only [Wy.add,List.length_append];omega)
    rw [key,key,key]
theorem waysG_none(a b:List MA)(w:Wy):A3o [] a b w=ways a b w:=A9x (Nat.le_refl _) (Nat.zero_le _)
theorem B2f{m:Nat}(hm:m<3){a b:List MA}{os:List Int}(h:¬(a=[]∧b=[])):A3o [(m:Int)] a b ⟨[],[],os⟩=A2n ways a b ⟨[],[],os⟩ m:=by
 rw [waysG_eq h]
 have hy:A3n [(m:Int)] a b ⟨[],[],os⟩ m=A2n ways a b ⟨[],[],os⟩ m:=by
  unfold A3n
  have:mayG [(m:Int)] ([]:List Int).length m=true:=by simp [mayG]
  rw [if_pos this]
  unfold A2n
  cases es:A3c a b m with
  | none=>rfl
  | some t=>
   obtain⟨x,a',b'⟩:=t
   simp only
   split
   ·rfl
   ·exact A9x (Nat.le_refl _) (by simp [Wy.add])
 have hn:∀k,k≠m→A3n [(m:Int)] a b ⟨[],[],os⟩ k=[]:=fun k hk=>by
  unfold A3n
  have:mayG [(m:Int)] ([]:List Int).length k=false:=by simp [mayG];omega
  rw [if_neg (fun e=>by rw [show(⟨[],[],os⟩:Wy).marks.length=([]:List Int).length from Y,this]at e;cases e)]
 rcases (by omega:m=0∨m=1∨m=2)with rfl|rfl|rfl
 ·rw [hy,hn 1 dM,hn 2 dM];simp
 ·rw [hy,hn 0 dM,hn 2 dM];simp
 ·rw [hy,hn 0 dM,hn 1 dM];simp
theorem ways_three{a b:List MA}{os:List Int}(h:¬(a=[]∧b=[])):ways a b ⟨[],[],os⟩=A3o [((0:Nat):Int)] a b ⟨[],[],os⟩++A3o [((1:Nat):Int)] a b ⟨[],[],os⟩++A3o [((2:Nat):Int)] a b ⟨[],[],os⟩:=by
 rw [B2f dM h,B2f dM h,B2f dM h]
 exact A8k h
def endB(t:Bool)(l:List Wy):Bool:=t||l.isEmpty
def endS(t:Bool)(l s:List Wy):List Wy:=if t then s else match l with | []=>s|_::r=>r++s
theorem end_true(l s:List Wy):endB true l=true∧endS true l s=s:=⟨Y,Y⟩
theorem end_nil(t:Bool)(s:List Wy):endB t []=true∧endS t [] s=s:=by cases t<;>exact⟨Y,Y⟩
theorem end_go{t:Bool}{l m s:List Wy}(h:endB t l=true):endB t (l++m)=endB t m∧endS t (l++m) s=endS t m s∧endS t l (m++s)=m++s:=by
 cases t with
 | true=>exact⟨rfl,rfl,rfl⟩
 | false=>
  cases l with
  | nil=>exact⟨rfl,rfl,rfl⟩
  | cons x l=>cases h
theorem end_stop{t:Bool}{l m s:List Wy}(h:endB t l=false):endB t (l++m)=false∧endS t (l++m) s=endS t l (m++s):=by
 cases t with
 | true=>cases h
 | false=>
  cases l with
  | nil=>cases h
  | cons x l=>exact⟨rfl,by simp [endS]⟩
end Go.Pal.To
end
section
namespace Go.Proofs.YtclejblcnfaeaaaGreat
open Go Go.Pal Go.Pal.To Go.Conc View
open Go.Proofs.Tryz
set_option maxHeartbeats 4000000
set_option maxRecDepth 20000
section
variable{mn:Who}{v:View}
abbrev dkV(bd:Nat)(aA:Option Addr)(nA cA:Nat)(aB:Option Addr)(nB cB:Nat):Value:=.agg (List.toArray [.pointer (some ⟨bd,0,none⟩),.slice aA nA cA,.slice aB nB cB])
abbrev plV(i k:Nat):Value:=.agg (List.toArray [natV i,natV k])
def nxI(i m:Nat):Nat:=if m=2 then i else i+1
def nxK(k m:Nat):Nat:=if m=1 then k else k+1
def B0b(a b:List MA)(i k m:Nat):Value:=match A3c (a.drop i) (b.drop k) m with
 | some (x,_,_)=>.tuple (List.toArray [x.val,plV (nxI i m) (nxK k m),.bool true])
 | none=>.tuple (List.toArray [MA.val ⟨0,0,0,0⟩,plV i k,.bool false])
theorem step_x{bd:Nat}{aA aB:Option Addr}{cA cB:Nat}{a b:List MA}{i k m:Nat}(ha:ActsAt v aA a)(hb:ActsAt v aB b)(hla:a.length<2^30)(hlb:b.length<2^30)(hi:i≤a.length)(hk:k≤b.length)(hm:m<3) :
    Ret1 prog mn 133 [dkV bd aA a.length cA aB b.length cB,plV i k,natV m] (B0b a b i k m) v:=by
  refine A0d tab func133 Y nB (args:=[_,_,_]) ?_
  repeat (first|refine st ?_|refine qb fun bx=>?_)
  rcases (by omega:m=0∨m=1∨m=2)with rfl|rfl|rfl
  · repeat (first|refine st ?_|refine qb fun bx=>?_)
    by_cases h1:i<a.length
    · rw [show decide ((i:Int)<(a.length:Int))=true from decide_eq_true oM]
      by_cases h2:k<b.length
      · rw [show decide ((k:Int)<(b.length:Int))=true from decide_eq_true oM]
        obtain⟨bb,off,p,c,e,f,rfl,hv,hc⟩:=ha.get h1
        obtain⟨bb',off',p',c',e',f',rfl,hv',hc'⟩:=hb.get h2
        repeat (first|refine st ?_|refine qb fun bx=>?_)
        refine A1l tab i Y Y Y Y Y Y Y h1 ?_
        refine A4s tab Y Y Y hv (A1i tab Y Y Y (hc i h1)) ?_
        repeat (first|refine st ?_|refine qb fun bx=>?_)
        refine A1l tab k Y Y Y Y Y Y Y h2 ?_
        refine A4s tab Y Y Y hv' (A1i tab Y Y Y (hc' k h2)) ?_
        repeat (first|refine st ?_|refine qb fun bx=>?_)
        refine L_eqlA (a:=a[i]) (b:=b[k]) Y Y Y Y ?_
        by_cases he:a[i]=b[k]
        · rw [show decide (a[i]=b[k])=true from decide_eq_true he]
          have hst:A3c (a.drop i) (b.drop k) 0=some (a[i],a.drop (i+1),b.drop (k+1)):=by
            rw [List.drop_eq_getElem_cons h1,List.drop_eq_getElem_cons h2]
            unfold A3c
            simp only
            rw [if_pos he]
          repeat (first|refine st ?_|refine qb fun bx=>?_)
          refine A1d [13,14] [0,1,2,3,4,5,6,7,8,9,10,11,12,13,14,15] A1f Y kR ?_
          repeat (first|refine st ?_|refine qb fun bx=>?_)
          refine A0q tab i Y Y Y kR Y Y Y Y Y h1 ?_
          refine A7b tab Y Y Y kR Y hv (A1i tab Y Y Y (hc i h1)) ?_
          repeat (first|refine st ?_|refine qb fun bx=>?_)
          refine A0g tab [] (by exact .cell rfl ib rfl (.cell rfl ib rfl (.tmp rfl .nil))) (Back.here cntL) ?_
          refine⟨?_,Y⟩
          unfold B0b
          rw [hst]
          rfl
        · rw [show decide (a[i]=b[k])=false from decide_eq_false he]
          have hst:A3c (a.drop i) (b.drop k) 0=none:=by
            rw [List.drop_eq_getElem_cons h1,List.drop_eq_getElem_cons h2]
            unfold A3c
            simp only
            rw [if_neg he]
          repeat (first|refine st ?_|refine qb fun bx=>?_)
          refine A1d [2,3] [0,1,2,3,4] A1f Y kR ?_
          repeat (first|refine st ?_|refine qb fun bx=>?_)
          refine A0g tab [] (by exact .cell rfl ib rfl (.cell rfl ib rfl (.tmp rfl .nil))) (Back.here cntL) ?_
          refine⟨?_,Y⟩
          unfold B0b
          rw [hst]
          rfl
      · rw [show decide ((k:Int)<(b.length:Int))=false from decide_eq_false oM]
        have hst:A3c (a.drop i) (b.drop k) 0=none:=by
          rw [List.drop_eq_getElem_cons h1,show b.drop k=[]from List.drop_eq_nil_of_le oM];rfl
        repeat (first|refine st ?_|refine qb fun bx=>?_)
        refine A1d [2,3] [0,1,2,3,4] A1f Y kR ?_
        repeat (first|refine st ?_|refine qb fun bx=>?_)
        refine A0g tab [] (by exact .cell rfl ib rfl (.cell rfl ib rfl (.tmp rfl .nil))) (Back.here cntL) ?_
        refine⟨?_,Y⟩
        unfold B0b
        rw [hst]
        rfl
    · rw [show decide ((i:Int)<(a.length:Int))=false from decide_eq_false oM]
      have hst:A3c (a.drop i) (b.drop k) 0=none:=by
        rw [show a.drop i=[]from List.drop_eq_nil_of_le oM];rfl
      repeat (first|refine st ?_|refine qb fun bx=>?_)
      refine A1d [2,3] [0,1,2,3,4] A1f Y kR ?_
      repeat (first|refine st ?_|refine qb fun bx=>?_)
      refine A0g tab [] (by exact .cell rfl ib rfl (.cell rfl ib rfl (.tmp rfl .nil))) (Back.here cntL) ?_
      refine⟨?_,Y⟩
      unfold B0b
      rw [hst]
      rfl
  · repeat (first|refine st ?_|refine qb fun bx=>?_)
    by_cases h:i<a.length
    · obtain⟨bb,off,p,c,e,f,rfl,hv,hc⟩:=ha.get h
      have hst:A3c (a.drop i) (b.drop k) 1=some (a[i],a.drop (i+1),b.drop k):=by
        rw [List.drop_eq_getElem_cons h];rfl
      rw [show decide ((i:Int)<(a.length:Int))=true from decide_eq_true oM]
      repeat (first|refine st ?_|refine qb fun bx=>?_)
      refine A1d [12,13] [0,1,2,3,4,5,6,7,8,9,10,11,12,13,14] A1f Y kR ?_
      repeat (first|refine st ?_|refine qb fun bx=>?_)
      refine A0q tab i Y Y Y kR Y Y Y Y Y h ?_
      refine A7b tab Y Y Y kR Y hv (A1i tab Y Y Y (hc i h)) ?_
      repeat (first|refine st ?_|refine qb fun bx=>?_)
      refine A0g tab [] (by exact .cell rfl ib rfl (.cell rfl ib rfl (.tmp rfl .nil))) (Back.here cntL) ?_
      refine⟨?_,Y⟩
      unfold B0b
      rw [hst]
      rfl
    · have hst:A3c (a.drop i) (b.drop k) 1=none:=by
        rw [show a.drop i=[]from List.drop_eq_nil_of_le oM];first|rfl|(cases b.drop k<;>rfl)|(cases a.drop i<;>rfl)
      rw [show decide ((i:Int)<(a.length:Int))=false from decide_eq_false oM]
      repeat (first|refine st ?_|refine qb fun bx=>?_)
      refine A1d [2,3] [0,1,2,3,4] A1f Y kR ?_
      repeat (first|refine st ?_|refine qb fun bx=>?_)
      refine A0g tab [] (by exact .cell rfl ib rfl (.cell rfl ib rfl (.tmp rfl .nil))) (Back.here cntL) ?_
      refine⟨?_,Y⟩
      unfold B0b
      rw [hst]
      rfl
  · repeat (first|refine st ?_|refine qb fun bx=>?_)
    by_cases h:k<b.length
    · obtain⟨bb,off,p,c,e,f,rfl,hv,hc⟩:=hb.get h
      have hst:A3c (a.drop i) (b.drop k) 2=some (b[k],a.drop i,b.drop (k+1)):=by
        rw [List.drop_eq_getElem_cons h];rfl
      rw [show decide ((k:Int)<(b.length:Int))=true from decide_eq_true oM]
      repeat (first|refine st ?_|refine qb fun bx=>?_)
      refine A1d [12,13] [0,1,2,3,4,5,6,7,8,9,10,11,12,13,14] A1f Y kR ?_
      repeat (first|refine st ?_|refine qb fun bx=>?_)
      refine A0q tab k Y Y Y kR Y Y Y Y Y h ?_
      refine A7b tab Y Y Y kR Y hv (A1i tab Y Y Y (hc k h)) ?_
      repeat (first|refine st ?_|refine qb fun bx=>?_)
      refine A0g tab [] (by exact .cell rfl ib rfl (.cell rfl ib rfl (.tmp rfl .nil))) (Back.here cntL) ?_
      refine⟨?_,Y⟩
      unfold B0b
      rw [hst]
      rfl
    · have hst:A3c (a.drop i) (b.drop k) 2=none:=by
        rw [show b.drop k=[]from List.drop_eq_nil_of_le oM];first|rfl|(cases b.drop k<;>rfl)|(cases a.drop i<;>rfl)
      rw [show decide ((k:Int)<(b.length:Int))=false from decide_eq_false oM]
      repeat (first|refine st ?_|refine qb fun bx=>?_)
      refine A1d [2,3] [0,1,2,3,4] A1f Y kR ?_
      repeat (first|refine st ?_|refine qb fun bx=>?_)
      refine A0g tab [] (by exact .cell rfl ib rfl (.cell rfl ib rfl (.tmp rfl .nil))) (Back.here cntL) ?_
      refine⟨?_,Y⟩
      unfold B0b
      rw [hst]
      rfl
end
end Go.Proofs.YtclejblcnfaeaaaGreat
end
section
namespace Go.Pal
open Go Go.Conc View
section
variable{P:Program}{mn:Who}{rd:Option Nat}{n:Nat}{Q:Exit→St→View→Prop}{ds:List Deferred}{ρ:Regs}{β:A0f}{v:View}
 {ops:Array Oper}{i:Nat}{S:List Rec}{done done':List Nat}{ms:List Nat}{v0:View}{todo todo':List Nat}
def manyB(ops:Array Oper)(ms done js:List Nat):Bool:=!(Region.ready .any ops (mkL ops done)).isEmpty&&(Region.ready .any ops (mkL ops done)).all (fun j=>js.contains j)&&js.all (fun j=>ms.contains j)
def AllL(f:Nat→Prop):List Nat→Prop
 | []=>True
 | j::r=>f j∧AllL f r
theorem AllL.at{f:Nat→Prop}:∀{js:List Nat},AllL f js→∀{j:Nat},j∈js→f j
 | x::r,h,j,hj=>by
  rcases List.mem_cons.1 hj with rfl|hj
  ·exact h.1
  ·exact h.2.at hj
theorem S_many(js:List Nat)(hB:manyB ops ms done js=true)(h:AllL (fun j=>XOp P mn (some 4294967295) n ops j (fun _ _ _=>False) (fun σ' u=>v.Le u∧KeepS ops j S σ'.β∧XS P mn n ops ms v0 Q todo S (j::done) σ' u) ⟨ds,ρ,β⟩ v) js):XS P mn n ops ms v0 Q (i::todo) S done ⟨ds,ρ,β⟩ v:=fun a hf hb hv hc=>by
 simp only [manyB,Bool.and_eq_true]at hB
 obtain⟨⟨hb1,hb2⟩,hb3⟩:=hB
 show AnyS P mn ops ms v0 (fun a u=>Post n Q .normal a u) (todo.length+1) (SV S) (mkL ops done) a (v.union (A0c β))
 refine⟨fun e=>(by rw [e]at hb1;cases hb1),fun j hj=>?_⟩
 have hr:=hj
 have hjs:j∈js:=by simpa using List.all_eq_true.1 hb2 j hj
 have h3:ms.contains j=true:=List.all_eq_true.1 hb3 j hjs
 have h:=h.at hjs
 obtain⟨o,ho,hw,hd,hs⟩:=h a hf hb
 unfold OpS
 simp only [ho,hw,if_true]
 have key:∀{a' w},KP n (fun σ' u=>v.Le u∧KeepS ops j S σ'.β∧XS P mn n ops ms v0 Q todo S (j::done) σ' u) a' w→Keeps ops ms v0 (SV S) j (v.union (A0c β)) w∧AnyS P mn ops ms v0 (fun a u=>Post n Q .normal a u) todo.length (SV S) ((mkL ops done).setIfInBounds j true) a' w:=by
  rintro a' w ⟨σ',u,⟨hl,hk,hx⟩,hf',hb',hw'⟩
  refine⟨?_,?_⟩
  ·unfold Keeps
   rw [if_pos h3]
   refine⟨((hv.trans hl).trans (A0e _ _)).trans hw',fun p hp hdp=>?_⟩
   obtain⟨b,c,t,he,hin⟩:=B0o hk p hp hdp
   rw [he]
   intro j' x e
   simp only [A0c]at e
   split at e
   ·rename_i hj';subst hj';cases e;exact hw' _ _ (A0p hb' hin)
   ·cases e
  ·exact A5k (K:=fun a u=>Post n Q .normal a u) (fun a u v hl hp=>post_le hl hp) _ _ _ _ _ _ hw' (hx _ hf' hb' (hv.trans hl) (A4z hc hr A9f))
 refine A2c _ (fun nx w hK=>?_) (fun x w hE=>?_) hs
 ·cases nx with
  | value x=>exact key hK
  | skip=>exact key hK
  | defer d=>exact absurd hK.1 sM
  | enter f args=>exact CallsX.mono hK fun e w' hR=>⟨w',Le.refl _,by
    cases e with
    | ret x=>exact key hR
    | pan ch=>obtain⟨_,_,hq,_⟩:=hR;exact hq⟩
  | round l f tmps assign body=>exact absurd rfl hK.1
  | _=>exact hK.elim
 ·obtain⟨_,_,hq,_⟩:=hE;exact hq
end
section
variable{P:Program}{mn:Who}{rd:Option Nat}{n:Nat}{Q:Exit→St→View→Prop}{ds:List Deferred}{ρ:Regs}{β:A0f}{v:View}
 {ops:Array Oper}{i:Nat}{S:List Rec}{done done':List Nat}{ms:List Nat}{v0:View}{todo todo':List Nat}
theorem xop_more{ρτ ρσ:Regs}{βτ βσ βr:A0f}{d:Nat}{M:Value→A0f→Prop}{K:St→View→Prop}(hr:∀t x,ρτ.get t=some x→ρσ.get t=some x)(hβ:∀p,cnt p βσ=cnt p (βr++βτ))(hdst:∀o,ops[i]?=some o→o.dst=some d)(hdn:Nat.blt d n=true)
  (h:∀u,v.Le u→XOp P mn rd n ops i (fun _ _ _=>False) (fun σ' u'=>u'=u∧∃x βi,M x βi∧σ'=⟨ds,(d,x)::ρτ,βi++βτ⟩) ⟨ds,ρτ,βτ⟩ u)
  (hK:∀x βi,M x βi→K ⟨ds,(d,x)::ρσ,βi++βσ⟩ v):XOp P mn rd n ops i (fun _ _ _=>False) K ⟨ds,ρσ,βσ⟩ v:=fun a hf hb=>by
 obtain⟨hb1,he⟩:=A3u (A2e (l:=βσ) (m:=βτ++βr) fun p=>by rw [hβ p,A0o,A0o];omega) hb
 obtain⟨hb2,hb3⟩:=bok_append.1 hb1
 obtain⟨o,ho,hw,hd,hs⟩:=h _ (A0e v (A0c βr)) a ⟨hf.size,hf.defers,fun t x e=>hf.get t x (hr t x e)⟩ hb3
 have hod:=hdst o ho
 have hdn':A2u n (some d)=true:=hdn
 refine⟨o,ho,hw,hd,?_⟩
 have key:∀{x0 w},KP n (fun σ' u'=>u'=v.union (A0c βr)∧∃x βi,M x βi∧σ'=⟨ds,(d,x)::ρτ,βi++βτ⟩) (a.put o.dst x0) w→KP n K (a.put o.dst x0) w:=by
  rintro x0 w ⟨σ',u',⟨rfl,x,βi,hM,rfl⟩,hf',hb',hw'⟩
  have hg:∀(y:Value) (l:Regs),Regs.get ((d,y)::l) d=some y:=fun y l=>by simp [Regs.get]
  have hx:x0=x:=by
   have h1:=hf'.get d x (hg _ _)
   have h2:=(A0z (x:=x0) hf hdn').get d x0 (hg _ _)
   rw [hod]at h1
   exact Option.some.inj (h2.symm.trans h1)
  subst hx
  have hb4:Bok ((βi++βτ)++βr) v:=bok_append.2 ⟨hb2,hb'⟩
  obtain⟨hb5,he5⟩:=A3u (A2e (l:=(βi++βτ)++βr) (m:=βi++βσ) fun p=>by rw [A0o,A0o,A0o,hβ p,A0o];omega) hb4
  refine⟨⟨ds,(d,x0)::ρσ,βi++βσ⟩,v,hK _ _ hM,?_,hb5,?_⟩
  ·have:=A0z (x:=x0) hf hdn'
   rw [hod]
   exact⟨this.size,this.defers,this.get⟩
  ·show(v.union (A0c (βi++βσ))).Le w
   rw [he5,A0v hb4]
   exact hw'
 show SemX P _ _ _ (v.union (A0c βσ))
 rw [←he,A0v hb1]
 refine A2c _ (fun nx w hK=>?_) (fun x w hE=>hE.elim fun _ h=>h.elim fun _ h=>h.1.elim) hs
 cases nx with
 | value x=>exact key hK
 | skip=>exact key hK
 | defer d'=>
  obtain⟨_,σ',u',⟨rfl,x,βi,hM,rfl⟩,hf',_⟩:=hK
  exfalso
  have h1:=hf'.defers
  have h2:=hf.defers
  simp only [Act.put]at h1
  rw [hod]at h1
  simp only at h1 h2
  rw [h2]at h1
  exact absurd (congrArg List.length h1) sM
 | enter f args=>exact CallsX.mono hK fun e w' hR=>⟨w',Le.refl _,by
   cases e with
   | ret x=>exact key hR
   | pan ch=>obtain⟨_,_,h,_⟩:=hR;exact h.elim⟩
 | round l f tmps assign body=>exact⟨hK.1,RoundX.mono hK.2 fun e w' hR=>⟨w',Le.refl _,by
   cases e with
   | ret x=>exact key hR
   | pan ch=>obtain⟨_,_,h,_⟩:=hR;exact h.elim⟩⟩
 | _=>exact hK.elim
theorem XS_by{ρ':Regs}{β':A0f}(h:XS P mn n ops ms v0 Q todo S done ⟨ds,ρ',β'⟩ v)(hd:mkL ops done=mkL ops done')(ht:todo.length=todo'.length)(hg:∀t x,ρ'.get t=some x→ρ.get t=some x)(hs:Subm β' β):XS P mn n ops ms v0 Q todo' S done' ⟨ds,ρ,β⟩ v:=fun a hf hb hv hc=>by
 obtain⟨h1,h2⟩:=A5t hs hb
 have hx:=h a ⟨hf.size,hf.defers,fun t x e=>hf.get t x (hg t x e)⟩ h1 hv (by rw [hd];exact hc)
 rw [hd,ht]at hx
 exact A5k (K:=fun a u=>Post n Q .normal a u) (fun a u v hl hp=>post_le hl hp) _ _ _ _ _ _ h2 hx
theorem mkL_at{l:List Nat}:∀(j:Nat),(mkL ops l)[j]?=if j<ops.size then some (decide (j∈l))else none:=by
 induction l with
 | nil=>intro j;simp only [mkL,Array.getElem?_replicate];split<;>simp
 | cons i r ih=>
  intro j
  simp only [mkL,Array.getElem?_setIfInBounds,A9f,ih]
  by_cases e:i=j
  ·subst e
   by_cases h:i<ops.size<;>simp [h]
  ·rw [if_neg e]
   by_cases h:j<ops.size
   ·simp [h,Ne.symm e]
   ·simp [h]
theorem mkL_mem{l m:List Nat}(h:∀j,j∈l↔j∈m):mkL ops l=mkL ops m:=by
 apply Array.ext_getElem?
 intro j
 rw [mkL_at,mkL_at]
 simp only [h j]
abbrev NetC:=Nat→Option (Value×A0f)
def netS(W:List Nat)(c:NetC):List Nat:=W.filter fun i=>(c i).isSome
def netR(dst:Nat→Nat)(c:NetC)(ρ0:Regs):List Nat→Regs
 | []=>ρ0
 | i::W=>match c i with|some q=>(dst i,q.1)::netR dst c ρ0 W|none=>netR dst c ρ0 W
def netβ(c:NetC)(β0:A0f):List Nat→A0f
 | []=>β0
 | i::W=>match c i with|some q=>q.2++netβ c β0 W|none=>netβ c β0 W
def netU(c:NetC)(j:Nat)(q:Value×A0f):NetC:=fun i=>if i=j then some q else c i
def netB(ops:Array Oper)(ms W:List Nat)(pre:Nat→List Nat)(done0:List Nat):Nat→List Nat→Bool
 | 0,D=>D==W
 | k+1,D=>!(Region.ready .any ops (mkL ops (D++done0))).isEmpty&&(Region.ready .any ops (mkL ops (D++done0))).all fun j=>W.contains j && !D.contains j&&ms.contains j&&(pre j).all (fun i=>D.contains i)&&netB ops ms W pre done0 k (W.filter fun i=>Nat.beq i j||D.contains i)
variable{dst:Nat→Nat}{c:NetC}{W:List Nat}{ρ0:Regs}{β0:A0f}{j:Nat}{q:Value×A0f}
theorem A3k{i:Nat}(h:i≠j):netU c j q i=c i:=if_neg h
theorem A9e:netU c j q j=some q:=if_pos Y
theorem netR_not:∀{W:List Nat},j∉W→netR dst (netU c j q) ρ0 W=netR dst c ρ0 W
 | [],_=>rfl
 | i::W,h=>by
  simp only [List.mem_cons,not_or]at h
  simp only [netR,A3k (Ne.symm h.1),netR_not h.2]
theorem netβ_not:∀{W:List Nat},j∉W→netβ (netU c j q) β0 W=netβ c β0 W
 | [],_=>rfl
 | i::W,h=>by
  simp only [List.mem_cons,not_or]at h
  simp only [netβ,A3k (Ne.symm h.1),netβ_not h.2]
theorem netβ_put:∀{W:List Nat},W.Nodup→j∈W→c j=none→∀p,cnt p (netβ (netU c j q) β0 W)=cnt p (q.2++netβ c β0 W)
 | i::W,hn,hj,hc,p=>by
  rw [List.nodup_cons]at hn
  by_cases e:i=j
  ·subst e
   simp only [netβ,A9e,hc,netβ_not hn.1]
  ·have hj':j∈W:=by rcases List.mem_cons.1 hj with h|h;exact absurd h.symm e;exact h
   have ih:=netβ_put hn.2 hj' hc p
   simp only [netβ,A3k e]
   cases c i with
   | none=>exact ih
   | some r=>simp only [A0o]at ih⊢;omega
theorem netR_put:∀{W:List Nat},W.Nodup→j∈W→c j=none→(∀i∈W,dst i=dst j→i=j)→∀t x,(netR dst (netU c j q) ρ0 W).get t=some x→Regs.get ((dst j,q.1)::netR dst c ρ0 W) t=some x
 | i::W,hn,hj,hc,hd,t,x,h=>by
  rw [List.nodup_cons]at hn
  by_cases e:i=j
  ·subst e
   simp only [netR,A9e,hc,netR_not hn.1]at h⊢
   exact h
  ·have hj':j∈W:=by rcases List.mem_cons.1 hj with h|h;exact absurd h.symm e;exact h
   simp only [netR,A3k e]at h⊢
   have ih:=netR_put hn.2 hj' hc (fun i hi=>hd i (List.mem_cons_of_mem _ hi)) t x
   cases hci:c i with
   | none=>rw [hci]at h;exact ih h
   | some r=>
    rw [hci]at h
    simp only [Regs.get]at h ih⊢
    cases hb:Nat.beq (dst i) t with
    | false=>
     rw [hb]at h
     simp only [cond_false]at h⊢
     exact ih h
    | true=>
     rw [hb]at h
     have h1:=Nat.eq_of_beq_eq_true hb
     have h2:Nat.beq (dst j) t=false:=by
      cases h3:Nat.beq (dst j) t with
      | false=>rfl
      | true=>exact absurd (hd i (List.mem_cons_self ..) (h1.trans (Nat.eq_of_beq_eq_true h3).symm)) e
     rw [h2]
     exact h
theorem netR_get:∀{W:List Nat},W.Nodup→(∀i∈W,∀k∈W,dst i=dst k→i=k)→∀(V:List Nat),(∀i∈V,i∈W∧(c i).isSome=true)→V.Nodup→(∀i∈W,ρ0.get (dst i)=none)→∀t x,(netR dst c ρ0 V).get t=some x→(netR dst c ρ0 W).get t=some x:=by
 intro W hn hd V hV hVn h0 t x h
 have look:∀(V:List Nat),V.Nodup→(∀i∈V,∀k∈V,dst i=dst k→i=k)→∀t,(netR dst c ρ0 V).get t=(match V.find? (fun i=>Nat.beq (dst i) t&&(c i).isSome)with|some i=>(c i).map (·.1)|none=>ρ0.get t):=by
  intro V
  induction V with
  | nil=>intros;rfl
  | cons i V ih=>
   intro hn hd t
   rw [List.nodup_cons]at hn
   have ih:=ih hn.2 (fun i hi k hk=>hd i (List.mem_cons_of_mem _ hi) k (List.mem_cons_of_mem _ hk)) t
   simp only [netR,List.find?_cons]
   cases hci:c i with
   | none=>simp only [Option.isSome_none,Bool.and_false];exact ih
   | some r=>
    simp only [Regs.get,Option.isSome_some,Bool.and_true]
    cases hb:Nat.beq (dst i) t with
    | true=>simp [hci]
    | false=>simp only [cond_false];exact ih
 rw [look V hVn (fun i hi k hk=>hd i (hV i hi).1 k (hV k hk).1)]at h
 rw [look W hn hd]
 cases hf:V.find? (fun i=>Nat.beq (dst i) t&&(c i).isSome)with
 | some i=>
  rw [hf]at h
  have h1:=List.find?_some hf
  have h2:=List.mem_of_find?_eq_some hf
  simp only [Bool.and_eq_true]at h1
  cases hw:W.find? (fun i=>Nat.beq (dst i) t&&(c i).isSome)with
  | none=>
   have:=List.find?_eq_none.1 hw i (hV i h2).1
   rw [h1.1,h1.2]at this
   exact absurd Y this
  | some k=>
   have h3:=List.find?_some hw
   simp only [Bool.and_eq_true]at h3
   have:k=i:=hd k (List.mem_of_find?_eq_some hw) i (hV i h2).1 ((Nat.eq_of_beq_eq_true h3.1).trans (Nat.eq_of_beq_eq_true h1.1).symm)
   subst this
   exact h
 | none=>
  rw [hf]at h
  cases hw:W.find? (fun i=>Nat.beq (dst i) t&&(c i).isSome)with
  | none=>exact h
  | some k=>
   exfalso
   have h3:=List.find?_some hw
   simp only [Bool.and_eq_true]at h3
   have hk:=List.mem_of_find?_eq_some hw
   have e:=Nat.eq_of_beq_eq_true h3.1
   subst e
   rw [h0 k hk]at h
   cases h
theorem B0n{c c':NetC}:∀{W:List Nat},(∀i∈W,c i=c' i)→netR dst c ρ0 W=netR dst c' ρ0 W
 | [],_=>rfl
 | i::W,h=>by simp only [netR,h i (List.mem_cons_self ..),B0n fun k hk=>h k (List.mem_cons_of_mem _ hk)]
theorem B0m{c c':NetC}:∀{W:List Nat},(∀i∈W,c i=c' i)→netβ c β0 W=netβ c' β0 W
 | [],_=>rfl
 | i::W,h=>by simp only [netβ,h i (List.mem_cons_self ..),B0m fun k hk=>h k (List.mem_cons_of_mem _ hk)]
theorem netβ_part(f:Nat→Bool):∀(W:List Nat) (p:Nat×Array Value×TypeId),cnt p (netβ c β0 W)=cnt p (netβ c [] (W.filter fun i=>!f i)++netβ c β0 (W.filter f))
 | [],p=>rfl
 | i::W,p=>by
  have ih:=netβ_part f W p
  cases hf:f i<;>cases hc:c i<;>simp only [netβ,List.filter_cons,hf,hc,Bool.not_true,Bool.not_false,Bool.false_eq_true,if_true,if_false]<;>simp only [A0o]at ih⊢<;>omega
theorem in_net{b:Nat}{cc:Array Value}{t:TypeId}(h:InB b cc t β0):∀W:List Nat,InB b cc t (netβ c β0 W)
 | []=>h
 | i::W=>by
  simp only [netβ]
  cases c i with
  | none=>exact in_net h W
  | some q=>exact InB.app (in_net h W)
def KeepA:List Rec→A0f→Prop
 | [],_=>True
 | (_,b,c,t)::S,β=>InB b c t β∧KeepA S β
theorem keep_net{βi:A0f}{j:Nat}:∀{S:List Rec},KeepA S β0→KeepS ops j S (βi++netβ c β0 W)
 | [],_=>trivial
 | (_,_,_,_)::_,h=>⟨.inr (InB.app (in_net h.1 W)),keep_net h.2⟩
theorem allL_of{f:Nat→Prop}:∀{js:List Nat},(∀j∈js,f j)→AllL f js
 | [],_=>trivial
 | j::js,h=>⟨h j (List.mem_cons_self ..),allL_of fun k hk=>h k (List.mem_cons_of_mem _ hk)⟩
theorem mem_netS{i:Nat}:i∈netS W c↔i∈W∧(c i).isSome=true:=by unfold netS;exact List.mem_filter
theorem S_net{Sp:Nat→List (Value×A0f)→Value→A0f→Prop}{pre:Nat→List Nat}(W:List Nat)(dst:Nat→Nat)(hW:W.Nodup)(hd:∀i∈W,∀k∈W,dst i=dst k→i=k)(h0:∀i∈W,ρ0.get (dst i)=none)(hpre:∀j∈W,pre j=W.filter fun i=>(pre j).contains i)
    (hop:∀i∈W,(∀o,ops[i]?=some o→o.dst=some (dst i))∧Nat.blt (dst i) n=true)(hS:KeepA S β0)(hB:netB ops ms W pre done W.length []=true)
    (hstep:∀j∈W,∀c:Nat→Value×A0f,(∀i∈pre j,Sp i ((pre i).map c) (c i).1 (c i).2)→∀u,v.Le u→XOp P mn (some 4294967295) n ops j (fun _ _ _=>False) (fun σ' u'=>u'=u∧∃x βi,Sp j ((pre j).map c) x βi∧σ'=⟨ds,(dst j,x)::netR dst (fun i=>some (c i)) ρ0 (pre j),βi++netβ (fun i=>some (c i)) β0 (pre j)⟩) ⟨ds,netR dst (fun i=>some (c i)) ρ0 (pre j),netβ (fun i=>some (c i)) β0 (pre j)⟩ u)
    (hfin:∀c:Nat→Value×A0f,(∀i∈W,Sp i ((pre i).map c) (c i).1 (c i).2)→XS P mn n ops ms v0 Q todo S (W++done) ⟨ds,netR dst (fun i=>some (c i)) ρ0 W,netβ (fun i=>some (c i)) β0 W⟩ v) :
    XS P mn n ops ms v0 Q (W++todo) S done ⟨ds,ρ0,β0⟩ v:=by
  let tot:NetC→Nat→Value×A0f:=fun c i=>(c i).getD default
  have go:∀(k:Nat) (c:NetC),(∀i∈W,∀q,c i=some q→(∀k∈pre i,(c k).isSome=true)∧Sp i ((pre i).map (tot c)) q.1 q.2)→netB ops ms W pre done k (netS W c)=true→XS P mn n ops ms v0 Q (List.replicate k 0++todo) S (netS W c++done) ⟨ds,netR dst c ρ0 W,netβ c β0 W⟩ v:=by
    intro k
    induction k with
    | zero=>
      intro c hc hb
      have e:netS W c=W:=by simpa [netB]using hb
      have hs:∀i∈W,c i=some (tot c i):=fun i hi=>by
        have:=(mem_netS.1 (e.symm ▸ hi:i∈netS W c)).2
        cases hci:c i with
        | none=>rw [hci]at this;cases this
        | some q=>simp [tot,hci]
      have:=hfin (tot c) fun i hi=>(hc i hi _ (hs i hi)).2
      rw [e,B0n hs,B0m hs]
      exact this
    | succ k ih=>
      intro c hc hb
      simp only [netB,Bool.and_eq_true]at hb
      obtain⟨hb1,hb2⟩:=hb
      have hall:∀j∈Region.ready .any ops (mkL ops (netS W c++done)),j∈W∧c j=none∧ms.contains j=true∧(∀i∈pre j,i∈netS W c)∧netB ops ms W pre done k (W.filter fun i=>Nat.beq i j||(netS W c).contains i)=true:=fun j hj=>by
        have h:=List.all_eq_true.1 hb2 j hj
        simp only [Bool.and_eq_true]at h
        obtain⟨⟨⟨⟨h1,h2⟩,h3⟩,h4⟩,h5⟩:=h
        have hjW:j∈W:=by simpa using h1
        have hjn:j∉netS W c:=by simpa using h2
        refine⟨hjW,?_,h3,fun i hi=>by simpa using List.all_eq_true.1 h4 i hi,h5⟩
        cases hcj:c j with
        | none=>rfl
        | some q=>exact absurd (mem_netS.2 ⟨hjW,by rw [hcj];rfl⟩) hjn
      refine S_many (Region.ready .any ops (mkL ops (netS W c++done))) ?_ (allL_of fun j hj=>?_)
      · simp only [manyB,Bool.and_eq_true]
        exact⟨⟨hb1,List.all_eq_true.2 fun j hj=>by simpa using hj⟩,List.all_eq_true.2 fun j hj=>(hall j hj).2.2.1⟩
      · obtain⟨hjW,hcj,_,hp,hn⟩:=hall j hj
        have hsub:∀i∈pre j,i∈W:=fun i hi=>(mem_netS.1 (hp i hi)).1
        have hsome:∀i∈pre j,c i=some (tot c i):=fun i hi=>by
          have h2:=(mem_netS.1 (hp i hi)).2
          cases hci:c i with
          | none=>rw [hci]at h2;cases h2
          | some q=>simp [tot,hci]
        have hpn:(pre j).Nodup:=by rw [hpre j hjW];exact hW.filter _
        have hstep':=hstep j hjW (tot c) fun i hi=>(hc i (hsub i hi) _ (hsome i hi)).2
        rw [←B0n hsome,←B0m hsome]at hstep'
        have htot:∀(q:Value×A0f) (l:List Nat),j∉l→l.map (tot (netU c j q))=l.map (tot c):=fun q l hl=>List.map_congr_left fun i hi=>by
          have:i≠j:=fun e=>hl (e ▸ hi)
          simp only [tot,A3k this]
        refine xop_more (d:=dst j) (M:=Sp j ((pre j).map (tot c))) (ρτ:=netR dst c ρ0 (pre j)) (βτ:=netβ c β0 (pre j)) (βr:=netβ c [] (W.filter fun i=>!(pre j).contains i))
          (netR_get hW hd (pre j) (fun i hi=>mem_netS.1 (hp i hi)) hpn h0) (fun p=>by
            have h:=netβ_part (c:=c) (β0:=β0) (fun i=>(pre j).contains i) W p
            rw [←hpre j hjW]at h
            exact h) (hop j hjW).1 (hop j hjW).2 hstep' fun x βi hM=>⟨Le.refl _,keep_net hS,?_⟩
        have e:netS W (netU c j (x,βi))=W.filter fun i=>Nat.beq i j||(netS W c).contains i:=by
          unfold netS
          refine List.filter_congr fun i hi=>?_
          by_cases hij:i=j
          · subst hij;rw [A9e,Nat.beq_refl];rfl
          · rw [A3k hij,show Nat.beq i j=false from by cases hb:Nat.beq i j with|false=>rfl|true=>exact absurd (Nat.eq_of_beq_eq_true hb) hij]
            rw [Bool.false_or]
            cases hci:c i with
            | none=>simp [hci]
            | some q=>simp [hci,hi]
        refine XS_by (ih (netU c j (x,βi)) (fun i hi q hq=>?_) (by rw [e];exact hn)) (mkL_mem fun i=>?_) Y (netR_put hW hjW hcj fun i hi=>hd i hi j hjW) (fun p=>Nat.le_of_eq (netβ_put hW hjW hcj p))
        · by_cases hij:i=j
          · subst hij
            rw [A9e]at hq
            cases hq
            have hni:i∉pre i:=fun h=>by have:=hsome i h;rw [hcj]at this;cases this
            refine⟨fun k hk=>?_,by rw [htot _ _ hni];exact hM⟩
            rw [A3k (fun e=>by subst e;exact hni hk),hsome k hk];rfl
          · rw [A3k hij]at hq
            obtain⟨h1,h2⟩:=hc i hi q hq
            have hni:j∉pre i:=fun h=>by have:=h1 j h;rw [hcj]at this;cases this
            refine⟨fun k hk=>?_,by rw [htot _ _ hni];exact h2⟩
            rw [A3k (fun e=>by subst e;exact hni hk)]
            exact h1 k hk
        · rw [e,List.mem_append,List.mem_cons,List.mem_append,List.mem_filter]
          constructor
          · rintro(⟨h1,h2⟩|h)
            · rw [Bool.or_eq_true]at h2
              rcases h2 with h2|h2
              · exact .inl (Nat.eq_of_beq_eq_true h2)
              · exact .inr (.inl (by simpa using h2))
            · exact .inr (.inr h)
          · rintro(rfl|h|h)
            · exact .inl ⟨hjW,by rw [Nat.beq_refl];rfl⟩
            · exact .inl ⟨(mem_netS.1 h).1,by rw [Bool.or_eq_true];exact .inr (by simpa using h)⟩
            · exact .inr h
  have hz:∀V:List Nat,netR dst (fun _=>none) ρ0 V=ρ0∧netβ (fun _=>none) β0 V=β0∧netS V (fun _=>none)=[]:=fun V=>by
    induction V with
    | nil=>exact⟨rfl,rfl,rfl⟩
    | cons i V ih=>exact⟨ih.1,ih.2.1,ih.2.2⟩
  obtain⟨z1,z2,z3⟩:=hz W
  have h1:=go W.length (fun _=>none) (fun _ _ _ h=>by cases h) (by rw [z3];exact hB)
  rw [z1,z2,z3]at h1
  exact XS_by h1 Y sM (fun _ _ h=>h) (fun _=>Nat.le_refl _)
end
end Go.Pal
end
