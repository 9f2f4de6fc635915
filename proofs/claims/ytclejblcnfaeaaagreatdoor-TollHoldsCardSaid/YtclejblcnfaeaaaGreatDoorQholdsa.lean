/- Part 43. -/
import Derived.Test.YtclejblcnfaeaaaGreatDoorPbn
import Derived.Test.YtclejblcnfaeaaaGreatDoorPbo
import Derived.Test.YtclejblcnfaeaaaGreatDoorPbp
set_option linter.all false
section
namespace Go.Proofs.YtclejblcnfaeaaaGreatDoor
open Go Go.Pal Go.Proofs.Tryz
theorem bod7:A0i Tryz.prog 7:=⟨_,_,func7,Y,by decide⟩
theorem bod8:A0i Tryz.prog 8:=⟨_,_,func8,Y,by decide⟩
theorem bod9:A0i Tryz.prog 9:=⟨_,_,func9,Y,by decide⟩
theorem bod11:A0i Tryz.prog 11:=⟨_,_,func11,Y,by decide⟩
theorem bod18:A0i Tryz.prog 18:=⟨_,_,func18,Y,by decide⟩
theorem bod19:A0i Tryz.prog 19:=⟨_,_,func19,Y,by decide⟩
theorem bod20:A0i Tryz.prog 20:=⟨_,_,func20,Y,by decide⟩
theorem bod21:A0i Tryz.prog 21:=⟨_,_,func21,Y,by decide⟩
theorem bod22:A0i Tryz.prog 22:=⟨_,_,func22,Y,by decide⟩
theorem bod25:A0i Tryz.prog 25:=⟨_,_,func25,Y,by decide⟩
theorem bod26:A0i Tryz.prog 26:=⟨_,_,func26,Y,by decide⟩
theorem bod27:A0i Tryz.prog 27:=⟨_,_,func27,Y,by decide⟩
theorem bod28:A0i Tryz.prog 28:=⟨_,_,func28,Y,by decide⟩
theorem bod29:A0i Tryz.prog 29:=⟨_,_,func29,Y,by decide⟩
theorem bod54:A0i Tryz.prog 54:=⟨_,_,func54,Y,by decide⟩
theorem bod55:A0i Tryz.prog 55:=⟨_,_,func55,Y,by decide⟩
theorem bod56:A0i Tryz.prog 56:=⟨_,_,func56,Y,by decide⟩
theorem bod62:A0i Tryz.prog 62:=⟨_,_,func62,Y,by decide⟩
theorem bod75:A0i Tryz.prog 75:=⟨_,_,func75,Y,by decide⟩
theorem bod76:A0i Tryz.prog 76:=⟨_,_,func76,Y,by decide⟩
theorem bod77:A0i Tryz.prog 77:=⟨_,_,func77,Y,by decide⟩
theorem bod105:A0i Tryz.prog 105:=⟨_,_,func105,Y,by decide⟩
theorem bod110:A0i Tryz.prog 110:=⟨_,_,func110,Y,by decide⟩
theorem bod121:A0i Tryz.prog 121:=⟨_,_,func121,Y,by decide⟩
theorem bod122:A0i Tryz.prog 122:=⟨_,_,func122,Y,by decide⟩
theorem bod123:A0i Tryz.prog 123:=⟨_,_,func123,Y,by decide⟩
theorem bod124:A0i Tryz.prog 124:=⟨_,_,func124,Y,by decide⟩
theorem B2r:A0i Tryz.prog 152:=⟨_,_,func152,Y,by decide⟩
theorem bod153:A0i Tryz.prog 153:=⟨_,_,func153,Y,by decide⟩
end Go.Proofs.YtclejblcnfaeaaaGreatDoor
end
section
namespace Go.Pal
open Go Go.Conc View
section
variable{P:Program}{mn:Who}(T:Tab P){rd:Option Nat}{n:Nat}{Q:Exit→St→View→Prop}{ds:List Deferred}{ρ:Regs}{β:A0e}{v:View}
 {ops:Array Oper}{i k:Nat}{S:List Rec}{done:List Nat}{ms:List Nat}{v0:View}{todo:List Nat}
def twoB(ops:Array Oper)(ms done:List Nat)(i k:Nat):Bool:=(Region.ready .any ops (mkL ops done)).contains i&&(Region.ready .any ops (mkL ops done)).all (fun j=>Nat.beq j i||Nat.beq j k)&&ms.contains i&&ms.contains k
theorem S_two(k:Nat)(hB:twoB ops ms done i k=true)(h1:XOp P mn (some 4294967295) n ops i (fun _ _ _=>False) (fun σ' u=>v.Le u∧KeepS ops i S σ'.β∧XS P mn n ops ms v0 Q (k::todo) S (i::done) σ' u) ⟨ds,ρ,β⟩ v)
  (h2:XOp P mn (some 4294967295) n ops k (fun _ _ _=>False) (fun σ' u=>v.Le u∧KeepS ops k S σ'.β∧XS P mn n ops ms v0 Q (i::todo) S (k::done) σ' u) ⟨ds,ρ,β⟩ v):XS P mn n ops ms v0 Q (i::k::todo) S done ⟨ds,ρ,β⟩ v:=fun a hf hb hv hc=>by
 simp only [twoB,Bool.and_eq_true]at hB
 obtain⟨⟨⟨hb1,hb2⟩,hb3⟩,hb4⟩:=hB
 have hri:i∈Region.ready .any ops (mkL ops done):=by simpa using hb1
 show AnyS P mn ops ms v0 (fun a u=>Post n Q .normal a u) (todo.length+1+1) (SV S) (mkL ops done) a (v.union (A0c β))
 refine⟨fun e=>(by rw [e]at hri;cases hri),fun j hj=>?_⟩
 have hr:=hj
 have hx:ms.contains j=true∧XOp P mn (some 4294967295) n ops j (fun _ _ _=>False) (fun σ' u=>v.Le u∧KeepS ops j S σ'.β∧XS P mn n ops ms v0 Q (k::todo) S (j::done) σ' u) ⟨ds,ρ,β⟩ v:=by
  have hji:=List.all_eq_true.1 hb2 j hj
  rw [Bool.or_eq_true]at hji
  rcases hji with hji|hji
  ·have:=Nat.eq_of_beq_eq_true hji;subst this;exact⟨hb3,h1⟩
  ·have:=Nat.eq_of_beq_eq_true hji;subst this;exact⟨hb4,h2⟩
 obtain⟨h3,h⟩:=hx
 obtain⟨o,ho,hw,hd,hs⟩:=h a hf hb
 unfold OpS
 simp only [ho,hw,if_true]
 have key:∀{a' w},KP n (fun σ' u=>v.Le u∧KeepS ops j S σ'.β∧XS P mn n ops ms v0 Q (k::todo) S (j::done) σ' u) a' w→Keeps ops ms v0 (SV S) j (v.union (A0c β)) w∧AnyS P mn ops ms v0 (fun a u=>Post n Q .normal a u) (todo.length+1) (SV S) ((mkL ops done).setIfInBounds j true) a' w:=by
  rintro a' w ⟨σ',u,⟨hl,hk,hx⟩,hf',hb',hw'⟩
  refine⟨?_,?_⟩
  ·unfold Keeps
   rw [if_pos h3]
   refine⟨((hv.trans hl).trans (A0g _ _)).trans hw',fun p hp hdp=>?_⟩
   obtain⟨b,c,t,he,hin⟩:=A9t hk p hp hdp
   rw [he]
   intro j' x e
   simp only [A0c]at e
   split at e
   ·rename_i hj';subst hj';cases e;exact hw' _ _ (A0q hb' hin)
   ·cases e
  ·exact A5b (K:=fun a u=>Post n Q .normal a u) (fun a u v hl hp=>post_le hl hp) _ _ _ _ _ _ hw' (hx _ hf' hb' (hv.trans hl) (A4q hc hr A8m))
 refine A1y _ (fun nx w hK=>?_) (fun x w hE=>?_) hs
 ·cases nx with
  | value x=>exact key hK
  | skip=>exact key hK
  | defer d=>exact absurd hK.1 sM
  | enter f args=>exact CallsX.mono hK fun e w' hR=>⟨w',Le.refl _,by
    cases e with
    | ret x=>exact key hR
    | pan ch=>obtain⟨_,_,hq,_⟩:=hR;exact hq⟩
  | round l f tmps assign body=>exact absurd rfl hK.1
  | _=>exact hK.elim
 ·obtain⟨_,_,hq,_⟩:=hE;exact hq
end
theorem split_head{bin rest:A0e}:∀p,cnt p (bin++rest)=cnt p (bin++rest):=fun _=>rfl
section
variable{P:Program}{mn:Who}(T:Tab P){rd:Option Nat}{n:Nat}{Q:Exit→St→View→Prop}{ds:List Deferred}{ρ:Regs}{β:A0e}{v:View}{K:St→View→Prop}
 {ops:Array Oper}{i:Nat}{d:Nat}{ty:TypeId}{pos:String}{af:Array Edge}{gu:Option (Nat×Bool)}
include T in
theorem A_indexA{t e:TypeId}{y z:Operand}{cs:Array Value}{len sz j:Nat}{jz:Int}{k:IntKind}{x:Value}(ho:ops[i]?=some ⟨some d,.index t y z,ty,pos,af,gu⟩)(hw:A0p ops gu ρ=some true)(hn:Nat.blt d n=true)
  (hy:ρ.val y=some (.agg cs))(hz:ρ.val z=some (.int k jz))(hj:jz=j)(ht:T.und t=some (.array len e))(hs:T.siz e=some sz)(hl:j<len)(hx:partOf T e cs (j*sz)=some x)
  (h:K ⟨ds,(d,x)::ρ,β⟩ v):XOp P mn rd n ops i Q K ⟨ds,ρ,β⟩ v:=by
 refine A1w ho (A0j hw) (.inr Y) hn fun ev hev hbk=>?_
 subst hj
 simp only [execOp,A0a,hev _ _ hy,hev _ _ hz,Instr.index,asIntOf,A0h,A1k T ht]
 rw [if_pos ⟨oM,oM⟩]
 simp only [A0a,A4f T hs,Int.toNat_natCast]
 exact part_sound T hx ⟨β,v,⟨hbk,Le.refl _⟩,h⟩
end
section
variable{P:Program}{mn:Who}(T:Tab P){u v:View}{n:Nat}{ρ:Regs}{β:A0e}
theorem A6l.mono{k:FuncId}{args:List Value}{R R':Value→View→Prop}(h:A6l P mn k args R v)(hR:∀x u,v.Le u→R x u→R' x u):A6l P mn k args R' v:=
 CallsX.mono h fun e w ⟨x,h1,h2,h3⟩=>⟨w,Le.refl _,x,h1,h2,hR x w h2 h3⟩
end
end Go.Pal
end
section
namespace Go.Pal.To
open Go
theorem ow_get{os:List Int}{i:Nat}(h:i<os.length):ow os i=os[i]:=by simp [ow,h]
end Go.Pal.To
end
section
namespace Go.Proofs.YtclejblcnfaeaaaGreatDoor
open Go Go.Pal Go.Conc View
open Go.Proofs.Tryz
set_option maxHeartbeats 4000000
section
variable{mn:Who}
theorem once_x{v:View}{g:Bg}{at':Nat}{β:A0e}(hr:g.ok v)(hB:g.at at' β)(hat:at'<2^62)(n:Nat)(hn:1≤n∧n<2^62) :
  CallsB prog mn 56 #[g.ptr,.int .i64 n] (RetB fun r β'=>(∃x:Bool,r = .bool x)∧g.at (at'+1) β') β v:=by
 refine A0d tab func56 Y nB (args:=[_,_]) ?_
 refine su ?_
 refine Q_op fun ho=>A0o β [] ho bod53 Y Y Y Y Y cntA (by rw [show(n:Int)-1=((n-1:Nat):Int) by omega];exact upTo_x (hr.le (A0g _ _)) hB hat (n-1) oM) (fun x β' hR=>?_)
 obtain⟨⟨x,rfl,hx⟩,hB⟩:=hR
 refine su ?_
 refine A0f tab β' (by exact .tmp rfl .nil) (Back.here cntL) ?_
 exact⟨⟨_,Y⟩,hB⟩
theorem pick_x{v:View}{g:Bg}{at':Nat}{β:A0e}(hr:g.ok v)(hB:g.at at' β)(hat:at'<2^62){a:Option Addr}{cap:Nat}{xs:List Int}(hx:RowAt v a (xs.map (.int .i64)))(hxs:xs.length<2^62)(hne:xs≠[]) :
  CallsB prog mn 105 #[g.ptr,.slice a xs.length cap] (RetB fun r β'=>(∃x,x∈xs∧r = .int .i64 x)∧g.at (at'+1) β') β v:=by
 refine A0d tab func105 Y nB (args:=[_,_]) ?_
 have hpos:0<xs.length:=List.length_pos_iff.2 hne
 obtain⟨bb,off,p,c,e,f,rfl,hv,hc⟩:=hx.ints hpos
 refine su ?_
 refine Q_op fun ho=>A0o β [] ho bod53 Y Y Y Y Y cntA (by rw [show(xs.length:Int)-1=((xs.length-1:Nat):Int) by omega];exact upTo_x (hr.le (A0g _ _)) hB hat (xs.length-1) oM) (fun x β' hR=>?_)
 obtain⟨⟨x,rfl,hx'⟩,hB⟩:=hR
 refine su ?_
 have hlt:x<xs.length:=oM
 refine A6d tab x Y Y Y Y Y Y Y hlt ?_
 refine A2b tab Y Y Y hv (A0l tab Y Y Y (by rw [Nat.mul_one];exact hc _ hlt)) ?_
 refine su ?_
 refine A0f tab β' (by exact .tmp rfl .nil) (Back.here cntL) ?_
 exact⟨⟨_,List.getElem_mem _,Y⟩,hB⟩
end
section
variable{mn:Who}
theorem Mo.ok.le{m:Mo}{u v:View}(h:m.ok u)(hl:u.Le v):m.ok v:=⟨h.row.le hl,h.P,h.len,h.all⟩
theorem ownInts_x{v:View}{a:Option Addr}{cap:Nat}{xs:List Nat}(hx:RowAt v a (xs.map natV))(hl:xs.length<2^30) :
  CallsB prog mn 54 #[.slice a xs.length cap] (RetB fun r β'=>∃a' cap',r = .slice a' xs.length cap'∧OwnS 3 1 β' a' xs.length cap' (xs.map natV)) [] v:=by
 refine A0d tab func54 Y nB (args:=[_]) ?_
 refine su ?_
 refine Q_op fun ho=>A3w tab ho Y Y Y Y Y Y Y Y Y (fun b2 c2 hS=>?_)
 refine su ?_
 refine Q_op fun ho=>A3x tab (xs:=xs.map natV) [(b2,c2,3)] [] [] ho Y Y Y Y Y Y Y Y Y Y (fun _=>rfl) hS
  (fun _=>hx.le (A0g _ _)) sM (by simp [List.all_eq_true,natV,A2k]) oM oM (fun seg a' cap' hS'=>?_)
 refine su ?_
 refine A0f tab seg (by exact .tmp rfl .nil) (Back.here cntL) ?_
 rw [Nat.zero_add]at hS'
 exact⟨a',cap',by show Value.slice a' (0+xs.length) cap'=_;rw [Nat.zero_add],hS'⟩
end
section
variable{mn:Who}{v:View}
theorem modV{x y P:Nat}(hx:x<P)(hy:1≤y∧y≤P-1)(hP:P≤4):(x+y) % P<P∧x≠(x+y) % P:=by
 refine⟨Nat.mod_lt _ oM,fun e=>?_⟩
 by_cases h:x+y<P
 ·rw [Nat.mod_eq_of_lt h]at e;omega
 ·rw [Nat.mod_eq_sub_mod oM,Nat.mod_eq_of_lt oM]at e;omega
theorem remV{a b P:Nat}(hP:0<P)(hP':P<2^62):A6c tab .rem 3 (.int .i64 ((a:Int)+b)) (.int .i64 P)=some (natV ((a+b) % P)):=by
 simp only [A6c,if_true]
 rw [if_neg oM]
 simp only [natV]
 congr 2
theorem row_rest{β bin rest seg:A0e}{e:TypeId}{k:Nat}{a:Option Addr}{len cap:Nat}{cs:List Value}(hb:Bok β v)(hs:∀p,cnt p β=cnt p (bin++rest))(hS:OwnS e k seg a len cap cs)(hsub:Subm seg rest):RowAt (v.union (A0c rest)) a cs:=
 RowAt.own (bok_append.1 (A3v (A2e hs) hb).1).1 hsub hS
theorem actOf_x{g:Bg}{at':Nat}{β:A0e}(hr:g.ok v)(hB:g.at at' β)(hat:at'<2^60){m:Mo}(hm:m.ok v){ao:Option Addr}{co:Nat}{os:List Nat}(hos:RowAt v ao (os.map natV))(hol:os.length=m.dawn.length)(hoa:∀y∈os,y<m.P) :
  CallsB prog mn 55 #[g.ptr,m.val,.slice ao os.length co] (RetB fun r β'=>∃x:MAct,x.ok m.P m.dawn.length∧r=x.val∧∃n,n≤at'+6∧g.at n β') β v:=by
 have hl:=hm.len
 have hP:=hm.P
 refine A0d tab func55 Y nB (args:=[_,_,_]) ?_
 have hmv:m.val = .agg (List.toArray [natV m.P,.slice m.a m.dawn.length m.cap]):=rfl
 rw [hmv]
 refine sw fun bx=>?_;refine sw fun bx=>?_
 rename_i b4
 obtain⟨b6,rfl⟩:∃b:Nat,b=bx:=⟨bx,rfl⟩
 refine Q_front (bin:=β) (by repeat (first|(with_reducible exact split_head)|(with_reducible exact split_headA)|(with_reducible exact A6v)|(with_reducible apply split_cons))) ?_
 refine Q_op fun ho=>A0o β _ ho bod53 Y Y Y Y Y split_head (by rw [show(m.dawn.length:Int)-1=((m.dawn.length-1:Nat):Int) by omega];exact upTo_x (hr.le (A0g _ _)) hB oM (m.dawn.length-1) oM) (fun x β' hR=>?_)
 clear ho
 obtain⟨⟨ah,rfl,hh⟩,hB⟩:=hR
 refine su ?_
 refine Q_op fun ho=>A0o β' _ ho bod53 Y Y Y Y Y split_head (upTo_x (hr.le (A0g _ _)) hB oM 5 oM) (fun x β' hR=>?_)
 clear ho
 obtain⟨⟨k,rfl,hk⟩,hB⟩:=hR
 have hlt:ah<os.length:=oM
 obtain⟨bb,off,p,c,e,f,rfl,hv,hc⟩:=hos.get hlt
 refine su ?_
 refine A1i Y (fun h=>?_) (fun h=>?_)
 ·replace h:=fa h
  refine su ?_
  refine A0f tab β' (xs:=[MAct.val ⟨1,0,0,ah⟩]) (resL_cell tab Y ib Y .nil) (Back.here cntL) ?_
  exact⟨⟨1,0,0,ah⟩,⟨by show 1≤2;omega,by show ah<_;omega,fun _=>⟨Y,Y⟩,⟨by show 0<_;omega,by show 0<_;omega⟩,(fun hh=>by cases hh)⟩,rfl,_,oM,hB⟩
 ·replace h:=fa h
  have hk0:=h
  clear h
  refine su ?_
  refine A1i Y (fun h=>?_) (fun h=>?_)
  ·replace h:=fa h
   have hk1:=h
   clear h
   refine su ?_
   refine A1d [4,14,15,16,19] [0,1,2,3,5,6,7,8,9,10,11,12,13,17,4,14,15,16,18,19] A1e Y kR ?_
   refine su ?_
   refine A0s tab ah Y Y Y kR Y Y Y Y Y hlt ?_
   refine A8v tab Y Y Y kR Y hv (A0l tab Y Y Y (by rw [Nat.mul_one];exact hc _ hlt)) ?_
   refine su ?_
   refine S_do kR (A0o β' _ Y bod53 Y Y Y Y Y split_head (by rw [show(m.P:Int)-1=((m.P-1:Nat):Int) by omega];exact upTo_x (hr.le (A0g _ _)) hB oM (m.P-1) oM) (fun x β' hR=>⟨Le.refl _,?_,?_⟩))
   ·exact kp
   obtain⟨⟨a1,rfl,ha1⟩,hB⟩:=hR
   refine su ?_
   refine S_do kR (A0o β' _ Y bod53 Y Y Y Y Y split_head (by rw [show(m.P:Int)-1=((m.P-1:Nat):Int) by omega];exact upTo_x (hr.le (A0g _ _)) hB oM (m.P-1) oM) (fun x β' hR=>⟨Le.refl _,?_,?_⟩))
   ·exact kp
   obtain⟨⟨a2,rfl,ha2⟩,hB⟩:=hR
   refine su ?_
   refine S_do kR (A3w tab Y Y Y Y Y Y Y Y Y Y (fun b3 c3 hL=>⟨Le.refl _,?_,?_⟩))
   ·exact kp
   refine su ?_
   refine S_do kR (A_bok fun hbk=>A0o β' [(b3,c3,3),(b6,(Value.agg (List.toArray [.int .i64 0,.int .i64 0,.int .i64 0,.int .i64 0])).cells,40),(b4,(Value.agg (List.toArray [natV m.P,.slice m.a m.dawn.length m.cap])).cells,26)] Y bod105 Y Y Y Y Y cntA (pick_x (hr.le (A0g _ _)) hB oM (xs:=[(os[ah]:Int),(a2:Int)]) (row_rest (bin:=β') hbk cntA hL cntL) sM sM) (fun x β' hR=>⟨Le.refl _,?_,?_⟩))
   ·exact kp
   obtain⟨⟨y,hy,rfl⟩,hB⟩:=hR
   have hlt':=hoa _ (List.getElem_mem hlt)
   obtain⟨z,rfl,hz⟩:∃z:Nat,y=z∧z<m.P:=by
    simp only [List.mem_cons,List.not_mem_nil,or_false]at hy
    rcases hy with rfl|rfl
    ·exact⟨_,Y,hlt'⟩
    ·exact⟨_,Y,oM⟩
   refine su ?_
   refine A0f tab β' (xs:=[MAct.val ⟨2,a1,z,ah⟩]) (resL_cell tab Y ib Y .nil) (Back.here cntL) ?_
   exact⟨⟨2,a1,z,ah⟩,⟨Nat.le_refl _,by show ah<_;omega,(fun hh=>by cases hh),⟨by show a1<_;omega,hz⟩,(fun hh=>by cases hh)⟩,rfl,_,oM,hB⟩
  ·replace h:=fa h
   have hk1:=h
   clear h
   refine su ?_
   refine A1d [12,19] [0,1,2,3,4,5,6,7,8,9,10,11,14,15,17,12,13,16,18,19] A1e Y kR ?_
   refine su ?_
   refine A0s tab ah Y Y Y kR Y Y Y Y Y hlt ?_
   refine A8v tab Y Y Y kR Y hv (A0l tab Y Y Y (by rw [Nat.mul_one];exact hc _ hlt)) ?_
   refine su ?_
   refine A0s tab ah Y Y Y kR Y Y Y Y Y hlt ?_
   refine A8v tab Y Y Y kR Y hv (A0l tab Y Y Y (by rw [Nat.mul_one];exact hc _ hlt)) ?_
   refine su ?_
   refine S_do kR (A0o β' _ Y bod52 Y Y Y Y Y split_head (by rw [show(m.P:Int)-1=((m.P-1:Nat):Int) by omega];exact among_x (hr.le (A0g _ _)) hB oM 1 (m.P-1) oM oM) (fun x β' hR=>⟨Le.refl _,?_,?_⟩))
   ·exact kp
   obtain⟨⟨a2,rfl,ha2⟩,hB⟩:=hR
   have hlt':=hoa _ (List.getElem_mem hlt)
   have hmv2:=modV hlt' ha2 hP.2
   refine su ?_
   refine S_pure tab (x:=natV ((os[ah]+a2) % m.P)) Y Y Y kR (remV oM oM) ?_
   refine su ?_
   refine A0f tab β' (xs:=[MAct.val ⟨0,os[ah],(os[ah]+a2) % m.P,ah⟩]) (resL_cell tab Y ib Y .nil) (Back.here cntL) ?_
   exact⟨⟨0,os[ah],(os[ah]+a2) % m.P,ah⟩,⟨by show 0≤2;omega,by show ah<_;omega,(fun hh=>by cases hh),⟨hlt',hmv2.1⟩,fun _=>hmv2.2⟩,rfl,_,oM,hB⟩
end
section
variable{mn:Who}{v:View}
theorem ownS_set1{e:TypeId}{b j len cap:Nat}{c:Array Value}{cs:List Value}(x:Value)(h:OwnS e 1 [(b,c,e)] (some ⟨b,0,none⟩) len cap cs)(hj:j<len):OwnS e 1 [(b,A0z c j [x],e)] (some ⟨b,0,none⟩) len cap (cs.set j x)∧j+1≤c.size:=by
 cases h with
 | box h1 h2 h3 h4=>
  refine⟨.box (by simpa using h1) h2 (by rw [A3l];exact h3) fun i y hy=>?_,oM⟩
  rw [A9b (by simp;omega)]
  rw [List.getElem?_set]at hy
  by_cases hij:j=i
  ·subst hij
   rw [if_pos Y,if_pos oM]at hy
   rw [if_pos ⟨Nat.le_refl _,by simp⟩]
   simpa using hy
  ·rw [if_neg hij]at hy
   rw [if_neg (by simp;omega)]
   exact h4 i y hy
theorem actOf_n{g:Bg}{at':Nat}{β:A0e}(hr:g.ok v)(hB:g.at at' β)(hat:at'<2^60){m:Mo}(hm:m.ok v){ao:Option Addr}{co:Nat}{os:List Nat}(hos:RowAt v ao (os.map natV))(hol:os.length=m.dawn.length)(hoa:∀y∈os,y<m.P) :
  CallsB prog mn 55 #[g.ptr,.agg (List.toArray [natV m.P,.slice m.a m.dawn.length m.cap]),.slice ao m.dawn.length co] (RetB fun r β'=>∃x:MAct,x.ok m.P m.dawn.length∧r=x.val∧∃n,n≤at'+6∧g.at n β') β v:=by
 have:=actOf_x (mn:=mn) (co:=co) hr hB hat hm hos hol hoa
 rw [show(Value.slice ao os.length co) = .slice ao m.dawn.length co by rw [hol]]at this
 exact this
structure BookS where
 k:Nat
 acts:List MAct
 os:List Nat
 co:Array Value
 seg:A0e
 a:Option Addr
 cap:Nat
 n:Nat
 βb:A0e
theorem bookOf_x{g:Bg}{at':Nat}{β:A0e}(hr:g.ok v)(hB:g.at at' β)(hat:at'<2^50){m:Mo}(hm:m.ok v){N:Nat}(hN:N≤9) :
  CallsB prog mn 9 #[g.ptr,m.val,.int .i64 N] (RetB fun r β'=>∃(x:Bo) (n:Nat) (βb seg:A0e),r=x.val∧β'=βb++seg∧g.at n βb∧n≤at'+200∧OwnS 40 4 seg x.a x.acts.length x.cap (x.acts.map MAct.cells).flatten∧x.acts.length≤N∧∀y∈x.acts,y.ok m.P m.dawn.length) β v:=by
 have hl:=hm.len
 have hP:=hm.P
 refine A0d tab func9 Y nB (args:=[_,_,_]) ?_
 have hmv:m.val = .agg (List.toArray [natV m.P,.slice m.a m.dawn.length m.cap]):=rfl
 rw [hmv]
 refine sw fun bx=>?_
 obtain⟨b4,rfl⟩:∃b:Nat,b=bx:=⟨bx,rfl⟩
 refine Q_op fun ho=>A0o [] _ ho bod54 Y Y Y Y Y A7s (ownInts_x (hm.row.le (A0g _ _)) oM) (fun x β' hR=>?_)
 clear ho
 obtain⟨ao,cao,rfl,hO⟩:=hR
 obtain⟨bo,co,rfl,rfl⟩:∃bo co,ao=some ⟨bo,0,none⟩∧β'=[(bo,co,3)]:=by
  generalize m.dawn.map natV=ll at hO
  generalize hnn:m.dawn.length=nn at hO
  cases hO with
  | nil=>omega
  | box _ _ _ _=>exact⟨_,_,rfl,rfl⟩
 refine su ?_
 refine Q_front (bin:=β) (rest:=[(bo,co,3),(b4,(Value.agg (List.toArray [natV m.P,.slice m.a m.dawn.length m.cap])).cells,26)]) cntA ?_
 refine Q_op fun ho=>A0o β _ ho bod53 Y Y Y Y Y split_head (upTo_x (hr.le (A0g _ _)) hB oM N oM) (fun x β' hR=>?_)
 clear ho
 obtain⟨⟨k0,rfl,hk0⟩,hB⟩:=hR
 refine su ?_
 refine A1q (α:=BookS) (fun z=>⟨[],[(9,.int .i64 z.k),(8,.slice z.a z.acts.length z.cap),(7,.slice (some ⟨bo,0,none⟩) m.dawn.length cao),(0,g.ptr),(4,.pointer (some ⟨b4,0,none⟩))],z.βb++([(bo,z.co,3),(b4,(Value.agg (List.toArray [natV m.P,.slice m.a m.dawn.length m.cap])).cells,26)]++z.seg)⟩)
  (fun z u=>u=v∧z.acts.length+z.k=k0∧z.os.length=m.dawn.length∧(∀y∈z.os,y<m.P)∧OwnS 3 1 [(bo,z.co,3)] (some ⟨bo,0,none⟩) m.dawn.length cao (z.os.map natV)∧OwnS 40 4 z.seg z.a z.acts.length z.cap (z.acts.map MAct.cells).flatten∧(∀y∈z.acts,y.ok m.P m.dawn.length)∧g.at z.n z.βb∧z.n≤at'+1+13*z.acts.length) (fun z=>z.k) ⟨k0,[],m.dawn,co,[],none,0,at'+1,β'⟩
  ⟨Y,rg,cntL⟩ (Le.refl _) ⟨Y,by simp,Y,hm.all,hO,.nil,by simp,hB,Nat.le_refl _⟩ ?_
 rintro⟨k,acts,os,co,seg,a,cap,n,βb⟩ u ⟨rfl,hk,hol,hoa,hOw,hSeg,hAll,hBb,hn⟩
 simp only at hk hol hoa hOw hSeg hAll hBb hn
 dsimp only
 refine su ?_
 refine A1i Y (fun h=>?_) (fun h=>?_)
 ·replace h:=fa h
  have hk1:=h
  clear h
  refine su ?_
  refine Q_op fun ho=>A_bok fun hbk=>A0o βb ([(bo,co,3),(b4,(Value.agg (List.toArray [natV m.P,.slice m.a m.dawn.length m.cap])).cells,26)]++seg) ho bod55 Y Y Y Y Y split_head (actOf_n (hr.le (A0g _ _)) hBb oM (hm.le (A0g _ _)) (row_rest (bin:=βb) hbk split_head hOw cntL) hol hoa) (fun x β' hR=>?_)
  clear ho
  obtain⟨x,hx,rfl,n1,hn1,hB1⟩:=hR
  refine qu fun bx=>?_
  refine A6q (fun σ w=>w=u∧∃(x:MAct) (βq:A0e) (nq:Nat),x.ok m.P m.dawn.length∧g.at nq βq∧nq≤n+13∧σ=⟨[],[(10,.pointer (some ⟨bx,0,none⟩)),(9,.int .i64 k),(8,.slice a acts.length cap),(7,.slice (some ⟨bo,0,none⟩) m.dawn.length cao),(0,g.ptr),(4,.pointer (some ⟨b4,0,none⟩))],(bx,x.val.cells,40)::(βq++([(bo,co,3),(b4,(Value.agg (List.toArray [natV m.P,.slice m.a m.dawn.length m.cap])).cells,26)]++seg))⟩) ?_ ?_
  ·rintro σ w ⟨rfl,y,βq,nq,hy,hBq,hnq,rfl⟩
   have hyh:=hy.h
   have hcell:co[y.h]?=some (natV os[y.h]):=by
    cases hOw with
    | box h1 h2 h3 h4=>exact h4 _ _ (by rw [List.getElem?_map,List.getElem?_eq_getElem oM];rfl)
   refine A6q (fun σ w'=>w'=w∧∃(os1:List Nat) (co1:Array Value),os1.length=m.dawn.length∧(∀z∈os1,z<m.P)∧OwnS 3 1 [(bo,co1,3)] (some ⟨bo,0,none⟩) m.dawn.length cao (os1.map natV)∧σ=⟨[],[(10,.pointer (some ⟨bx,0,none⟩)),(9,.int .i64 k),(8,.slice a acts.length cap),(7,.slice (some ⟨bo,0,none⟩) m.dawn.length cao),(0,g.ptr),(4,.pointer (some ⟨b4,0,none⟩))],(bx,y.val.cells,40)::(βq++([(bo,co1,3),(b4,(Value.agg (List.toArray [natV m.P,.slice m.a m.dawn.length m.cap])).cells,26)]++seg))⟩) ?_ ?_
   ·rintro σ w ⟨rfl,os1,co1,hol1,hoa1,hOw1,rfl⟩
    refine su ?_
    refine Q_op fun ho=>A3w tab ho Y Y Y Y Y Y Y Y Y (fun b3 c3 hL=>?_)
    clear ho
    refine su ?_
    refine Q_op fun ho=>A3x tab (xs:=y.cells) seg [(b3,c3,40)] ((bx,y.val.cells,40)::(βq++[(bo,co1,3),(b4,(Value.agg (List.toArray [natV m.P,.slice m.a m.dawn.length m.cap])).cells,26)])) ho Y Y Y Y Y Y Y Y Y Y cntA hSeg
     (fun hb=>RowAt.own hb cntL hL) Y Y (by show(2*(acts.length+1)+768)*32≤2^48;omega) oM (fun seg' a' cap' hS'=>?_)
    clear ho
    refine su ?_
    refine A0b ⟨⟨k-1,acts++[y],os1,co1,seg',a',cap',nq,βq⟩,w,by simp only;omega,⟨Y,?_,cntL⟩,Le.refl _,Y,by simp only [List.length_append,List.length_singleton];omega,hol1,hoa1,hOw1,?_,?_,hBq,by simp only [List.length_append,List.length_singleton];omega⟩
    ·refine⟨?_,?_,Y,Y,Y,trivial⟩
     ·show some (Value.int .i64 ((k:Int)-1))=some (Value.int .i64 ((k-1:Nat):Int))
      congr 2;omega
     ·simp only [List.length_append,List.length_singleton];rfl
    ·simp only [List.map_append,List.map_cons,List.map_nil,List.flatten_append,List.flatten_cons,List.flatten_nil,List.append_nil,List.length_append,List.length_singleton]
     exact hS'
    ·intro z hz
     simp only [List.mem_append,List.mem_singleton]at hz
     rcases hz with hz|rfl
     ·exact hAll z hz
     ·exact hy
   ·refine su ?_
    refine A7d Y Y (fun h=>?_) (fun h=>?_)
    ·refine su ?_
     refine A1m tab y.h Y Y Y Y Y Y Y hyh ?_
     refine A1j tab Y Y Y ib (A0l tab Y Y Y (by rw [Nat.mul_one,Nat.zero_add];exact hcell)) ?_
     refine su ?_
     refine A1i Y (fun h=>?_) (fun h=>?_)
     ·replace h:=fa h
      refine su ?_
      refine A6d tab y.h Y Y Y Y Y Y Y hyh ?_
      have hset:=ownS_set1 (natV y.b) hOw hyh
      have hoff:0+y.h*1=y.h:=oM
      refine Q_op fun ho=>A1c tab (c:=co) (x:=natV y.b) ho Y Y Y Y Y Y ib (Nat.ble_eq_true_of_le (by rw [hoff];exact hset.2)) sb ?_
      clear ho
      refine su ?_
      refine A0b ⟨_,_,⟨Y,os.set y.h y.b,A0z co (0+y.h*1) [natV y.b],by simpa using hol,fun z hz=>?_,?_,Y⟩,⟨Y,rg,cntL⟩,Le.refl _⟩
      ·rcases List.mem_or_eq_of_mem_set hz with h'|h'
       ·exact hoa z h'
       ·exact h' ▸ hy.ab.2
      ·rw [hoff]
       have:=hset.1
       rw [←List.map_set]at this
       exact this
     ·replace h:=fa h
      refine su ?_
      refine A0b ⟨_,_,⟨Y,os,co,hol,hoa,hOw,Y⟩,⟨Y,rg,cntL⟩,Le.refl _⟩
    ·refine su ?_
     refine A0b ⟨_,_,⟨Y,os,co,hol,hoa,hOw,Y⟩,⟨Y,rg,cntL⟩,Le.refl _⟩
  ·refine su ?_
   refine Q_op fun ho=>A0o β' ((bx,x.val.cells,40)::([(bo,co,3),(b4,(Value.agg (List.toArray [natV m.P,.slice m.a m.dawn.length m.cap])).cells,26)]++seg)) ho bod56 Y Y Y Y Y (show ∀p,Pal.cnt p ((bx,x.val.cells,40)::(β'++([(bo,co,3),(b4,(Value.agg (List.toArray [natV m.P,.slice m.a m.dawn.length m.cap])).cells,26)]++seg)))=Pal.cnt p (β'++((bx,x.val.cells,40)::([(bo,co,3),(b4,(Value.agg (List.toArray [natV m.P,.slice m.a m.dawn.length m.cap])).cells,26)]++seg)))from cntA) (once_x (hr.le (A0g _ _)) hB1 oM 6 oM) (fun x β' hR=>?_)
   clear ho
   obtain⟨⟨q,rfl⟩,hB2⟩:=hR
   refine su ?_
   refine A1i Y (fun h=>?_) (fun h=>?_)
   ·subst h
    refine su ?_
    refine Q_op fun ho=>A0o β' ((bx,x.val.cells,40)::([(bo,co,3),(b4,(Value.agg (List.toArray [natV m.P,.slice m.a m.dawn.length m.cap])).cells,26)]++seg)) ho bod55 Y Y Y Y Y split_head (actOf_n (hr.le (A0g _ _)) hB2 oM (hm.le (A0g _ _)) (hm.row.le (A0g _ _)) Y hm.all) (fun y β' hR=>?_)
    clear ho
    obtain⟨y,hy,rfl,n2,hn2,hB3⟩:=hR
    refine su ?_
    refine A0b ⟨_,_,⟨Y,y,β',n2,hy,hB3,oM,Y⟩,⟨Y,rg,show Subm ((bx,y.val.cells,40)::(β'++([(bo,co,3),(b4,(Value.agg (List.toArray [natV m.P,.slice m.a m.dawn.length m.cap])).cells,26)]++seg))) (β'++((bx,y.val.cells,40)::([(bo,co,3),(b4,(Value.agg (List.toArray [natV m.P,.slice m.a m.dawn.length m.cap])).cells,26)]++seg)))from cntL⟩,Le.refl _⟩
   ·subst h
    refine su ?_
    refine A0b ⟨_,_,⟨Y,x,β',_,hx,hB2,oM,Y⟩,⟨Y,rg,cntL⟩,Le.refl _⟩
 ·replace h:=fa h
  have hk0:k=0:=oM
  subst hk0
  refine su ?_
  refine A0f tab (xs:=[.slice a acts.length cap]) (βb++seg) (by exact .tmp rfl .nil) (Back.here cntL) ?_
  exact⟨⟨acts,a,cap⟩,n,βb,seg,Y,Y,hBb,oM,hSeg,by show acts.length≤N;omega,hAll⟩
end
end Go.Proofs.YtclejblcnfaeaaaGreatDoor
end
section
namespace Go.Pal.To
open Go
theorem repsOf_get:∀{l:List MA} {os:List Int} {i:Nat} (hi:i<l.length),(B0g os l)[i]?=some (B1q (A3z os (l.take i)) l[i])
 | [],_,_,h=>absurd h (Nat.not_lt_zero _)
 | x::l,os,0,_=>rfl
 | x::l,os,i+1,h=>by
  show(B0g (doN os x) l)[i]?=_
  rw [repsOf_get (by simpa using h)]
  rfl
theorem doN_in{P N:Int}{os:List Int}{x:MA}(h:∀o∈os,0≤o∧o<P)(hx:Ok P N x):∀o∈doN os x,0≤o∧o<P:=fun o ho=>by
 unfold doN at ho
 split at ho
 ·rename_i hs
  have hk:x.k=0:=by simp only [sold,Bool.and_eq_true,beq_iff_eq]at hs;exact hs.1
  rcases List.mem_or_eq_of_mem_set ho with h1|rfl
  ·exact h o h1
  ·exact(hx.ab oM).2
 ·exact h o ho
theorem duskOf_in{P N:Int}:∀{l:List MA} {os:List Int},(∀o∈os,0≤o∧o<P)→(∀x∈l,Ok P N x)→∀o∈A3z os l,0≤o∧o<P
 | [],_,h,_=>h
 | x::l,os,h,hl=>duskOf_in (l:=l) (os:=doN os x) (doN_in h (hl x sM)) fun y hy=>hl y (by simp [hy])
end Go.Pal.To
end
section
namespace Go.Proofs.YtclejblcnfaeaaaGreatDoor
open Go Go.Pal Go.Pal.To Go.Conc View
open Go.Proofs.Tryz
set_option maxHeartbeats 4000000
set_option maxRecDepth 20000
section
variable{mn:Who}{v:View}{P:Int}{aD aA:Option Addr}{cD cA:Nat}{d:List Int}{l:List MA}
theorem hold_ok(hd:RowAt v aD (d.map intV))(ha:ActsAt v aA l)(hok:HOk P d l) :
  A6l prog mn 10 [moV P aD d.length cD,.slice aA l.length cA] (fun x u=>∃ar cr ad cd,x = .tuple (List.toArray [.slice ar l.length cr,.slice ad d.length cd,intV 0])∧RowAt u ar ((B0g d l).map .string)∧RowAt u ad ((A3z d l).map intV)) v:=
 A6l.mono (hold_x hd (by have:=hok.m.len;omega) ha (by have:=hok.len;omega)) fun x u hl hx=>by
  obtain⟨ar,cr,ad,cd,h1,h2,h3⟩:=hx
  unfold holdR at h1 h2 h3
  rw [if_neg (by simpa using holdE_ok.2 hok)]at h1 h2 h3
  simp only [repsOf_len,A9w]at h1
  exact⟨ar,cr,ad,cd,h1,h2,h3⟩
theorem string_ne{s:ByteArray}(t:ByteArray)(h:s≠t):(s.toList==t.toList)=false:=by
 rw [beq_eq_false_iff_ne]
 intro e
 rw [ByteArray.toList_eq,ByteArray.toList_eq]at e
 exact h (bytes_eq e)
end
section
variable{mn:Who}{v:View}
def MAct.to(x:MAct):MA:=⟨x.k,x.a,x.b,x.h⟩
theorem cells_to(l:List MAct):(l.map MAct.cells).flatten=((l.map MAct.to).map MA.cells).flatten:=by
 rw [List.map_map];rfl
theorem MAct.ok.to{x:MAct}{P N:Nat}(h:x.ok P N):Ok P N x.to:=by
 obtain⟨k,a,b,hh⟩:=x
 obtain⟨h1,h2,h3,h4,h5⟩:=h
 simp only at h1 h2 h3 h4 h5
 refine⟨?_,⟨Int.natCast_nonneg _,?_⟩,fun e=>?_,fun _=>⟨⟨Int.natCast_nonneg _,?_⟩,⟨Int.natCast_nonneg _,?_⟩⟩,fun e=>?_⟩
 ·simp only [MAct.to];omega
 ·simp only [MAct.to];omega
 ·simp only [MAct.to]at e⊢;have:=h3 oM;omega
 ·simp only [MAct.to];omega
 ·simp only [MAct.to];omega
 ·simp only [MAct.to]at e⊢;have:=h5 oM;omega
theorem nats_of{d:List Int}(h:∀x∈d,0≤x):∃dn:List Nat,d=dn.map fun n:Nat=>(n:Int):=by
 refine⟨d.map Int.toNat,?_⟩
 rw [List.map_map]
 conv=>lhs;rw [←List.map_id d]
 refine List.map_congr_left fun x hx=>?_
 have:=h x hx
 simp only [id_eq,Function.comp_apply];omega
theorem bookOf_z{g:Bg}{at':Nat}{β:A0e}(hr:g.ok v)(hB:g.at at' β)(hat:at'<2^50){P:Int}{d:List Int}{aD:Option Addr}{cD:Nat}(hd:RowAt v aD (d.map intV))(hm:MOk P d)(hP:2≤P){N:Nat}(hN:N≤9) :
  CallsB prog mn 9 #[g.ptr,moV P aD d.length cD,.int .i64 N] (RetB fun r β'=>∃(l:List MA) (a:Option Addr) (c n:Nat) (βb seg:A0e),r = .slice a l.length c∧β'=βb++seg∧g.at n βb∧n≤at'+200∧OwnS 40 4 seg a l.length c (l.map MA.cells).flatten∧l.length≤N∧∀x∈l,Ok P d.length x) β v:=by
 have h1:=hm.p
 have h2:=hm.len
 obtain⟨p,rfl⟩:∃p:Nat,P=p:=⟨P.toNat,oM⟩
 obtain⟨dn,rfl⟩:=nats_of fun x hx=>(hm.all x hx).1
 rw [List.length_map]at h2⊢
 rw [←nats_to]at hd
 have:=bookOf_x (mn:=mn) (m:=⟨p,dn,aD,cD⟩) hr hB hat ⟨hd,by simp only;omega,h2,fun x hx=>by
  have:=(hm.all x (List.mem_map.2 ⟨x,hx,Y⟩)).2
  simp only;omega⟩ hN
 refine CallsB.mono this fun e β' h=>?_
 cases e with
 | ret r=>
  obtain⟨x,n,βb,seg,rfl,h2,h3,h4,h5,h6,h7⟩:=h
  obtain⟨acts,a,c⟩:=x
  simp only at h5 h6 h7
  refine⟨acts.map MAct.to,a,c,n,βb,seg,?_,h2,h3,h4,?_,?_,fun y hy=>?_⟩
  ·rw [List.length_map];rfl
  ·rw [List.length_map,←cells_to];exact h5
  ·rw [List.length_map];exact h6
  ·obtain⟨z,hz,rfl⟩:=List.mem_map.1 hy
   exact(h7 z hz).to
 | _=>exact h.elim
end
end Go.Proofs.YtclejblcnfaeaaaGreatDoor
end
section
namespace Go.Pal
open Go Go.Conc View
def TopQ(t:Nat):Exit→St→View→Prop:=fun e σ _=>e = .ret∧σ.ds=[]∧σ.ρ.get t=some (.bool true)
section
variable{P:Program}{mn:Who}{v:View}
theorem top_run{f:FuncId}{fn:Func}{c:Code}{args:List Value}{t:Nat}(hf:P.funcs[f]?=some fn)(hb:fn.body=some c)(hn:args.length≤fn.ntmps)(h:XC P mn none fn.ntmps c (TopQ t) ⟨[],A2l 0 args,[]⟩ v) :
  Run P mn (AtTop f t) v (G (Frame.enter P f args.toArray .normal) []):=by
 let b:Frame:={fn:=f,tmps:=#[],todo:=[],defers:=[],mode:=.run,kind:=.normal }
 have henter:Frame.enter P f args.toArray .normal=b.on {tmps:=args.toArray++Array.replicate (fn.ntmps-args.toArray.size) undef,defers:=[] } [.code c]:=by
  simp [Frame.enter,Frame.on,hf,hb,b]
 rw [henter]
 have h1:=(h _ (B1y hn) (A4c v)) (AtTop f t) b [] [] (by simp [b]) Y (fun e a' w hQ=>by
  obtain⟨⟨ds',ρ',β'⟩,u,⟨rfl,h1,h2⟩,hf',hb',hl⟩:=hQ
  intro todo
  refine Run.ctl Y (g':=G {b.on a' (.code .ret::todo)with mode:=.returning } []) (fun w=>by simp [G,stepG,stepG.exec,Frame.on,b]) ?_
  exact .stop (Le.refl _) ⟨_,Y,Y,hf'.defers.trans h1,Y,Y,hf'.get _ _ h2⟩)
 rw [A1r]at h1
 exact h1
end
end Go.Pal
end
section
namespace Go.Proofs.YtclejblcnfaeaaaGreatDoor
open Go Go.Pal Go.Pal.To Go.Conc View
open Go.Proofs.Tryz
set_option maxHeartbeats 4000000
set_option maxRecDepth 20000
theorem ownInts_i{mn:Who}{v:View}{a:Option Addr}{cap:Nat}{xs:List Int}(hx:RowAt v a (xs.map intV))(hl:xs.length<2^30) :
  CallsB prog mn 54 #[.slice a xs.length cap] (RetB fun r β'=>∃a' cap',r = .slice a' xs.length cap'∧OwnS 3 1 β' a' xs.length cap' (xs.map intV)) [] v:=by
 refine A0d tab func54 Y nB (args:=[_]) ?_
 refine su ?_
 refine Q_op fun ho=>A3w tab ho Y Y Y Y Y Y Y Y Y (fun b2 c2 hS=>?_)
 refine su ?_
 refine Q_op fun ho=>A3x tab (xs:=xs.map intV) [(b2,c2,3)] [] [] ho Y Y Y Y Y Y Y Y Y Y (fun _=>rfl) hS
  (fun _=>hx.le (A0g _ _)) sM (by simp [List.all_eq_true,A2k]) oM oM (fun seg a' cap' hS'=>?_)
 refine su ?_
 refine A0f tab seg (by exact .tmp rfl .nil) (Back.here cntL) ?_
 rw [Nat.zero_add]at hS'
 exact⟨a',cap',by show Value.slice a' (0+xs.length) cap'=_;rw [Nat.zero_add],hS'⟩
theorem XS_re{P:Program}{mn:Who}{n:Nat}{Q:Exit→St→View→Prop}{ops:Array Oper}{S:List Rec}{done ms todo todo':List Nat}{v0 v:View}{σ:St}(h:XS P mn n ops ms v0 Q todo S done σ v)(ht:todo.length=todo'.length):XS P mn n ops ms v0 Q todo' S done σ v:=fun a hf hb hv hc=>by
 have hx:=h a hf hb hv hc
 rw [ht]at hx
 exact hx
section
variable{mn:Who}{v:View}
theorem own_box{e:TypeId}{k:Nat}{seg:A0e}{a:Option Addr}{len cap:Nat}{xs:List Value}(h:OwnS e k seg a len cap xs)(hl:0<len):∃b c,seg=[(b,c,e)]∧a=some ⟨b,0,none⟩∧len≤cap∧c.size=cap*k∧∀(i:Nat) (x:Value),xs[i]?=some x→c[i]?=some x:=by
 cases h with
 | nil=>cases hl
 | @box b c _ _ _ h1 h2 h3 h4=>exact⟨b,c,rfl,rfl,h2,h3,h4⟩
theorem ownActs_x{a:Option Addr}{cap:Nat}{xs:List MA}(hx:ActsAt v a xs)(hl:xs.length<2^20) :
  CallsB prog mn 20 #[.slice a xs.length cap] (RetB fun r β'=>∃a' cap',r = .slice a' xs.length cap'∧OwnS 40 4 β' a' xs.length cap' (xs.map MA.cells).flatten) [] v:=by
 refine A0d tab func20 Y nB (args:=[_]) ?_
 refine su ?_
 refine Q_op fun ho=>A3w tab ho Y Y Y Y Y Y Y Y Y (fun b2 c2 hS=>?_)
 refine su ?_
 refine Q_op fun ho=>A3x tab (xs:=(xs.map MA.cells).flatten) [(b2,c2,40)] [] [] ho Y Y Y Y Y Y Y Y Y Y (fun _=>rfl) hS
  (fun _=>RowAt.le hx (A0g _ _)) (by rw [rowsR_len (SZ:=4) (fun _=>rfl)]) (by simp [List.all_eq_true,MA.cells,A2k]) oM oM (fun seg a' cap' hS'=>?_)
 refine su ?_
 refine A0f tab seg (by exact .tmp rfl .nil) (Back.here cntL) ?_
 rw [Nat.zero_add]at hS'
 exact⟨a',cap',by show Value.slice a' (0+xs.length) cap'=_;rw [Nat.zero_add],hS'⟩
theorem ownMorn_x{P:Int}{aD:Option Addr}{cD:Nat}{d:List Int}(hd:RowAt v aD (d.map intV))(hl:d.length<2^30) :
  CallsB prog mn 21 #[moV P aD d.length cD] (RetB fun r β'=>∃a c,r=moV P a d.length c∧OwnS 3 1 β' a d.length c (d.map intV)) [] v:=by
 refine A0d tab func21 Y nB (args:=[_]) ?_
 refine sw fun bx=>?_;refine sw fun bx=>?_
 refine A1d [4,6] [0,1,2,3,4,5,6] A1e Y kR ?_
 refine su ?_
 refine S_do kR (A0o [] _ Y bod54 Y Y Y Y Y A7s (ownInts_i (hd.le (A0g _ _)) hl) (fun r1 β1 hR1=>⟨Le.refl _,kp,?_⟩))
 obtain⟨a',c',rfl,hO⟩:=hR1
 refine su ?_
 refine A0f tab β1 (by exact .cell rfl ib rfl .nil) (Back.here cntL) ?_
 exact⟨a',c',Y,hO⟩
end
section
variable{mn:Who}{v:View}
theorem B2s{n lo hi:Int}:Ret1 prog mn 152 [intV n,intV lo,intV hi] (.bool (!decide (outZ n lo hi))) v:=by
 refine A0d tab func152 Y nB (args:=[_,_,_]) ?_
 refine su ?_
 by_cases h:n≥lo
 ·rw [show decide (n≥lo)=true from decide_eq_true h]
  refine su ?_
  refine A0f tab [] (by exact .tmp rfl .nil) (Back.here cntL) ?_
  refine⟨?_,Y⟩
  have:(decide (n≤hi))=!decide (outZ n lo hi):=by
   by_cases h2:n≤hi
   ·rw [decide_eq_true h2,decide_eq_false (show ¬outZ n lo hi from by unfold outZ;omega)];rfl
   ·rw [decide_eq_false h2,decide_eq_true (show outZ n lo hi from by unfold outZ;omega)];rfl
  rw [←this];rfl
 ·rw [show decide (n≥lo)=false from decide_eq_false h]
  refine su ?_
  refine A0f tab [] (by exact .tmp rfl .nil) (Back.here cntL) ?_
  refine⟨?_,Y⟩
  rw [show decide (outZ n lo hi)=true from decide_eq_true (by unfold outZ;omega)];rfl
theorem checkR_x{P:Int}{a:Option Addr}{cap:Nat}{d:List Int}(hd:RowAt v a (d.map intV))(hlen:d.length<2^30):Ret1 prog mn 121 [moV P a d.length cap] (intV (A4b P d)) v:=by
 refine A0d tab func121 Y nB (args:=[_]) ?_
 refine sw fun bx=>?_
 refine Q_op fun ho=>A0u ho B2r Y Y Y Y Y B2s ?_
 clear ho
 by_cases h1:outZ P 1 4
 ·rw [show decide (outZ P 1 4)=true from decide_eq_true h1]
  refine su ?_
  refine A0f tab [] (by exact .tmp rfl .nil) (Back.here cntL) ?_
  exact⟨by unfold A4b;rw [if_pos h1];rfl,Y⟩
 rw [show decide (outZ P 1 4)=false from decide_eq_false h1]
 have hP:1≤P∧P≤4:=by unfold outZ at h1;omega
 refine su ?_
 by_cases h2:d.length=0
 ·rw [show((d.length:Int)==0)=true from by rw [h2];rfl]
  refine su ?_
  refine A0f tab [] (by exact .tmp rfl .nil) (Back.here cntL) ?_
  exact⟨by unfold A4b;rw [if_neg h1,if_pos h2];rfl,Y⟩
 rw [show((d.length:Int)==0)=false from by rw [beq_eq_false_iff_ne];omega]
 refine su ?_
 by_cases h3:d.length > 3
 ·rw [show decide ((d.length:Int) > 3)=true from decide_eq_true oM]
  refine su ?_
  refine A0f tab [] (by exact .tmp rfl .nil) (Back.here cntL) ?_
  exact⟨by unfold A4b;rw [if_neg h1,if_neg h2,if_pos h3];rfl,Y⟩
 rw [show decide ((d.length:Int) > 3)=false from decide_eq_false oM]
 refine su ?_
 have hcm:A4b P d=A5t P d:=by unfold A4b;rw [if_neg h1,if_neg h2,if_neg h3]
 rw [hcm]
 refine A1q (α:=Nat) (fun i=>⟨[],[(3,.int .i64 i),(1,.pointer (some ⟨bx,0,none⟩))],[(bx,List.toArray [intV P,.slice a d.length cap],26)]⟩)
  (fun i u=>u=v∧i≤d.length∧A5t P (d.drop i)=A5t P d) (fun i=>d.length-i) 0 ⟨Y,rg,cntL⟩ (Le.refl _) ⟨Y,Nat.zero_le _,Y⟩ ?_
 rintro i u ⟨rfl,hi,hr⟩
 refine su ?_
 refine A1i Y (fun h=>?_) (fun h=>?_)
 ·replace h:=fa h
  have hlt:i<d.length:=oM
  obtain⟨bb,off,p,c,e,f,rfl,hv,hc⟩:=hd.get hlt
  rw [List.drop_eq_getElem_cons hlt,show A5t P (d[i]::d.drop (i+1))=(if outZ d[i] 0 (P-1)then 3 else A5t P (d.drop (i+1)))from rfl]at hr
  refine su ?_
  refine A1d [8] [0,1,2,3,4,5,6,7,8,9] A1e Y kR ?_
  refine su ?_
  refine A0s tab i Y Y Y kR Y Y Y Y Y hlt ?_
  refine su ?_
  refine A8v tab Y Y Y kR Y hv (A0l tab Y Y Y (by rw [Nat.mul_one];exact hc _ hlt)) ?_
  refine su ?_
  refine S_do kR (A0u Y B2r Y Y Y Y Y B2s ⟨Le.refl _,kp,?_⟩)
  refine su ?_
  by_cases h4:outZ d[i] 0 (P-1)
  ·rw [show decide (outZ d[i] 0 (P-1))=true from decide_eq_true h4]
   rw [if_pos h4]at hr
   refine su ?_
   refine A0f tab [] (by exact .tmp rfl .nil) (Back.here cntL) ?_
   exact⟨by rw [←hr];rfl,Y⟩
  ·rw [show decide (outZ d[i] 0 (P-1))=false from decide_eq_false h4]
   rw [if_neg h4]at hr
   refine su ?_
   exact A0b ⟨i+1,u,oM,⟨Y,rg,cntL⟩,Le.refl _,Y,hlt,hr⟩
 ·replace h:=fa h
  have hin:i=d.length:=oM
  rw [hin,List.drop_length]at hr
  refine su ?_
  refine A0f tab [] (by exact .tmp rfl .nil) (Back.here cntL) ?_
  exact⟨by rw [←hr];rfl,Y⟩
theorem checkActR_x{P:Int}{a:Option Addr}{n cap:Nat}{x:MA}(hP:1≤P∧P≤4)(hn:n<2^30):Ret1 prog mn 153 [moV P a n cap,x.val] (intV (A7a P n x)) v:=by
 obtain⟨k,xa,xb,xh⟩:=x
 refine A0d tab func153 Y nB (args:=[_,_]) ?_
 refine sw fun bx=>?_;refine sw fun bx=>?_
 refine Q_op fun ho=>A0u ho B2r Y Y Y Y Y B2s ?_
 clear ho
 unfold A7a
 dsimp only
 by_cases h1:outZ k 0 2
 ·rw [show decide (outZ k 0 2)=true from decide_eq_true h1]
  rw [if_pos (show A4o k<0 from by unfold outZ at h1;unfold A4o;rw [if_neg oM,if_neg oM];decide)]
  refine su ?_
  refine A0f tab [] (by exact .tmp rfl .nil) (Back.here cntL) ?_
  exact⟨Y,Y⟩
 rw [show decide (outZ k 0 2)=false from decide_eq_false h1]
 have hk:k=0∨k=1∨k=2:=by unfold outZ at h1;omega
 clear h1
 rw [if_neg (show ¬A4o k<0 from by rcases hk with rfl|rfl|rfl<;>decide)]
 refine su ?_
 by_cases h2:k=1
 ·subst h2
  rw [show A4o 1=0 from Y,if_neg (show ¬((0:Int) > 0∧(outZ xa 0 (P-1)∨outZ xb 0 (P-1)))from fun h=>absurd h.1 dM),if_neg (show ¬((1:Int)=0∧xa=xb)from fun h=>absurd h.1 dM)]
  refine su ?_
  by_cases h4:xa=0
  ·subst h4
   refine su ?_
   by_cases h5:xb=0
   ·subst h5
    refine su ?_
    rw [if_neg (by rintro⟨-,h|h⟩<;>exact h Y)]
    refine Q_op fun ho=>A0u ho B2r Y Y Y Y Y B2s ?_
    clear ho
    by_cases h6:outZ xh 0 ((n:Int)-1)
    ·rw [show decide (outZ xh 0 ((n:Int)-1))=true from decide_eq_true h6,if_pos h6]
     refine su ?_
     refine A0f tab [] (by exact .tmp rfl .nil) (Back.here cntL) ?_
     exact⟨Y,Y⟩
    rw [show decide (outZ xh 0 ((n:Int)-1))=false from decide_eq_false h6,if_neg h6]
    refine su ?_
    refine A0f tab [] (by exact .tmp rfl .nil) (Back.here cntL) ?_
    exact⟨Y,Y⟩
   ·rw [show(xb != 0)=true from by simpa using h5,if_pos ⟨Y,.inr h5⟩]
    refine su ?_
    refine A0f tab [] (by exact .tmp rfl .nil) (Back.here cntL) ?_
    exact⟨Y,Y⟩
  ·rw [show(xa != 0)=true from by simpa using h4,if_pos ⟨Y,.inl h4⟩]
   refine su ?_
   refine A0f tab [] (by exact .tmp rfl .nil) (Back.here cntL) ?_
   exact⟨Y,Y⟩
 ·rw [show(k==1)=false from by simpa using h2]
  have h3:A4o k=2:=by rcases hk with rfl|rfl|rfl;rfl;exact absurd Y h2;rfl
  rw [h3,if_neg (show ¬((2:Int)=0∧(xa≠0∨xb≠0))from fun h=>absurd h.1 dM)]
  refine su ?_
  refine Q_op fun ho=>A0u ho B2r Y Y Y Y Y B2s ?_
  clear ho
  by_cases h4:outZ xa 0 (P-1)
  ·rw [show decide (outZ xa 0 (P-1))=true from decide_eq_true h4,if_pos ⟨by decide,.inl h4⟩]
   refine su ?_
   refine A0f tab [] (by exact .tmp rfl .nil) (Back.here cntL) ?_
   exact⟨Y,Y⟩
  rw [show decide (outZ xa 0 (P-1))=false from decide_eq_false h4]
  refine su ?_
  refine Q_op fun ho=>A0u ho B2r Y Y Y Y Y B2s ?_
  clear ho
  by_cases h5:outZ xb 0 (P-1)
  ·rw [show decide (outZ xb 0 (P-1))=true from decide_eq_true h5,if_pos ⟨by decide,.inr h5⟩]
   refine su ?_
   refine A0f tab [] (by exact .tmp rfl .nil) (Back.here cntL) ?_
   exact⟨Y,Y⟩
  rw [show decide (outZ xb 0 (P-1))=false from decide_eq_false h5,if_neg (fun h=>h.2.elim h4 h5)]
  refine su ?_
  refine Q_op fun ho=>A0u ho B2r Y Y Y Y Y B2s ?_
  clear ho
  by_cases h6:outZ xh 0 ((n:Int)-1)
  ·rw [show decide (outZ xh 0 ((n:Int)-1))=true from decide_eq_true h6,if_pos h6]
   refine su ?_
   refine A0f tab [] (by exact .tmp rfl .nil) (Back.here cntL) ?_
   exact⟨Y,Y⟩
  rw [show decide (outZ xh 0 ((n:Int)-1))=false from decide_eq_false h6,if_neg h6]
  refine su ?_
  by_cases h7:k=0
  ·subst h7
   refine su ?_
   by_cases h8:xa=xb
   ·rw [show(xa==xb)=true from by simpa using h8,if_pos ⟨Y,h8⟩]
    refine su ?_
    refine A0f tab [] (by exact .tmp rfl .nil) (Back.here cntL) ?_
    exact⟨Y,Y⟩
   ·rw [show(xa==xb)=false from by simpa using h8,if_neg (fun h=>h8 h.2)]
    refine su ?_
    refine A0f tab [] (by exact .tmp rfl .nil) (Back.here cntL) ?_
    exact⟨Y,Y⟩
  ·rw [show(k==0)=false from by simpa using h7,if_neg (fun h=>h7 h.1)]
   refine su ?_
   refine A0f tab [] (by exact .tmp rfl .nil) (Back.here cntL) ?_
   exact⟨Y,Y⟩
theorem checkBookR_x{P:Int}{a aL:Option Addr}{cap cL most n:Nat}{l:List MA}(hP:1≤P∧P≤4)(hn:n<2^30)(hl:ActsAt v aL l)(hll:l.length<2^30) :
  Ret1 prog mn 122 [moV P a n cap,.slice aL l.length cL,natV most] (intV (A4z P n most l)) v:=by
 refine A0d tab func122 Y nB (args:=[_,_,_]) ?_
 refine sw fun bx=>?_
 by_cases h2:l.length > most
 ·rw [show decide ((l.length:Int) > (most:Int))=true from decide_eq_true oM]
  refine su ?_
  refine A0f tab [] (by exact .tmp rfl .nil) (Back.here cntL) ?_
  exact⟨by unfold A4z;rw [if_pos h2];rfl,Y⟩
 rw [show decide ((l.length:Int) > (most:Int))=false from decide_eq_false oM]
 have hcb:A4z P n most l=A5a P n l:=by unfold A4z;rw [if_neg h2]
 rw [hcb]
 refine su ?_
 refine A1q (α:=Nat) (fun j=>⟨[],[(7,.int .i64 j),(1,.slice aL l.length cL),(3,.pointer (some ⟨bx,0,none⟩))],[(bx,List.toArray [intV P,.slice a n cap],26)]⟩)
  (fun j u'=>u'=v∧j≤l.length∧A5a P n (l.drop j)=A5a P n l) (fun j=>l.length-j) 0 ⟨Y,rg,cntL⟩ (Le.refl _) ⟨Y,Nat.zero_le _,Y⟩ ?_
 rintro j u' ⟨rfl,hj,hq⟩
 refine su ?_
 refine A1i Y (fun h=>?_) (fun h=>?_)
 ·replace h:=fa h
  have hjt:j<l.length:=oM
  obtain⟨bb2,off2,p2,c2,e2,f2,rfl,hv2,hc2⟩:=hl.get hjt
  rw [List.drop_eq_getElem_cons hjt,show A5a P n (l[j]::l.drop (j+1))=(if A7a P n l[j]≠0 then A7a P n l[j]else A5a P n (l.drop (j+1)))from rfl]at hq
  refine su ?_
  refine A1d [5] [0,1,2,3,4,5,6] A1e Y kR ?_
  refine su ?_
  refine A0s tab j Y Y Y kR Y Y Y Y Y hjt ?_
  refine su ?_
  refine A8v tab Y Y Y kR Y hv2 (A1g tab Y Y Y (hc2 j hjt)) ?_
  refine su ?_
  refine S_do kR (A0u Y bod153 Y Y Y Y Y (checkActR_x (x:=l[j]) hP hn) ⟨Le.refl _,kp,?_⟩)
  refine su ?_
  by_cases h3:A7a P n l[j]=0
  ·rw [h3]
   rw [if_neg (by simpa using h3)]at hq
   refine su ?_
   exact A0b ⟨j+1,u',oM,⟨Y,rg,cntL⟩,Le.refl _,Y,hjt,hq⟩
  ·rw [if_pos h3]at hq
   rw [show(A7a P n l[j] != 0)=true from by simpa using h3]
   refine su ?_
   refine A0f tab [] (by exact .tmp rfl .nil) (Back.here cntL) ?_
   exact⟨by rw [←hq];rfl,Y⟩
 ·replace h:=fa h
  have hjn:j=l.length:=oM
  rw [hjn,List.drop_length]at hq
  refine su ?_
  refine A0f tab [] (by exact .tmp rfl .nil) (Back.here cntL) ?_
  exact⟨by rw [←hq];rfl,Y⟩
end
end Go.Proofs.YtclejblcnfaeaaaGreatDoor
end
section
namespace Go.Pal
open Go Go.Conc View
section
variable{P:Program}{mn:Who}{rd:Option Nat}{n:Nat}{Q:Exit→St→View→Prop}{ds:List Deferred}{ρ:Regs}{β:A0e}{v:View}
 {ops:Array Oper}{i:Nat}{S:List Rec}{done done':List Nat}{ms:List Nat}{v0:View}{todo todo':List Nat}
theorem xop_moreC{ρτ ρσ:Regs}{βτ βσ βr βk:A0e}{d:Nat}{M:Value→A0e→Prop}{K:St→View→Prop}(hr:∀t x,ρτ.get t=some x→ρσ.get t=some x)(hβ:∀p,cnt p βσ=cnt p (βr++βτ))(hdst:∀o,ops[i]?=some o→o.dst=some d)(hdn:Nat.blt d n=true)
  (h:∀u,v.Le u→XOp P mn rd n ops i (fun _ _ _=>False) (fun σ' u'=>u'=u∧∃x βi,M x βi∧σ'=⟨ds,(d,x)::ρτ,βi++βk⟩) ⟨ds,ρτ,βτ⟩ u)
  (hK:∀x βi,M x βi→K ⟨ds,(d,x)::ρσ,(βi++βk)++βr⟩ v):XOp P mn rd n ops i (fun _ _ _=>False) K ⟨ds,ρσ,βσ⟩ v:=fun a hf hb=>by
 obtain⟨hb1,he⟩:=A3v (A2e (l:=βσ) (m:=βτ++βr) fun p=>by rw [hβ p,A0n,A0n];omega) hb
 obtain⟨hb2,hb3⟩:=bok_append.1 hb1
 obtain⟨o,ho,hw,hd,hs⟩:=h _ (A0g v (A0c βr)) a ⟨hf.size,hf.defers,fun t x e=>hf.get t x (hr t x e)⟩ hb3
 have hod:=hdst o ho
 have hdn':A2p n (some d)=true:=hdn
 refine⟨o,ho,hw,hd,?_⟩
 have key:∀{x0 w},KP n (fun σ' u'=>u'=v.union (A0c βr)∧∃x βi,M x βi∧σ'=⟨ds,(d,x)::ρτ,βi++βk⟩) (a.put o.dst x0) w→KP n K (a.put o.dst x0) w:=by
  rintro x0 w ⟨σ',u',⟨rfl,x,βi,hM,rfl⟩,hf',hb',hw'⟩
  have hg:∀(y:Value) (l:Regs),Regs.get ((d,y)::l) d=some y:=fun y l=>by simp [Regs.get]
  have hx:x0=x:=by
   have h1:=hf'.get d x (hg _ _)
   have h2:=(A0x (x:=x0) hf hdn').get d x0 (hg _ _)
   rw [hod]at h1
   exact Option.some.inj (h2.symm.trans h1)
  subst hx
  have hb4:Bok ((βi++βk)++βr) v:=bok_append.2 ⟨hb2,hb'⟩
  refine⟨⟨ds,(d,x0)::ρσ,(βi++βk)++βr⟩,v,hK _ _ hM,?_,hb4,?_⟩
  ·have:=A0x (x:=x0) hf hdn'
   rw [hod]
   exact⟨this.size,this.defers,this.get⟩
  ·show(v.union (A0c ((βi++βk)++βr))).Le w
   rw [A0v hb4]
   exact hw'
 show SemX P _ _ _ (v.union (A0c βσ))
 rw [←he,A0v hb1]
 refine A1y _ (fun nx w hK=>?_) (fun x w hE=>hE.elim fun _ h=>h.elim fun _ h=>h.1.elim) hs
 cases nx with
 | value x=>exact key hK
 | skip=>exact key hK
 | defer d'=>
  obtain⟨_,σ',u',⟨rfl,x,βi,hM,rfl⟩,hf',_⟩:=hK
  exfalso
  have h1:=hf'.defers
  have h2:=hf.defers
  simp only [Act.put]at h1
  rw [hod]at h1
  simp only at h1 h2
  rw [h2]at h1
  exact absurd (congrArg List.length h1) sM
 | enter f args=>exact CallsX.mono hK fun e w' hR=>⟨w',Le.refl _,by
   cases e with
   | ret x=>exact key hR
   | pan ch=>obtain⟨_,_,h,_⟩:=hR;exact h.elim⟩
 | round l f tmps assign body=>exact⟨hK.1,RoundX.mono hK.2 fun e w' hR=>⟨w',Le.refl _,by
   cases e with
   | ret x=>exact key hR
   | pan ch=>obtain⟨_,_,h,_⟩:=hR;exact h.elim⟩⟩
 | _=>exact hK.elim
variable{dst:Nat→Nat}{c:NetC}{W:List Nat}{ρ0:Regs}{β0:A0e}{j:Nat}{q:Value×A0e}
theorem netR_vals{c c':NetC}:∀{W:List Nat},(∀i∈W,(c i).map (·.1)=(c' i).map (·.1))→netR dst c ρ0 W=netR dst c' ρ0 W
 | [],_=>rfl
 | i::W,h=>by
  have h1:=h i (List.mem_cons_self ..)
  have ih:=netR_vals (c:=c) (c':=c') (W:=W) fun k hk=>h k (List.mem_cons_of_mem _ hk)
  simp only [netR]
  cases hc:c i<;>cases hc':c' i<;>rw [hc,hc']at h1<;>simp_all
theorem netβ_gone{c:NetC}:∀{W:List Nat},(∀i∈W,∀q,c i=some q→q.2=[])→netβ c β0 W=β0
 | [],_=>rfl
 | i::W,h=>by
  have ih:=netβ_gone (c:=c) (W:=W) fun k hk=>h k (List.mem_cons_of_mem _ hk)
  simp only [netβ]
  cases hc:c i with
  | none=>exact ih
  | some q=>simp only [h i (List.mem_cons_self ..) q hc,List.nil_append];exact ih
theorem inb_left{b:Nat}{cc:Array Value}{t:TypeId}{l r:A0e}(h:InB b cc t l):InB b cc t (l++r):=by
 induction h with
 | head=>exact .head
 | tail _ ih=>exact .tail ih
def netE(c:NetC)(l:List Nat):NetC:=fun i=>if i∈l then(c i).map fun q=>(q.1,[])else c i
theorem S_tree{Sp:Nat→Value→A0e→Prop}{pre:Nat→List Nat}(W:List Nat)(dst:Nat→Nat)(hW:W.Nodup)(hd:∀i∈W,∀k∈W,dst i=dst k→i=k)(h0:∀i∈W,ρ0.get (dst i)=none)(hpre:∀j∈W,pre j=W.filter fun i=>(pre j).contains i)
    (huq:∀j∈W,∀k∈W,∀i∈pre j,i∈pre k→j=k)
    (hop:∀i∈W,(∀o,ops[i]?=some o→o.dst=some (dst i))∧Nat.blt (dst i) n=true)(hS:KeepA S β0)(hB:netB ops ms W pre done W.length []=true)
    (hstep:∀j∈W,∀c:Nat→Value×A0e,(∀i∈pre j,Sp i (c i).1 (c i).2)→∀u,v.Le u→XOp P mn (some 4294967295) n ops j (fun _ _ _=>False) (fun σ' u'=>u'=u∧∃x βi,Sp j x βi∧σ'=⟨ds,(dst j,x)::netR dst (fun i=>some (c i)) ρ0 (pre j),βi++β0⟩) ⟨ds,netR dst (fun i=>some (c i)) ρ0 (pre j),netβ (fun i=>some (c i)) β0 (pre j)⟩ u)
    (hfin:∀c:Nat→Value×A0e,(∀i∈W,(W.all fun j=>!(pre j).contains i)=true→Sp i (c i).1 (c i).2)→(∀i∈W,(W.all fun j=>!(pre j).contains i)=false→(c i).2=[])→XS P mn n ops ms v0 Q todo S (W++done) ⟨ds,netR dst (fun i=>some (c i)) ρ0 W,netβ (fun i=>some (c i)) β0 W⟩ v) :
    XS P mn n ops ms v0 Q (W++todo) S done ⟨ds,ρ0,β0⟩ v:=by
  let tot:NetC→Nat→Value×A0e:=fun c i=>(c i).getD default
  have go:∀(k:Nat) (c:NetC),(∀i∈W,∀q,c i=some q→(∀k∈pre i,(c k).isSome=true)∧((∀j∈W,i∈pre j→c j=none)→Sp i q.1 q.2)∧((∃j∈W,i∈pre j∧(c j).isSome=true)→q.2=[]))→netB ops ms W pre done k (netS W c)=true→XS P mn n ops ms v0 Q (List.replicate k 0++todo) S (netS W c++done) ⟨ds,netR dst c ρ0 W,netβ c β0 W⟩ v:=by
    intro k
    induction k with
    | zero=>
      intro c hc hb
      have e:netS W c=W:=by simpa [netB]using hb
      have hsm:∀i∈W,(c i).isSome=true:=fun i hi=>(mem_netS.1 (e.symm ▸ hi:i∈netS W c)).2
      have hs:∀i∈W,c i=some (tot c i):=fun i hi=>by
        have:=hsm i hi
        cases hci:c i with
        | none=>rw [hci]at this;cases this
        | some q=>simp [tot,hci]
      have:=hfin (tot c) (fun i hi ha=>(hc i hi _ (hs i hi)).2.1 fun j hj hij=>by
          have:=List.all_eq_true.1 ha j hj
          simp [hij]at this) (fun i hi ha=>(hc i hi _ (hs i hi)).2.2 (by
          rw [List.all_eq_false]at ha
          obtain⟨j,hj,h⟩:=ha
          exact⟨j,hj,by simpa using h,hsm j hj⟩))
      rw [e,A9s hs,A9r hs]
      exact this
    | succ k ih=>
      intro c hc hb
      simp only [netB,Bool.and_eq_true]at hb
      obtain⟨hb1,hb2⟩:=hb
      have hall:∀j∈Region.ready .any ops (mkL ops (netS W c++done)),j∈W∧c j=none∧ms.contains j=true∧(∀i∈pre j,i∈netS W c)∧netB ops ms W pre done k (W.filter fun i=>Nat.beq i j||(netS W c).contains i)=true:=fun j hj=>by
        have h:=List.all_eq_true.1 hb2 j hj
        simp only [Bool.and_eq_true]at h
        obtain⟨⟨⟨⟨h1,h2⟩,h3⟩,h4⟩,h5⟩:=h
        have hjW:j∈W:=by simpa using h1
        have hjn:j∉netS W c:=by simpa using h2
        refine⟨hjW,?_,h3,fun i hi=>by simpa using List.all_eq_true.1 h4 i hi,h5⟩
        cases hcj:c j with
        | none=>rfl
        | some q=>exact absurd (mem_netS.2 ⟨hjW,by rw [hcj];rfl⟩) hjn
      refine S_many (Region.ready .any ops (mkL ops (netS W c++done))) ?_ (allL_of fun j hj=>?_)
      · simp only [manyB,Bool.and_eq_true]
        exact⟨⟨hb1,List.all_eq_true.2 fun j hj=>by simpa using hj⟩,List.all_eq_true.2 fun j hj=>(hall j hj).2.2.1⟩
      · obtain⟨hjW,hcj,_,hp,hn⟩:=hall j hj
        have hsub:∀i∈pre j,i∈W:=fun i hi=>(mem_netS.1 (hp i hi)).1
        have hsome:∀i∈pre j,c i=some (tot c i):=fun i hi=>by
          have h2:=(mem_netS.1 (hp i hi)).2
          cases hci:c i with
          | none=>rw [hci]at h2;cases h2
          | some q=>simp [tot,hci]
        have hpn:(pre j).Nodup:=by rw [hpre j hjW];exact hW.filter _
        have hjp:j∉pre j:=fun h=>by have:=hsome j h;rw [hcj]at this;cases this
        have hstep':=hstep j hjW (tot c) fun i hi=>(hc i (hsub i hi) _ (hsome i hi)).2.1 fun k hk hik=>by
          rw [huq k hk j hjW i hik hi];exact hcj
        rw [←A9s hsome,←A9r hsome]at hstep'
        refine xop_moreC (d:=dst j) (M:=Sp j) (βk:=β0) (ρτ:=netR dst c ρ0 (pre j)) (βτ:=netβ c β0 (pre j)) (βr:=netβ c [] (W.filter fun i=>!(pre j).contains i))
          (netR_get hW hd (pre j) (fun i hi=>mem_netS.1 (hp i hi)) hpn h0) (fun p=>by
            have h:=netβ_part (c:=c) (β0:=β0) (fun i=>(pre j).contains i) W p
            rw [←hpre j hjW]at h
            exact h) (hop j hjW).1 (hop j hjW).2 hstep' ?_
        intro x βi hM
        have hej:netE c (pre j) j=none:=by unfold netE;rw [if_neg hjp];exact hcj
        have hcnt:∀p,cnt p (netβ (netU (netE c (pre j)) j (x,βi)) β0 W)=cnt p ((βi++β0)++netβ c [] (W.filter fun i=>!(pre j).contains i)):=fun p=>by
          rw [netβ_put hW hjW hej p,A0n,netβ_part (c:=netE c (pre j)) (β0:=β0) (fun i=>(pre j).contains i) W p,A0n,A0n,A0n]
          rw [←hpre j hjW,netβ_gone (c:=netE c (pre j)) (W:=pre j) (fun i hi q hq=>by
            unfold netE at hq
            rw [if_pos hi]at hq
            rw [Option.map_eq_some_iff]at hq
            obtain⟨a,_,rfl⟩:=hq
            rfl)]
          rw [A9r (c:=netE c (pre j)) (c':=c) (W:=W.filter fun i=>!(pre j).contains i) (fun i hi=>by
            have h2:=(List.mem_filter.1 hi).2
            unfold netE
            rw [if_neg (by simpa using h2)])]
          show cnt p βi+(_+cnt p β0)=_
          omega
        refine⟨Le.refl _,?_,?_⟩
        · have hk:∀{βr:A0e} {S:List Rec},KeepA S β0→KeepS ops j S ((βi++β0)++βr):=by
            intro βr S
            induction S with
            | nil=>intro _;trivial
            | cons s S ihS=>
              obtain⟨_,_,_,_⟩:=s
              intro h
              exact⟨.inr (by rw [List.append_assoc];exact InB.app (inb_left h.1)),ihS h.2⟩
          exact hk hS
        have e:netS W (netU (netE c (pre j)) j (x,βi))=W.filter fun i=>Nat.beq i j||(netS W c).contains i:=by
          unfold netS
          refine List.filter_congr fun i hi=>?_
          by_cases hij:i=j
          · subst hij;rw [A8l,Nat.beq_refl];rfl
          · rw [A3a hij,show Nat.beq i j=false from by cases hb:Nat.beq i j with|false=>rfl|true=>exact absurd (Nat.eq_of_beq_eq_true hb) hij]
            rw [Bool.false_or]
            unfold netE
            by_cases hip:i∈pre j
            · rw [if_pos hip,hsome i hip]
              simp [hi,hsome i hip]
            · rw [if_neg hip]
              cases hci:c i with
              | none=>simp [hci]
              | some q=>simp [hci,hi]
        refine XS_by (ih (netU (netE c (pre j)) j (x,βi)) (fun i hi q hq=>?_) (by rw [e];exact hn)) (mkL_mem fun i=>?_) Y (fun t y hy=>?_) (fun p=>Nat.le_of_eq (hcnt p))
        · have hkeep:∀k,(netU (netE c (pre j)) j (x,βi) k).isSome=(decide (k=j)||(c k).isSome):=fun k=>by
            by_cases hkj:k=j
            · subst hkj;rw [A8l];simp
            · rw [A3a hkj]
              unfold netE
              by_cases hkp:k∈pre j
              · rw [if_pos hkp];simp [hkj]
              · rw [if_neg hkp];simp [hkj]
          by_cases hij:i=j
          · subst hij
            rw [A8l]at hq
            cases hq
            refine⟨fun k hk=>?_,fun _=>hM,fun⟨k,hk,hik,hks⟩=>?_⟩
            · rw [hkeep,hsome k hk];simp
            · exfalso
              rw [hkeep]at hks
              by_cases hki:k=i
              · subst hki;exact hjp hik
              · cases hck:c k with
                | none=>rw [hck]at hks;simp [hki]at hks
                | some qk=>
                  have:=(hc k hk qk hck).1 i hik
                  rw [hcj]at this
                  cases this
          · rw [A3a hij]at hq
            by_cases hip:i∈pre j
            · have hq':=hq
              unfold netE at hq'
              rw [if_pos hip,hsome i hip]at hq'
              cases hq'
              refine⟨fun k hk=>?_,fun h=>?_,fun _=>rfl⟩
              · rw [hkeep,(hc i hi _ (hsome i hip)).1 k hk];simp
              · have:=h j hjW hip
                rw [A8l]at this
                cases this
            · have hq':=hq
              unfold netE at hq'
              rw [if_neg hip]at hq'
              obtain⟨h1,h2,h3⟩:=hc i hi q hq'
              refine⟨fun k hk=>?_,fun h=>h2 fun k hk hik=>?_,fun⟨k,hk,hik,hks⟩=>h3 ⟨k,hk,hik,?_⟩⟩
              · rw [hkeep,h1 k hk];simp
              · have hh:=h k hk hik
                have:=hkeep k
                rw [hh]at this
                cases hck:c k with
                | none=>rfl
                | some qk=>rw [hck]at this;simp at this
              · rw [hkeep]at hks
                by_cases hkj:k=j
                · subst hkj;exact absurd hik hip
                · simpa [hkj]using hks
        · rw [e,List.mem_append,List.mem_cons,List.mem_append,List.mem_filter]
          constructor
          · rintro(⟨h1,h2⟩|h)
            · rw [Bool.or_eq_true]at h2
              rcases h2 with h2|h2
              · exact .inl (Nat.eq_of_beq_eq_true h2)
              · exact .inr (.inl (by simpa using h2))
            · exact .inr (.inr h)
          · rintro(rfl|h|h)
            · exact .inl ⟨hjW,by rw [Nat.beq_refl];rfl⟩
            · exact .inl ⟨(mem_netS.1 h).1,by rw [Bool.or_eq_true];exact .inr (by simpa using h)⟩
            · exact .inr h
        · have hv:netR dst (netU (netE c (pre j)) j (x,βi)) ρ0 W=netR dst (netU c j (x,βi)) ρ0 W:=netR_vals fun k _=>by
            by_cases hkj:k=j
            · subst hkj;rw [A8l,A8l]
            · rw [A3a hkj,A3a hkj]
              unfold netE
              by_cases hkp:k∈pre j
              · rw [if_pos hkp,Option.map_map];rfl
              · rw [if_neg hkp]
          rw [hv]at hy
          exact netR_put hW hjW hcj (fun i hi=>hd i hi j hjW) t y hy
  have hz:∀V:List Nat,netR dst (fun _=>none) ρ0 V=ρ0∧netβ (fun _=>none) β0 V=β0∧netS V (fun _=>none)=[]:=fun V=>by
    induction V with
    | nil=>exact⟨rfl,rfl,rfl⟩
    | cons i V ih=>exact⟨ih.1,ih.2.1,ih.2.2⟩
  obtain⟨z1,z2,z3⟩:=hz W
  have h1:=go W.length (fun _=>none) (fun _ _ _ h=>by cases h) (by rw [z3];exact hB)
  rw [z1,z2,z3]at h1
  exact XS_by h1 Y sM (fun _ _ h=>h) (fun _=>Nat.le_refl _)
end
end Go.Pal
end
