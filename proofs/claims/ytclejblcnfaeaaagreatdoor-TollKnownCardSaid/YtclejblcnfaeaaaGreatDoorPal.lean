/- Part 12. -/
import Derived.Test.YtclejblcnfaeaaaGreatDoorPak
set_option linter.all false
section
namespace Go.Proofs.YtclejblcnfaeaaaGreatDoor
open Go Go.Pal Go.Pal.To Go.Conc View
open Go.Proofs.Tryz
set_option maxHeartbeats 4000000
set_option maxRecDepth 20000
theorem gn{p q:Prop}(h:q)(k:Hold q→p:=by(intro h;(repeat (first|(with_reducible apply A3i)|(with_reducible apply B0b)|(with_reducible apply F_inBlock)|(with_reducible apply F_scope)|(with_reducible apply F_inScope)|(with_reducible apply B2p)|(with_reducible apply F_label)|(with_reducible apply F_nil)|((with_reducible apply F_mv tab);(focus (assumption));(focus (assumption));(focus (exact Y));(focus (exact Y));(focus (exact Y));(focus (exact Y));(focus (exact Y));(focus (exact Y)))|((with_reducible apply F_skipop);(focus (exact Y));(focus (exact Y));(focus (exact Y)))|((with_reducible apply A7x);(focus (exact Y)))|((with_reducible apply B0a);(focus (exact Y)))|((with_reducible apply F_exit);(focus (exact Y)))));exact h.h)):p:=k ⟨h⟩
theorem gr{p q:Prop}(h:q)(k:Hold q→p:=by(intro h;(first|((with_reducible apply A0r (l:=[0]));(focus (exact Y)))|((with_reducible apply A0r (l:=[0,1]));(focus (exact Y)))|((with_reducible apply A0r (l:=[0,1,2]));(focus (exact Y)))|((with_reducible apply A0r (l:=[0,1,2,3]));(focus (exact Y)))|((with_reducible apply A0r (l:=[0,1,2,3,4]));(focus (exact Y)))|((with_reducible apply A0r (l:=[0,1,2,3,4,5]));(focus (exact Y)))|((with_reducible apply A0r (l:=[0,1,2,3,4,5,6]));(focus (exact Y)))|((with_reducible apply A0r (l:=[0,1,2,3,4,5,6,7]));(focus (exact Y)))|((with_reducible apply A0r (l:=[0,1,2,3,4,5,6,7,8]));(focus (exact Y)))|((with_reducible apply A0r (l:=[0,1,2,3,4,5,6,7,8,9]));(focus (exact Y)))|((with_reducible apply A0r (l:=[0,1,2,3,4,5,6,7,8,9,10]));(focus (exact Y)))|((with_reducible apply A0r (l:=[0,1,2,3,4,5,6,7,8,9,10,11]));(focus (exact Y)))|((with_reducible apply A0r (l:=[0,1,2,3,4,5,6,7,8,9,10,11,12]));(focus (exact Y)))|((with_reducible apply A0r (l:=[0,1,2,3,4,5,6,7,8,9,10,11,12,13]));(focus (exact Y)))|((with_reducible apply A0r (l:=[0,1,2,3,4,5,6,7,8,9,10,11,12,13,14]));(focus (exact Y)))|((with_reducible apply A0r (l:=[0,1,2,3,4,5,6,7,8,9,10,11,12,13,14,15]));(focus (exact Y)))|((with_reducible apply A0r (l:=[0,1,2,3,4,5,6,7,8,9,10,11,12,13,14,15,16]));(focus (exact Y)))|((with_reducible apply A0r (l:=[0,1,2,3,4,5,6,7,8,9,10,11,12,13,14,15,16,17]));(focus (exact Y)))|((with_reducible apply A0r (l:=[0,1,2,3,4,5,6,7,8,9,10,11,12,13,14,15,16,17,18]));(focus (exact Y)))|((with_reducible apply A0r (l:=[0,1,2,3,4,5,6,7,8,9,10,11,12,13,14,15,16,17,18,19]));(focus (exact Y)))|((with_reducible apply A0r (l:=[0,1,2,3,4,5,6,7,8,9,10,11,12,13,14,15,16,17,18,19,20]));(focus (exact Y))));exact h.h)):p:=k ⟨h⟩
theorem A_eqlP{mn:Who}{rd:Option Nat}{n:Nat}{Q:Exit→St→View→Prop}{ds:List Deferred}{ρ:Regs}{β:A0e}{v:View}{K:St→View→Prop}
 {ops:Array Oper}{i:Nat}{d:Nat}{ty:TypeId}{pos:String}{af:Array Edge}{gu:Option (Nat×Bool)}{y z:Operand}{t2:TypeId}{a b a' b':Int}(ho:ops[i]?=some ⟨some d,.binOp .eql 249 y z t2,ty,pos,af,gu⟩)(hw:A0p ops gu ρ=some true)(hn:Nat.blt d n=true)(hy:ρ.val y=some (.agg (List.toArray [intV a,intV b])))(hz:ρ.val z=some (.agg (List.toArray [intV a',intV b'])))
  (h:K ⟨ds,(d,.bool (decide (a=a'∧b=b')))::ρ,β⟩ v):XOp prog mn rd n ops i Q K ⟨ds,ρ,β⟩ v:=by
 refine A1w ho (A0j hw) (.inr Y) hn fun ev hev hbk=>?_
 have hg:prog.eqGuardType prog.depth 249=false:=by kernel_rfl
 simp only [execOp,A0a,hev _ _ hy,hev _ _ hz,eqGuard,binOp,A1s,hg]
 simp only [Bool.not_true,Bool.false_eq_true,if_false,A0a]
 rw [A1s,A1s,hg]
 simp only [Bool.not_true,Bool.not_false,Bool.false_eq_true,if_false,if_true,A0h,A0a]
 refine place_eq ?_
 exact⟨β,v,⟨hbk,Le.refl _⟩,h⟩
abbrev capA(bd by_ bm bf:Nat):Array Value:=List.toArray [.pointer (some ⟨bd,0,none⟩),.pointer (some ⟨by_,0,none⟩),.pointer (some ⟨bm,0,none⟩),.pointer (some ⟨bf,0,none⟩)]
structure Cap(v:View)(bd by_ bm bf l:Nat)(a b:List MA)(g:List Int):Prop where
 d:∃p f dd aA cA aB cB,v bd=some (p,.cells (List.toArray [.pointer (some ⟨dd,0,none⟩),.slice aA a.length cA,.slice aB b.length cB]) 179 f)∧ActsAt v aA a∧ActsAt v aB b
 y:∃p f,v by_=some (p,.cells (List.toArray [.func (.yield l) #[] #[]]) 246 f)
 m:∃p f aG cG,v bm=some (p,.cells (List.toArray [.slice aG g.length cG]) 22 f)∧RowAt v aG (g.map intV)
 f:∃p f,v bf=some (p,.cells (List.toArray [.func (.func 143) #[] (capA bd by_ bm bf)]) 247 f)
theorem Cap.le{u v:View}{bd by_ bm bf l:Nat}{a b:List MA}{g:List Int}(h:Cap u bd by_ bm bf l a b g)(hl:u.Le v):Cap v bd by_ bm bf l a b g:=by
 obtain⟨⟨p1,f1,dd,aA,cA,aB,cB,h1,h2,h3⟩,⟨p4,f4,h4⟩,⟨p5,f5,aG,cG,h5,h6⟩,⟨p7,f7,h7⟩⟩:=h
 exact⟨⟨p1,f1,dd,aA,cA,aB,cB,hl _ _ h1,h2.le hl,h3.le hl⟩,⟨p4,f4,hl _ _ h4⟩,⟨p5,f5,aG,cG,hl _ _ h5,h6.le hl⟩,⟨p7,f7,hl _ _ h7⟩⟩
abbrev wyC(am:Option Addr)(cm:Nat)(ab:Option Addr)(cb:Nat)(w:Wy):List Value:=[.slice am w.marks.length cm,.slice ab w.book.length cb,intV (ow w.dusk 0),intV (ow w.dusk 1),intV (ow w.dusk 2)]
def WyOwn(β:A0e)(y:Value)(w:Wy):Prop:=∃β1 β2 am cm ab cb,β=β1++β2∧y = .agg (wyC am cm ab cb w).toArray∧OwnS 3 1 β1 am w.marks.length cm (w.marks.map intV)∧OwnS 40 4 β2 ab w.book.length cb (w.book.map MA.cells).flatten
def lpD(lp:Loop):Loop:={lp with state:=.done,pending:=some .ret }
def aft(l:Nat)(lp:Loop)(q:Bool)(u:View):View:=if q then u else u.set l true (.loop (lpD lp))
theorem set_le{u v:View}{l:Nat}{p:Bool}{o:Obj}(h:u.Le v):(u.set l p o).Le (v.set l p o):=fun b x hx=>by
 unfold View.set at hx⊢
 split
 ·rename_i e;rw [if_pos e]at hx;exact hx
 ·rename_i e;rw [if_neg e]at hx;exact h _ _ hx
theorem aft_le{l:Nat}{lp:Loop}{q:Bool}{u v:View}(h:u.Le v):(aft l lp q u).Le (aft l lp q v):=by
 cases q with
 | true=>exact h
 | false=>exact set_le h
def Takes(R:List Wy→View→Goroutine→Prop)(V0:View)(l:Nat)(lp:Loop)(t:Bool):Prop:=
 ∀ (w:Wy) (s:List Wy) (u:View) (β:A0e) (y:Value) (cf:Frame) (fs:List Frame),V0.Le u→Bok β u→WyOwn β y w→cf.mode = .run→R s (aft l lp t u) (G (cf.finish (.bool t)) fs)→
  R (w::s) (u.union (A0c β)) (G (Frame.round l lp.fn ((lp.params.zip #[y]).foldl (fun tmps (t,a)=>tmps.setIfInBounds t a) lp.tmps) lp.assign lp.body .normal) (cf::fs))
theorem stepM_drop{a b:List MA}{i k m:Nat}(hm:m<3){x:MA}{a' b':List MA}(h:A4g (a.drop i) (b.drop k) m=some (x,a',b')):a'=a.drop (nxI i m)∧b'=b.drop (nxK k m)∧(x∈a∨x∈b)∧(m≠2→i<a.length)∧(m≠1→k<b.length):=by
 have hA:∀{y:MA} {r:List MA} {l:List MA} {i:Nat},l.drop i=y::r→r=l.drop (i+1)∧y∈l∧i<l.length:=fun {y r l i} e=>by
  have hlt:i<l.length:=by
   apply Classical.byContradiction
   intro hn
   rw [List.drop_eq_nil_of_le oM]at e
   cases e
  rw [List.drop_eq_getElem_cons hlt]at e
  injection e with e1 e2
  exact⟨e2.symm,e1 ▸ List.getElem_mem hlt,hlt⟩
 unfold A4g at h
 rcases (by omega:m=0∨m=1∨m=2)with rfl|rfl|rfl
 ·simp only at h
  split at h
  ·rename_i x1 a1 y1 b1 e1 e2
   split at h
   ·simp only [Option.some.injEq,Prod.mk.injEq]at h
    obtain⟨rfl,rfl,rfl⟩:=h
    obtain⟨r1,r2,r3⟩:=hA e1
    obtain⟨q1,q2,q3⟩:=hA e2
    exact⟨r1,q1,.inl r2,fun _=>r3,fun _=>q3⟩
   ·cases h
  ·cases h
 ·simp only at h
  split at h
  ·rename_i x1 a1 e1
   simp only [Option.some.injEq,Prod.mk.injEq]at h
   obtain⟨rfl,rfl,rfl⟩:=h
   obtain⟨r1,r2,r3⟩:=hA e1
   exact⟨r1,Y,.inl r2,fun _=>r3,fun h=>absurd Y h⟩
  ·cases h
 ·simp only at h
  split at h
  ·rename_i x1 a1 e1
   simp only [Option.some.injEq,Prod.mk.injEq]at h
   obtain⟨rfl,rfl,rfl⟩:=h
   obtain⟨r1,r2,r3⟩:=hA e1
   exact⟨Y,r1,.inr r2,fun h=>absurd Y h,fun _=>r3⟩
  ·cases h
theorem flat4_len(l:List MA):(l.map MA.cells).flatten.length=l.length*4:=by
 induction l with
 | nil=>rfl
 | cons x l ih=>simp only [List.map_cons,List.flatten_cons,List.length_append,ih,List.length_cons];show 4+_=_;omega
abbrev zeroW:Value:=.agg #[.slice none 0 0,.slice none 0 0,.int .i64 0,.int .i64 0,.int .i64 0]
def sp10(w:Wy)(m:Nat)(x:MA):Nat→List (Value×A0e)→Value→A0e→Prop
 | 6,_,y,β=>∃b c,y = .slice (some ⟨b,0,none⟩) 1 1∧β=[(b,c,3)]∧OwnS 3 1 [(b,c,3)] (some ⟨b,0,none⟩) 1 1 [natV m]
 | 7,_,y,β=>∃b c cap,y = .slice (some ⟨b,0,none⟩) (w.marks.length+1) cap∧β=[(b,c,3)]∧OwnS 3 1 [(b,c,3)] (some ⟨b,0,none⟩) (w.marks.length+1) cap (w.marks.map intV++[natV m])
 | 14,_,y,β=>∃b c,y = .slice (some ⟨b,0,none⟩) 1 1∧β=[(b,c,40)]∧OwnS 40 4 [(b,c,40)] (some ⟨b,0,none⟩) 1 1 x.cells
 | 15,_,y,β=>∃b c cap,y = .slice (some ⟨b,0,none⟩) (w.book.length+1) cap∧β=[(b,c,40)]∧OwnS 40 4 [(b,c,40)] (some ⟨b,0,none⟩) (w.book.length+1) cap ((w.book.map MA.cells).flatten++x.cells)
 | 18,[p,q],y,β=>y = .agg (List.toArray [p.1,q.1,intV (ow w.dusk 0),intV (ow w.dusk 1),intV (ow w.dusk 2)])∧β=[]
 | 18,_,_,_=>False
 | _,_,y,β=>∃b,y = .pointer (some ⟨b,0,none⟩)∧β=[(b,zeroW.cells,175)]
def pre10:Nat→List Nat|7=>[6]|15=>[14]|18=>[7,15]|_=>[]
def dst10(i:Nat):Nat:=bif Nat.beq i 19 then 15 else i+61
def A9o(g:List Int)(a b:List MA)(w:Wy):Nat→List Wy
 | 0=>A3d g a b w 0++A3d g a b w 1++A3d g a b w 2
 | 1=>A3d g a b w 1++A3d g a b w 2
 | 2=>A3d g a b w 2
 | _=>[]
theorem restG_eq{g:List Int}{a b:List MA}{w:Wy}{m:Nat}(h:m<3):A9o g a b w m=A3d g a b w m++A9o g a b w (m+1):=by
 rcases (by omega:m=0∨m=1∨m=2)with rfl|rfl|rfl<;>simp [A9o]
def FitW(H:Nat)(l:List MA):Prop:=∀x∈l,(x.k=0∨x.k=1∨x.k=2)∧0≤x.h∧x.h<H
section
variable{mn:Who}{R:List Wy→View→Goroutine→Prop}[hR:∀s,Abs prog mn (R s)]{V0:View}{l:Nat}{lp:Loop}{t:Bool}{bd by_ bm bf:Nat}{a b:List MA}{g:List Int}{H:Nat}
abbrev Found(R:List Wy→View→Goroutine→Prop)(l:Nat)(lp:Loop)(t:Bool)(wl s:List Wy)(u:View)(cf:Frame)(fs:List Frame):Prop:=R (endS t wl s) (aft l lp (endB t wl) u) (G (cf.finish (.bool (endB t wl))) fs)
include hR in
theorem from_x(hcap:Cap V0 bd by_ bm bf l a b g)(hl0:V0 l=some (true,.loop lp))(hsz:lp.params.size=1)(hT:Takes R V0 l lp t)(hla:a.length+b.length<2^20)(hfa:FitW H a)(hfb:FitW H b)(hH:H≤3) :
  ∀ (n i k:Nat) (w:Wy) (s:List Wy) (u:View) (β:A0e) (y:Value) (cf:Frame) (fs:List Frame),i≤a.length→k≤b.length→(a.drop i).length+(b.drop k).length≤n→w.marks.length=w.book.length→w.marks.length+n≤2^20→w.dusk.length=H→
   V0.Le u→Bok β u→WyOwn β y w→cf.mode = .run→Found R l lp t (A3e g (a.drop i) (b.drop k) w) s u cf fs→
   R (A3e g (a.drop i) (b.drop k) w++s) (u.union (A0c β)) (G (Frame.enter prog 143 (List.toArray ([y,plV i k]++(capA bd by_ bm bf).toList)) .normal) (cf::fs)):=by
 intro n
 induction n using Nat.strongRecOn with
 | ind n ih=>
 intro i k w s u β y cf fs hi hk hn hwl hwn hwd hu hβ hw hcf hend
 obtain⟨β1,β2,am,cm,ab,cb,rfl,rfl,ho1,ho2⟩:=hw
 refine A2y (ys:=[_,_,_,_,_,_]) func143 Y nB fun bb hbn hbr hbf=>?_
 have hbk:bb.kind≠.early:=by rw [hbn];simp
 refine gn ?_
 refine R_co hbk hβ ?_
 refine sw fun bx=>?_;refine sw fun bx=>?_
 refine A0y fun hβ2=>?_
 rename_i b6
 obtain⟨b7,rfl⟩:∃b:Nat,b=bx:=⟨bx,rfl⟩
 refine gn ?_
 refine R_co hbk hβ2 ?_
 obtain⟨p1,f1,dd,aA,cA,aB,cB,hd1,hda,hdb⟩:=(hcap.le hu).d
 refine su ?_
 refine A2b tab Y Y Y hd1 (A0l tab Y Y Y Y) ?_
 refine su ?_
 refine A2b tab Y Y Y hd1 (A0l tab Y Y Y Y) ?_
 refine su ?_
 refine Q_op fun ho=>A_eqlP ho Y Y Y Y ?_
 clear ho
 refine su ?_
 refine A0y fun hβ3=>?_
 clear hβ3
 by_cases he:i=a.length∧k=b.length
 ·rw [show decide ((i:Int)=(a.length:Int)∧(k:Int)=(b.length:Int))=true from decide_eq_true ⟨oM,oM⟩]
  have hwg:A3e g (a.drop i) (b.drop k) w=[w]:=by rw [he.1,he.2,List.drop_length,List.drop_length];rfl
  rw [hwg]at hend⊢
  obtain⟨p4,f4,h4⟩:=(hcap.le hu).y
  refine gn ?_
  refine gr ?_
  refine R_xo hbk hβ2 (A_ld tab Y Y Y Y h4 (A0l tab Y Y Y Y) ?_)
  refine A2n fun _=>?_
  refine R_xo hbk hβ2 (A_ldB tab Y Y Y Y ib (A1g tab (x:=wyC am cm ab cb w) Y Y Y ⟨Nat.le_refl _,Y⟩) ?_)
  refine A2n fun _=>?_
  refine R_yield (lp:=lp) (xs:=[_]) hbk Y Y Y Y Y (A0g _ _ _ _ (hu _ _ hl0)) (by rw [hsz];rfl) fun c hcm hfin=>?_
  obtain⟨hb1,hb2,heq⟩:=A4x (β1:=[(b7,(plV i k).cells,249),(b6,(Value.agg (wyC am cm ab cb w).toArray).cells,175)]) (β2:=β1++β2) hβ2 cntA
  rw [heq]
  refine hT w s _ _ _ c (cf::fs) (hu.trans (A0g _ _)) hb2 ⟨β1,β2,am,cm,ab,cb,Y,Y,ho1,ho2⟩ hcm (hfin _ _ ?_)
  refine gn ?_
  refine A6p hbr ?_
  refine A7e hbn (by rw [hbf];exact func143) Y Y ?_
  have hend2:R s (aft l lp t u) (G (cf.finish (.bool t)) fs):=by cases t<;>exact hend
  exact Abs.le hend2 (aft_le (A0g _ _))
 ·rw [show decide ((i:Int)=(a.length:Int)∧(k:Int)=(b.length:Int))=false from decide_eq_false oM]
  have hab:¬(a.drop i=[]∧b.drop k=[]):=fun e=>he ⟨by have:=List.drop_eq_nil_iff.1 e.1;omega,by have:=List.drop_eq_nil_iff.1 e.2;omega⟩
  refine gn ?_
  obtain⟨hb1,_,heq⟩:=A4x (β1:=[(b7,(plV i k).cells,249),(b6,(Value.agg (wyC am cm ab cb w).toArray).cells,175)]++(β1++β2)) (β2:=[]) hβ2 cntA
  rw [heq]
  have hu1:u.Le (u.union (A0c ([(b7,(plV i k).cells,249),(b6,(Value.agg (wyC am cm ab cb w).toArray).cells,175)]++(β1++β2)))):=A0g _ _
  have hv6:=A0q hb1 (b:=b6) (c:=(Value.agg (wyC am cm ab cb w).toArray).cells) (t:=175) ib
  have hv7:=A0q hb1 (b:=b7) (c:=(plV i k).cells) (t:=249) ib
  have hcm1:=ho1.cap
  have hcb1:=ho2.cap
  have hrm:RowAt _ _ _:=RowAt.own hb1 (by exact cntL) ho1
  have hrb:RowAt _ _ _:=RowAt.own hb1 (by exact cntL) ho2
  generalize u.union (A0c ([(b7,(plV i k).cells,249),(b6,(Value.agg (wyC am cm ab cb w).toArray).cells,175)]++(β1++β2)))=u1 at *
  refine R_co hbk (A4c _) ?_
  refine su ?_
  refine Q_op fun ho=>A3w tab ho Y Y Y Y Y Y Y Y Y (fun bL cL hL=>?_)
  clear ho
  refine su ?_
  refine A0y fun hβ4=>?_
  have hrL:=RowAt.own hβ4 (by exact cntL) hL
  have hu2:u1.Le (u1.union (A0c [(bL,cL,3)])):=A0g _ _
  generalize u1.union (A0c [(bL,cL,3)])=u2 at *
  clear hβ4 hb1 heq hβ2 hβ hL ho1 ho2
  have huu:=hu1.trans hu2
  have hv6:=hu2 _ _ hv6
  have hv7:=hu2 _ _ hv7
  have hrm:=hrm.le hu2
  have hrb:=hrb.le hu2
  have hC:=(hcap.le hu).le huu
  have hl2:u2 l=some (true,.loop lp):=huu _ _ (hu _ _ hl0)
  have hend2:Found R l lp t (A3e g (a.drop i) (b.drop k) w) s u2 cf fs:=Abs.le hend (aft_le huu)
  clear hend hd1 hda hdb
  refine gn ?_
  refine F_loop ?_
  rw [show A3e g (a.drop i) (b.drop k) w=A9o g (a.drop i) (b.drop k) w 0 from waysG_eq hab]at hend2⊢
  refine Mu.F_in [(32,.int .i64 ((0:Nat):Int)),(31,.int .i64 3),(30,.slice (some ⟨bL,0,none⟩) 3 3),(8,.bool false),(7,.pointer (some ⟨b7,0,none⟩)),(6,.pointer (some ⟨b6,0,none⟩)),(5,.pointer (some ⟨bf,0,none⟩)),(4,.pointer (some ⟨bm,0,none⟩)),(3,.pointer (some ⟨by_,0,none⟩)),(2,.pointer (some ⟨bd,0,none⟩))] ?_ rg
  refine F_iter (S:=Nat) (R':=fun m=>R (A9o g (a.drop i) (b.drop k) w m++s) u2) (ρ':=fun m=>[(32,.int .i64 (m:Int)),(31,.int .i64 3),(30,.slice (some ⟨bL,0,none⟩) 3 3),(8,.bool false),(7,.pointer (some ⟨b7,0,none⟩)),(6,.pointer (some ⟨b6,0,none⟩)),(5,.pointer (some ⟨bf,0,none⟩)),(4,.pointer (some ⟨bm,0,none⟩)),(3,.pointer (some ⟨by_,0,none⟩)),(2,.pointer (some ⟨bd,0,none⟩))])
   (fun m=>3-m) (fun m=>m≤3∧Found R l lp t (A9o g (a.drop i) (b.drop k) w m) s u2 cf fs) ?_ 0 ⟨oM,hend2⟩
  clear hend2
  rintro m ⟨hm,hend⟩ IH
  refine gn ?_
  refine gr ?_
  refine A0t tab hbk hbr Y Y Y Y Y ?_
  by_cases h3:m=3
  ·subst h3
   rw [show decide (((3:Nat):Int)<3)=false from by decide]
   refine gn ?_
   refine gr ?_
   refine gn ?_
   refine A6p hbr ?_
   refine A7e hbn (by rw [hbf];exact func143) Y Y ?_
   rw [show A9o g (a.drop i) (b.drop k) w 3=[]from rfl]at hend⊢
   cases t<;>exact hend
  have hm3:m<3:=oM
  rw [show decide ((m:Int)<3)=true from decide_eq_true oM]
  obtain⟨_,_,pL,cL',eL,fL,e1,hvL,hcL⟩:=row_cell hrL (j:=m) (x:=natV m) (by rcases (by omega:m=0∨m=1∨m=2)with rfl|rfl|rfl<;>rfl)
  cases e1
  rw [Nat.zero_add]at hcL
  have hnext:=IH (m+1) oM
  clear IH hrL
  refine gn ?_
  refine R_co0 hbk ?_
  refine su ?_
  refine A6d tab m Y Y Y Y Y Y Y oM ?_
  refine A2b tab Y Y Y hvL (A0l tab Y Y Y (by rw [Nat.mul_one,Nat.zero_add];exact hcL)) ?_
  refine su ?_
  refine A0y fun _=>?_
  rw [A1r]
  obtain⟨⟨p1,f1,dd,aA,cA,aB,cB,hd1,hda,hdb⟩,_,⟨p5,f5,aG,cG,hm1,hm2⟩,⟨p7,f7,hf7⟩⟩:=id hC
  refine gn ?_
  refine R_co0 hbk ?_
  refine su ?_
  refine A2b tab Y Y Y hv6 (A0l tab Y Y Y Y) ?_
  refine su ?_
  refine A0y fun _=>?_
  rw [A1r]
  refine gn ?_
  -- what goes on to the next mark,where nothing is found by this one
  have hskip:A3d g (a.drop i) (b.drop k) w m=[]→XG (R (A9o g (a.drop i) (b.drop k) w m++s) u2) f143.ntmps bb _ _ [] _:=fun h0=>by
   have e:A9o g (a.drop i) (b.drop k) w m=A9o g (a.drop i) (b.drop k) w (m+1):=by rw [restG_eq hm3,h0];rfl
   rw [e]at hend⊢
   exact hnext ⟨oM,hend⟩
  refine R_mid [(50,.bool (!mayG g w.marks.length m)),(11,.int .i64 (w.marks.length:Int)),(10,.int .i64 (m:Int)),(32,.int .i64 (m:Int)),(31,.int .i64 3),(30,.slice (some ⟨bL,0,none⟩) 3 3),(8,.bool false),(7,.pointer (some ⟨b7,0,none⟩)),(6,.pointer (some ⟨b6,0,none⟩)),(5,.pointer (some ⟨bf,0,none⟩)),(4,.pointer (some ⟨bm,0,none⟩)),(3,.pointer (some ⟨by_,0,none⟩)),(2,.pointer (some ⟨bd,0,none⟩))] hbk ?_ ?_
  ·refine su ?_
   refine A2b tab Y Y Y hm1 (A0l tab Y Y Y Y) ?_
   refine su ?_
   by_cases hgl:w.marks.length<g.length
   ·obtain⟨bg,og,pg,cg,eg,fg,rfl,hvg,hcg⟩:=RowAt.get hm2 (i:=w.marks.length) hgl
    rw [show decide ((w.marks.length:Int)<(g.length:Int))=true from decide_eq_true oM]
    refine su ?_
    refine A2b tab Y Y Y hm1 (A0l tab Y Y Y Y) ?_
    refine su ?_
    refine A6d tab w.marks.length Y Y Y Y Y Y Y hgl ?_
    refine A2b tab Y Y Y hvg (A0l tab Y Y Y (by rw [Nat.mul_one];exact hcg _ hgl)) ?_
    refine su ?_
    rw [show(g[w.marks.length] != (m:Int))=!mayG g w.marks.length m from by unfold mayG;rw [List.getElem?_eq_getElem hgl];rfl]
    refine⟨Y,Y,Y,rg⟩
   ·rw [show decide ((w.marks.length:Int)<(g.length:Int))=false from decide_eq_false oM]
    have e:mayG g w.marks.length m=true:=by unfold mayG;rw [List.getElem?_eq_none oM]
    rw [e]
    refine su ?_
    refine⟨Y,Y,Y,rg⟩
  by_cases hmay:mayG g w.marks.length m=true
  ·rw [hmay]
   refine gn ?_
   have hal:a.length<2^30∧b.length<2^30:=oM
   refine R_co0 hbk ?_
   refine su ?_
   refine A2b tab Y Y Y hd1 (A1g tab (x:=[.pointer (some ⟨dd,0,none⟩),.slice aA a.length cA,.slice aB b.length cB]) Y Y Y ⟨Nat.le_refl _,Y⟩) ?_
   refine A2b tab Y Y Y hv7 (A1g tab (x:=[natV i,natV k]) Y Y Y ⟨Nat.le_refl _,Y⟩) ?_
   refine su ?_
   refine Q_op fun ho=>A0u ho bod144 Y Y Y Y Y (step_x hda hdb hal.1 hal.2 hi hk hm3) ?_
   clear ho
   cases hst:A4g (a.drop i) (b.drop k) m with
   | none=>
    rw [show A9j a b i k m = .tuple (List.toArray [MA.val ⟨0,0,0,0⟩,plV i k,.bool false])from by unfold A9j;rw [hst]]
    refine sw fun bx=>?_;refine sw fun bx=>?_
    refine A0y fun _=>?_
    refine R_less ?_
    refine gn ?_
    refine gr ?_
    refine gn ?_
    refine R_co0 hbk ?_
    refine su ?_
    refine A0y fun _=>?_
    rw [A1r]
    refine gn ?_
    refine A5q ?_
    exact Mu.F_in _ (hskip (by unfold A3d;rw [if_pos hmay];unfold A2j;rw [hst])) rg
   | some q=>
    obtain⟨x,a',b'⟩:=q
    rw [show A9j a b i k m = .tuple (List.toArray [x.val,plV (nxI i m) (nxK k m),.bool true])from by unfold A9j;rw [hst]]
    obtain⟨rfl,rfl,hxm,hxi,hxk⟩:=stepM_drop hm3 hst
    have hxf:(x.k=0∨x.k=1∨x.k=2)∧0≤x.h∧x.h<H:=hxm.elim (hfa x) (hfb x)
    have hlen:=A4u hst
    refine sw fun bx=>?_;refine sw fun bx=>?_
    refine A0y fun hβ5=>?_
    rename_i b12
    obtain⟨b13,rfl⟩:∃b:Nat,b=bx:=⟨bx,rfl⟩
    refine gn ?_
    refine gr ?_
    refine gn ?_
    refine Mu.F_in [(13,.pointer (some ⟨b13,0,none⟩)),(12,.pointer (some ⟨b12,0,none⟩)),(11,.int .i64 (w.marks.length:Int)),(10,.int .i64 (m:Int)),(32,.int .i64 (m:Int)),(31,.int .i64 3),(30,.slice (some ⟨bL,0,none⟩) 3 3),(8,.bool false),(7,.pointer (some ⟨b7,0,none⟩)),(6,.pointer (some ⟨b6,0,none⟩)),(5,.pointer (some ⟨bf,0,none⟩)),(4,.pointer (some ⟨bm,0,none⟩)),(3,.pointer (some ⟨by_,0,none⟩)),(2,.pointer (some ⟨bd,0,none⟩))] ?_ rg
    have hβ5':Bok [(b13,(plV (nxI i m) (nxK k m)).cells,249),(b12,x.val.cells,40)] u2:=hβ5
    change XG (R _ (u2.union (A0c [(b13,(plV (nxI i m) (nxK k m)).cells,249),(b12,x.val.cells,40)]))) _ _ _ _ _ _
    refine R_co hbk hβ5' ?_
    refine A1d [6,7,14,15,18,19,20] [0,1,2,3,5,8,9,10,11,13,16,17,4,12,6,7,14,15,18,19,20] A1e Y kR ?_
    refine su ?_
    refine A8v tab Y Y Y kR Y hv6 (A0l tab (x:=.slice am w.marks.length cm) Y Y Y Y) ?_
    refine su ?_
    refine A8v tab Y Y Y kR Y hv6 (A0l tab (x:=.slice ab w.book.length cb) Y Y Y Y) ?_
    refine su ?_
    refine A8v tab Y Y Y kR Y hv6 (A1g tab (x:=[intV (ow w.dusk 0),intV (ow w.dusk 1),intV (ow w.dusk 2)]) Y Y Y ⟨Nat.le_refl _,Y⟩) ?_
    refine su ?_
    refine S_slice_hm tab (h':=w.marks.length) (m:=w.marks.length) Y Y Y kR Y Y Y Y Y hcm1 (Nat.le_refl _) ?_
    rw [row_same hrm (fun h0 e=>h0 (by have:=congrArg List.length e;simpa using this))]
    refine S_slice_hm tab (h':=w.book.length) (m:=w.book.length) Y Y Y kR Y Y Y (by rw [←hwl];rfl) (by rw [←hwl];rfl) hcb1 (Nat.le_refl _) ?_
    rw [row_same hrb (fun h0 e=>h0 (by have:=congrArg List.length e;rw [flat4_len]at this;simp at this;omega))]
    refine S_net (Sp:=sp10 w m x) (pre:=pre10) [6,7,14,15,18,19] dst10 dM dM (fun i hi=>?_) dM (fun i hi=>?_) (by repeat (first|exact trivial|(refine⟨?_,?_⟩;focus exact ib))) kR (fun j hj c hc u' hu'=>?_) (fun c hc=>?_)
    ·simp only [List.mem_cons,List.not_mem_nil,or_false]at hi
     rcases hi with rfl|rfl|rfl|rfl|rfl|rfl<;>rfl
    ·simp only [List.mem_cons,List.not_mem_nil,or_false]at hi
     rcases hi with rfl|rfl|rfl|rfl|rfl|rfl<;>exact⟨fun o ho=>by cases ho;rfl,rfl⟩
    ·simp only [List.mem_cons,List.not_mem_nil,or_false]at hj
     rcases hj with rfl|rfl|rfl|rfl|rfl|rfl
     ·exact A3w tab Y Y Y Y Y Y Y Y Y Y (fun b c hL=>⟨Y,_,_,⟨b,c,Y,Y,hL⟩,Y⟩)
     ·obtain⟨b6',c6',h1,h2,hL6⟩:=hc 6 dM
      simp only [show pre10 7=[6]from Y,netR,netβ,h1,h2]
      refine A_appendB tab (len:=w.marks.length) (m:=1) (cs:=w.marks.map intV) (xs:=[natV m]) Y Y Y Y Y Y Y Y Y Y Y
       (fun hb=>RowAt.le (hrm.le hu') (A0g _ _)) (by rw [List.length_map,Nat.mul_one]) (fun hb=>RowAt.own hb cntL hL6) Y oM (by show(2*(w.marks.length+1)+768)*8≤2^48;omega) oM (fun b c cap hS=>⟨Y,_,[(b,c,3)],⟨b,c,cap,Y,Y,hS⟩,Y⟩)
     ·exact A3w tab Y Y Y Y Y Y Y Y Y Y (fun b c hL=>⟨Y,_,_,⟨b,c,Y,Y,hL⟩,Y⟩)
     ·obtain⟨b6',c6',h1,h2,hL6⟩:=hc 14 dM
      simp only [show pre10 15=[14]from Y,netR,netβ,h1,h2]
      refine A_appendB tab (len:=w.book.length) (m:=1) (cs:=(w.book.map MA.cells).flatten) (xs:=x.cells) Y Y Y Y Y Y Y Y Y Y Y
       (fun hb=>RowAt.le (hrb.le hu') (A0g _ _)) (flat4_len _) (fun hb=>RowAt.own hb cntL hL6) Y oM (by show(2*(w.book.length+1)+768)*32≤2^48;omega) oM (fun b c cap hS=>⟨Y,_,[(b,c,40)],⟨b,c,cap,Y,Y,hS⟩,Y⟩)
     ·obtain⟨bm',cm',capm',h1,h2,_⟩:=hc 7 dM
      obtain⟨bb',cb',capb',h3,h4,_⟩:=hc 15 dM
      simp only [show pre10 18=[7,15]from Y,netR,netβ,h1,h2,h3,h4,List.map_cons,List.map_nil]
      exact A_mk tab Y Y Y Y ⟨Y,.agg (List.toArray [.slice (some ⟨bm',0,none⟩) (w.marks.length+1) capm',.slice (some ⟨bb',0,none⟩) (w.book.length+1) capb',intV (ow w.dusk 0),intV (ow w.dusk 1),intV (ow w.dusk 2)]),[],⟨by rw [h1,h3],Y⟩,Y⟩
     ·exact A8z tab Y Y Y Y (fun b=>⟨Y,_,_,⟨b,Y,Y⟩,Y⟩)
    ·obtain⟨b66,c66,e6,e6',_⟩:=hc 6 dM
     obtain⟨bm',cm',capm',e7,e7',hSm⟩:=hc 7 dM
     obtain⟨b14',c14',e14,e14',_⟩:=hc 14 dM
     obtain⟨bb',cb',capb',e15,e15',hSb⟩:=hc 15 dM
     obtain⟨e18,e18'⟩:(c 18).1 = .agg (List.toArray [(c 7).1,(c 15).1,intV (ow w.dusk 0),intV (ow w.dusk 1),intV (ow w.dusk 2)])∧(c 18).2=[]:=hc 18 dM
     obtain⟨b15,e19,e19'⟩:=hc 19 dM
     simp only [netR,netβ,e6,e6',e7,e7',e14,e14',e15,e15',e18,e18',e19,e19']
     clear e6 e6' e7 e7' e14 e14' e15 e15' e19 e19' e18 e18' hc
     repeat (refine ss ?_)
     refine S_do kR (A2q tab Y Y Y Y Y Y Y ib (by exact Y) sb ⟨Le.refl _,kp,?_⟩)
     repeat (refine ss ?_)
     refine A0y fun hβ6=>?_
     have hβ6':Bok [(b66,c66,3),(bm',cm',3),(b14',c14',40),(bb',cb',40),(b15,owC (.slice (some ⟨bm',0,none⟩) (w.marks.length+1) capm') (.slice (some ⟨bb',0,none⟩) (w.book.length+1) capb') w.dusk,175),(b13,(plV (nxI i m) (nxK k m)).cells,249),(b12,x.val.cells,40)] u2:=hβ6
     change XG (R _ (u2.union (A0c [(b66,c66,3),(bm',cm',3),(b14',c14',40),(bb',cb',40),(b15,owC (.slice (some ⟨bm',0,none⟩) (w.marks.length+1) capm') (.slice (some ⟨bb',0,none⟩) (w.book.length+1) capb') w.dusk,175),(b13,(plV (nxI i m) (nxK k m)).cells,249),(b12,x.val.cells,40)]))) _ _ _ _ _ _
     obtain⟨hbA,hbB,heq6⟩:=A4x (β1:=[(b66,c66,3),(b14',c14',40),(b13,(plV (nxI i m) (nxK k m)).cells,249),(b12,x.val.cells,40)]) (β2:=[(b15,owC (.slice (some ⟨bm',0,none⟩) (w.marks.length+1) capm') (.slice (some ⟨bb',0,none⟩) (w.book.length+1) capb') w.dusk,175)]++([(bm',cm',3)]++[(bb',cb',40)])) hβ6' cntA
     rw [heq6]
     have hv12:=A0q hbA (b:=b12) (c:=x.val.cells) (t:=40) ib
     have hv13:=A0q hbA (b:=b13) (c:=(plV (nxI i m) (nxK k m)).cells) (t:=249) ib
     have hu3:u2.Le (u2.union (A0c [(b66,c66,3),(b14',c14',40),(b13,(plV (nxI i m) (nxK k m)).cells,249),(b12,x.val.cells,40)])):=A0g _ _
     generalize u2.union (A0c [(b66,c66,3),(b14',c14',40),(b13,(plV (nxI i m) (nxK k m)).cells,249),(b12,x.val.cells,40)])=u3 at *
     clear hβ6 hβ6' heq6 hbA hβ5 hβ5'
     refine gn ?_
     refine Mu.F_in [(15,.pointer (some ⟨b15,0,none⟩)),(13,.pointer (some ⟨b13,0,none⟩)),(12,.pointer (some ⟨b12,0,none⟩)),(32,.int .i64 (m:Int)),(31,.int .i64 3),(30,.slice (some ⟨bL,0,none⟩) 3 3),(8,.bool false),(7,.pointer (some ⟨b7,0,none⟩)),(6,.pointer (some ⟨b6,0,none⟩)),(5,.pointer (some ⟨bf,0,none⟩)),(4,.pointer (some ⟨bm,0,none⟩)),(3,.pointer (some ⟨by_,0,none⟩)),(2,.pointer (some ⟨bd,0,none⟩))] ?_ rg
     refine R_co hbk hbB ?_
     refine su ?_
     refine A2b tab Y Y Y hv12 (A1g tab (x:=x.cells) Y Y Y ⟨Nat.le_refl _,Y⟩) ?_
     refine su ?_
     refine Q_op fun ho=>A0u ho bod60 Y Y Y Y Y (deedOf_x hxf.1) ?_
     clear ho
     refine su ?_
     refine Q_op fun ho=>A0o [(b15,owC (.slice (some ⟨bm',0,none⟩) (w.marks.length+1) capm') (.slice (some ⟨bb',0,none⟩) (w.book.length+1) capb') w.dusk,175)] ([(bm',cm',3)]++[(bb',cb',40)]) ho bod59 Y Y Y Y Y cntA (do_x oM hxf.1 ⟨hxf.2.1,oM⟩) (fun x β' hR=>?_)
     clear ho
     obtain⟨⟨e,rfl,he⟩,rfl⟩:=hR
     refine su ?_
     refine A0y fun hbC=>?_
     rcases he with ⟨hrf,rfl⟩|⟨hrf,tx,vx,rfl⟩
     ·refine gn ?_
      refine R_co hbk hbC ?_
      refine su ?_
      refine Q_op fun ho=>A_neqNil tab (r:=false) ho Y Y Y Y (.inl ⟨Y,Y⟩) ?_
      clear ho
      refine su ?_
      refine A0y fun hbC'=>?_
      clear hbC'
      obtain⟨hbE,hbD,heq7⟩:=A4x (β1:=[(b15,owC (.slice (some ⟨bm',0,none⟩) (w.marks.length+1) capm') (.slice (some ⟨bb',0,none⟩) (w.book.length+1) capb') (doN w.dusk x),175)]) (β2:=[(bm',cm',3)]++[(bb',cb',40)]) hbC cntA
      change XG (R _ (u3.union (A0c ([(b15,owC (.slice (some ⟨bm',0,none⟩) (w.marks.length+1) capm') (.slice (some ⟨bb',0,none⟩) (w.book.length+1) capb') (doN w.dusk x),175)]++([(bm',cm',3)]++[(bb',cb',40)]))))) _ _ _ _ _ _
      rw [heq7]
      have hv15:=A0q hbE (b:=b15) (c:=owC (.slice (some ⟨bm',0,none⟩) (w.marks.length+1) capm') (.slice (some ⟨bb',0,none⟩) (w.book.length+1) capb') (doN w.dusk x)) (t:=175) ib
      have hu4:=hu3.trans (A0g u3 (A0c [(b15,owC (.slice (some ⟨bm',0,none⟩) (w.marks.length+1) capm') (.slice (some ⟨bb',0,none⟩) (w.book.length+1) capb') (doN w.dusk x),175)]))
      have hv13:=A0g u3 (A0c [(b15,owC (.slice (some ⟨bm',0,none⟩) (w.marks.length+1) capm') (.slice (some ⟨bb',0,none⟩) (w.book.length+1) capb') (doN w.dusk x),175)]) _ _ hv13
      generalize u3.union (A0c [(b15,owC (.slice (some ⟨bm',0,none⟩) (w.marks.length+1) capm') (.slice (some ⟨bb',0,none⟩) (w.book.length+1) capb') (doN w.dusk x),175)])=u4 at *
      clear hbC heq7 hbE hbB hv12
      refine gn ?_
      refine gr ?_
      refine R_xo hbk hbD (A_ld tab Y Y Y Y (hu4 _ _ hf7) (A0l tab Y Y Y Y) ?_)
      refine A2n fun _=>?_
      refine R_xo hbk hbD (A_ld tab Y Y Y Y hv15 (A1g tab (x:=[.slice (some ⟨bm',0,none⟩) (w.marks.length+1) capm',.slice (some ⟨bb',0,none⟩) (w.book.length+1) capb',intV (ow (doN w.dusk x) 0),intV (ow (doN w.dusk x) 1),intV (ow (doN w.dusk x) 2)]) Y Y Y ⟨Nat.le_refl _,Y⟩) ?_)
      refine A2n fun _=>?_
      refine R_xo hbk hbD (A_ld tab Y Y Y Y hv13 (A1g tab (x:=[natV (nxI i m),natV (nxK k m)]) Y Y Y ⟨Nat.le_refl _,Y⟩) ?_)
      refine A2n fun _=>?_
      have hround:A3d g (a.drop i) (b.drop k) w m=A3e g (a.drop (nxI i m)) (b.drop (nxK k m)) (w.add m x):=by
       unfold A3d;rw [if_pos hmay];unfold A2j;rw [hst];simp only [hrf,Bool.false_eq_true,if_false]
      have hrest:=restG_eq (g:=g) (a:=a.drop i) (b:=b.drop k) (w:=w) hm3
      rw [hround]at hrest
      rw [hrest]at hend
      rw [hrest,List.append_assoc]
      refine A6o (ys:=[_,_,_,_,_,_]) hbk hbr Y Y Y Y Y func143 Y dM Y fun cf' hcm' hfin'=>?_
      refine ih (n-1) oM (nxI i m) (nxK k m) (w.add m x) (A9o g (a.drop i) (b.drop k) w (m+1)++s) u4 _ _ cf' (cf::fs) ?_ ?_ oM ?_ ?_ ?_ ((hu.trans huu).trans hu4) hbD ⟨[(bm',cm',3)],[(bb',cb',40)],some ⟨bm',0,none⟩,capm',some ⟨bb',0,none⟩,capb',Y,?_,?_,?_⟩ hcm' (hfin' _ _ ?_)
      ·unfold nxI;split<;>omega
      ·unfold nxK;split<;>omega
      ·simp only [Wy.add,List.length_append,List.length_singleton,hwl]
      ·simp only [Wy.add,List.length_append,List.length_singleton];omega
      ·simp only [Wy.add,doN_len];exact hwd
      ·simp only [wyC,Wy.add,List.length_append,List.length_singleton]
      ·have e1:(w.add m x).marks.length=w.marks.length+1:=by simp [Wy.add]
       have e2:(w.add m x).marks.map intV=w.marks.map intV++[natV m]:=by simp [Wy.add]
       rw [e1,e2]
       exact hSm
      ·have e1:(w.add m x).book.length=w.book.length+1:=by simp [Wy.add]
       have e2:((w.add m x).book.map MA.cells).flatten=(w.book.map MA.cells).flatten++x.cells:=by simp [Wy.add]
       rw [e1,e2]
       exact hSb
      ·cases hE:endB t (A3e g (a.drop (nxI i m)) (b.drop (nxK k m)) (w.add m x))with
       | true=>
        obtain⟨e1,e2,e3⟩:=end_go (m:=A9o g (a.drop i) (b.drop k) w (m+1)) (s:=s) hE
        rw [e3]
        refine R_leV hu4 ?_
        refine gn ?_
        refine R_co0 hbk ?_
        refine su ?_
        refine A0y fun _=>?_
        rw [A1r]
        refine gn ?_
        refine A5q ?_
        refine Mu.F_in _ (hnext ⟨oM,?_⟩) rg
        unfold Found at hend
        rw [e1,e2]at hend
        exact hend
       | false=>
        obtain⟨e1,e2⟩:=end_stop (m:=A9o g (a.drop i) (b.drop k) w (m+1)) (s:=s) hE
        unfold Found at hend
        rw [e1,e2]at hend
        refine gn ?_
        refine gr ?_
        refine gn ?_
        refine A6p hbr ?_
        refine A7e hbn (by rw [hbf];exact func143) Y Y ?_
        exact Abs.le hend (aft_le hu4)
     ·refine R_less (R_leV hu3 ?_)
      refine gn ?_
      refine R_co0 hbk ?_
      refine su ?_
      refine Q_op fun ho=>A_neqNil tab (r:=true) ho Y Y Y Y (.inr ⟨Y,_,_,Y⟩) ?_
      clear ho
      refine su ?_
      refine A0y fun _=>?_
      rw [A1r]
      refine gn ?_
      refine R_co0 hbk ?_
      refine su ?_
      refine A0y fun _=>?_
      rw [A1r]
      refine gn ?_
      refine A5q ?_
      exact Mu.F_in _ (hskip (by unfold A3d;rw [if_pos hmay];unfold A2j;rw [hst];simp only [hrf,if_true])) rg
  ·rw [show mayG g w.marks.length m=false from by simpa using hmay]
   refine gn ?_
   refine R_co0 hbk ?_
   refine su ?_
   refine A0y fun _=>?_
   rw [A1r]
   refine gn ?_
   refine A5q ?_
   exact Mu.F_in _ (hskip (by unfold A3d;rw [if_neg hmay])) rg
end
end Go.Proofs.YtclejblcnfaeaaaGreatDoor
end
