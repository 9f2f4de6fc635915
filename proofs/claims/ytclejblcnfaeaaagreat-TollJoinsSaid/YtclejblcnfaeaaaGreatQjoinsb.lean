/- Part 47. -/
import Derived.Test.YtclejblcnfaeaaaGreatQjoinsa
set_option linter.all false
section
namespace Go.Proofs.YtclejblcnfaeaaaGreat
open Go Go.Pal Go.Pal.To Go.Conc View
open Go.Proofs.Tryz
set_option maxHeartbeats 4000000
set_option maxRecDepth 20000
inductive RwsAt(v:View):List (List Value)→List Wy→Prop
 | nil:RwsAt v [] []
 | cons {y:List Value} {w:Wy} {ys:List (List Value)} {ws:List Wy}:RwAt v y w→RwsAt v ys ws→RwsAt v (y::ys) (w::ws)
theorem RwsAt.le{u v:View}(hl:u.Le v):∀{ys:List (List Value)} {ws:List Wy},RwsAt u ys ws→RwsAt v ys ws
 | _,_,.nil=>.nil
 | _,_,.cons h r=>.cons (h.le hl) (r.le hl)
theorem RwsAt.app{v:View}{ys':List (List Value)}{ws':List Wy}(h':RwsAt v ys' ws'):∀{ys:List (List Value)} {ws:List Wy},RwsAt v ys ws→RwsAt v (ys++ys') (ws++ws')
 | _,_,.nil=>h'
 | _,_,.cons h r=>.cons h (RwsAt.app h' r)
theorem own_len{e:TypeId}{k:Nat}{seg:A0f}{a:Option Addr}{len cap:Nat}{cs:List Value}(h:OwnS e k seg a len cap cs):cs.length=len*k:=by
 cases h with
 | nil=>simp
 | box h1 h2 h3 h4=>exact h1
def OwnWs(y:List Value)(w:Wy)(r:Value)(β:A0f)(l:List Wy):Prop:=∃a cap segO segR rows,r = .slice a l.length cap∧β=segO++segR∧OwnS 131 3 segO a l.length cap rows.flatten∧rows.flatten.all A2k=true∧∀u,RwAt u y w→Bok segR u→RwsAt (u.union (A0c segR)) rows l
def WSt(y:List Value)(w:Wy)(aA:Option Addr)(na cA:Nat)(aB:Option Addr)(nb cB:Nat)(b5:Nat)(v:View)(L:List Wy)(σ:St)(u:View):Prop:=
 u=v∧∃ao co segO segR rows,σ=⟨[],[(7,.slice ao L.length co),(5,.pointer (some ⟨b5,0,none⟩)),(0,.slice aA na cA),(1,.slice aB nb cB)],(b5,y.toArray,131)::(segO++segR)⟩∧OwnS 131 3 segO ao L.length co rows.flatten∧rows.flatten.all A2k=true∧∀u,RwAt u y w→Bok segR u→RwsAt (u.union (A0c segR)) rows L
theorem B3s{a b:List MA}{w:Wy}{m:Nat}(h:a.length+b.length≤8):(A2n To.ways a b w m).length≤6561:=by
 unfold A2n
 cases hs:A3c a b m with
 | none=>exact Nat.zero_le _
 | some q=>
  obtain⟨x,a',b'⟩:=q
  dsimp only
  split
  ·exact Nat.zero_le _
  ·have:=A4c hs
   exact A9w (n:=8) oM
theorem B3t{w:Wy}{m:Int}{x:MA}:(w.add m x).dusk.length=w.dusk.length:=by
 show(doN w.dusk x).length=_
 unfold doN;split<;>simp
theorem rows_go{y y1:List Value}{w w1:Wy}{segR β1 sR2:A0f}{rows rows2:List (List Value)}{L l2:List Wy}(hR:∀u,RwAt u y w→Bok segR u→RwsAt (u.union (A0c segR)) rows L)(hnx:∀u,Bok β1 u→RwAt (u.union (A0c β1)) y1 w1)(hR2:∀u,RwAt u y1 w1→Bok sR2 u→RwsAt (u.union (A0c sR2)) rows2 l2) :
  ∀u,RwAt u y w→Bok (sR2++(β1++segR)) u→RwsAt (u.union (A0c (sR2++(β1++segR)))) (rows++rows2) (L++l2):=fun u hu hb=>by
 obtain⟨hb1,hb2⟩:=bok_append.1 hb
 obtain⟨hb3,hb4⟩:=bok_append.1 hb1
 rw [A0v hb]
 rw [A0v hb1]at hb2⊢
 exact RwsAt.app (hR2 _ (hnx _ hb4) hb2) ((hR u hu hb3).le ((A0e _ _).trans (A0e _ _)))
section
variable{mn:Who}
theorem waysR_nil{v:View}{aA aB:Option Addr}{cA cB:Nat}{w:Wy}{y:List Value}(hy:RwAt v y w) :
  CallsB prog mn 102 #[.slice aA 0 cA,.slice aB 0 cB,.agg y.toArray] (RetB fun r β'=>OwnWs y w r β' (To.ways [] [] w)) [] v:=by
 obtain⟨am,cm,ab,cb,ad,cd,rfl,hm,hb,hd⟩:=hy
 refine A0d tab func102 Y nB (args:=[_,_,_]) ?_
 repeat (first|refine st ?_|refine qb fun bx=>?_)
 refine Q_op fun ho=>A3i tab ho Y Y Y Y Y Y Y Y Y (fun b2 c2 hS=>?_)
 repeat (first|refine st ?_|refine qb fun bx=>?_)
 refine A0g tab [(b2,c2,131)] (by exact .tmp rfl .nil) (Back.here cntL) ?_
 refine⟨some ⟨b2,0,none⟩,1,[(b2,c2,131)],[],[rwC am w.marks.length cm ab w.book.length cb ad w.dusk.length cd],Y,Y,hS,Y,fun u hu _=>?_⟩
 rw [A1t]
 exact .cons hu .nil
theorem waysR_x:∀(n:Nat) {v:View} {aA aB:Option Addr} {cA cB:Nat} {a b:List MA} {w:Wy} {y:List Value},a.length+b.length≤n→n≤8→ActsAt v aA a→ActsAt v aB b→a.length≤cA→b.length≤cB→RwAt v y w→
  (∀x∈a,x.k=0→0≤x.h∧x.h<w.dusk.length)→(∀x∈b,x.k=0→0≤x.h∧x.h<w.dusk.length)→w.marks.length+n≤100→w.book.length+n≤100→w.dusk.length<2^20→
  CallsB prog mn 102 #[.slice aA a.length cA,.slice aB b.length cB,.agg y.toArray] (RetB fun r β'=>OwnWs y w r β' (To.ways a b w)) [] v:=by
 intro n
 induction n with
 | zero=>
  intro v aA aB cA cB a b w y hn _ _ _ _ _ hy _ _ _ _ _
  rw [List.length_eq_zero_iff.1 (show a.length=0 by omega),List.length_eq_zero_iff.1 (show b.length=0 by omega)]
  exact waysR_nil hy
 | succ n ih=>
 intro v aA aB cA cB a b w y hn hn8 ha hb hcA hcB hy hka hkb hmk hbk hdl
 by_cases hne:a=[]∧b=[]
 ·obtain⟨rfl,rfl⟩:=hne
  exact waysR_nil hy
 rw [A8k hne]
 rw [show A2n To.ways a b w 0=[]++A2n To.ways a b w 0 from rfl]
 have hab:a.length+b.length≤8:=oM
 obtain⟨am,cm,ab,cb,ad,cd,hy0,hm,hbb,hd⟩:=id hy
 subst hy0
 refine A0d tab func102 Y nB (args:=[_,_,_]) ?_
 repeat (first|refine sr ?_|refine qb fun bx=>?_)
 refine A5l (fun σ u=>u=v∧σ=⟨[],[(5,.pointer (some ⟨bx,0,none⟩)),(0,.slice aA a.length cA),(1,.slice aB b.length cB)],[(bx,(rwC am w.marks.length cm ab w.book.length cb ad w.dusk.length cd).toArray,131)]⟩) ?_ ?_
 rotate_left
 ·repeat (first|refine st ?_|refine qb fun bx=>?_)
  by_cases ha0:a=[]
  ·subst ha0
   have hb0:b≠[]:=fun e=>hne ⟨Y,e⟩
   have hbl:b.length≠0:=fun e=>hb0 (List.length_eq_zero_iff.1 e)
   repeat (first|refine st ?_|refine qb fun bx=>?_)
   rw [show((b.length:Int)==0)=false from by rw [beq_eq_false_iff_ne];omega]
   repeat (first|refine st ?_|refine qb fun bx=>?_)
   exact A0a ⟨_,_,⟨Y,Y⟩,⟨Y,rg,cntL⟩,Le.refl _⟩
  ·have hal:a.length≠0:=fun e=>ha0 (List.length_eq_zero_iff.1 e)
   rw [show((a.length:Int)==0)=false from by rw [beq_eq_false_iff_ne];omega]
   repeat (first|refine st ?_|refine qb fun bx=>?_)
   exact A0a ⟨_,_,⟨Y,Y⟩,⟨Y,rg,cntL⟩,Le.refl _⟩
 rintro σ u ⟨rfl,rfl⟩
 refine A5l (WSt (rwC am w.marks.length cm ab w.book.length cb ad w.dusk.length cd) w aA a.length cA aB b.length cB bx u []) ?_ ?_
 rotate_left
 ·repeat (first|refine st ?_|refine qb fun bx=>?_)
  exact A0a ⟨_,_,⟨Y,none,0,[],[],[],Y,.nil,Y,fun _ _ _=>.nil⟩,⟨Y,rg,cntL⟩,Le.refl _⟩
 rintro σ v ⟨rfl,ao,co,segO,segR,rows,rfl,hO,hon,hR⟩
 refine A5l (WSt (rwC am w.marks.length cm ab w.book.length cb ad w.dusk.length cd) w aA a.length cA aB b.length cB bx v ([]++A2n To.ways a b w 0)) ?_ ?_
 rotate_left
 ·rcases a with _|⟨x,a'⟩
  ·rw [show A2n To.ways [] b w 0=[]from Y,List.append_nil]
   repeat (first|refine st ?_|refine qb fun bx=>?_)
   refine XC_lex A1f Y kR ?_
   repeat (first|refine st ?_|refine qb fun bx=>?_)
   exact A0a ⟨_,_,⟨Y,ao,co,segO,segR,rows,Y,hO,hon,hR⟩,⟨Y,rg,cntL⟩,Le.refl _⟩
  rcases b with _|⟨z,b'⟩
  ·rw [show A2n To.ways (x::a') [] w 0=[]from Y,List.append_nil]
   repeat (first|refine st ?_|refine qb fun bx=>?_)
   refine XC_lex A1f Y kR ?_
   repeat (first|refine st ?_|refine qb fun bx=>?_)
   rw [show decide (((x::a').length:Int) > 0)=true from decide_eq_true (by simp only [List.length_cons];omega)]
   repeat (first|refine st ?_|refine qb fun bx=>?_)
   exact A0a ⟨_,_,⟨Y,ao,co,segO,segR,rows,Y,hO,hon,hR⟩,⟨Y,rg,cntL⟩,Le.refl _⟩
  ·obtain⟨bba,offa,pa,ca,ea,fa,rfl,hva,hca⟩:=ha.get (i:=0) (Nat.succ_pos _)
   obtain⟨bbb,offb,pb,cbb,eb,fb,rfl,hvb,hcb⟩:=hb.get (i:=0) (Nat.succ_pos _)
   have hca0:offa+0*4+4≤ca.size∧ca.extract (offa+0*4) (offa+0*4+4)=x.cells.toArray:=hca 0 (Nat.succ_pos _)
   have hcb0:offb+0*4+4≤cbb.size∧cbb.extract (offb+0*4) (offb+0*4+4)=z.cells.toArray:=hcb 0 (Nat.succ_pos _)
   have hxh:=hka x (List.mem_cons_self ..)
   repeat (first|refine st ?_|refine qb fun bx=>?_)
   refine XC_lex A1f Y kR ?_
   repeat (first|refine st ?_|refine qb fun bx=>?_)
   rw [show decide (((x::a').length:Int) > 0)=true from decide_eq_true (by simp only [List.length_cons];omega)]
   repeat (first|refine st ?_|refine qb fun bx=>?_)
   rw [show decide (((z::b').length:Int) > 0)=true from decide_eq_true (by simp only [List.length_cons];omega)]
   repeat (first|refine st ?_|refine qb fun bx=>?_)
   refine A1l tab 0 Y Y Y Y Y Y Y (Nat.succ_pos _) ?_
   repeat (first|refine st ?_|refine qb fun bx=>?_)
   refine A4s tab Y Y Y hva (A1i tab Y Y Y hca0) ?_
   repeat (first|refine st ?_|refine qb fun bx=>?_)
   refine A1l tab 0 Y Y Y Y Y Y Y (Nat.succ_pos _) ?_
   repeat (first|refine st ?_|refine qb fun bx=>?_)
   refine A4s tab Y Y Y hvb (A1i tab Y Y Y hcb0) ?_
   repeat (first|refine st ?_|refine qb fun bx=>?_)
   refine L_eqlA (a:=x) (b:=z) Y Y Y Y ?_
   by_cases hxz:x=z
   ·subst hxz
    rw [show decide (x=x)=true from decide_eq_true rfl]
    repeat (first|refine st ?_|refine qb fun bx=>?_)
    refine A1l tab 0 Y Y Y Y Y Y Y (Nat.succ_pos _) ?_
    repeat (first|refine st ?_|refine qb fun bx=>?_)
    refine A4s tab Y Y Y hva (A1i tab Y Y Y hca0) ?_
    repeat (first|refine st ?_|refine qb fun bx=>?_)
    refine A2z bod135 Y Y Y Y Y (refusedR_x hd hxh) ?_
    cases hr:refd w.dusk x with
    | true=>
     rw [show A2n To.ways (x::a') (x::b') w 0=[]from by simp [A2n,A3c,hr],List.append_nil]
     repeat (first|refine st ?_|refine qb fun bx=>?_)
     exact A0a ⟨_,_,⟨Y,ao,co,segO,segR,rows,Y,hO,hon,hR⟩,⟨Y,rg,cntL⟩,Le.refl _⟩
    | false=>
     rw [show A2n To.ways (x::a') (x::b') w 0=To.ways a' b' (w.add 0 x)from by simp [A2n,A3c,hr]]
     have hlen2:a'.length+b'.length≤n:=by simp only [List.length_cons]at hn;omega
     repeat (first|refine st ?_|refine qb fun bx=>?_)
     refine A1d [9,10,11] [0,1,2,3,4,5,6,7,8,9,10,11,12] A1f Y kR ?_
     repeat (first|refine st ?_|refine qb fun bx=>?_)
     refine S_slice_l tab (l':=1) Y Y Y kR Y Y Y Y (Nat.succ_le_succ (Nat.zero_le _)) ?_
     repeat (first|refine st ?_|refine qb fun bx=>?_)
     refine S_slice_l tab (l':=1) Y Y Y kR Y Y Y Y (Nat.succ_le_succ (Nat.zero_le _)) ?_
     repeat (first|refine st ?_|refine qb fun bx=>?_)
     refine A0q tab 0 Y Y Y kR Y Y Y Y Y (Nat.succ_pos _) ?_
     repeat (first|refine st ?_|refine qb fun bx=>?_)
     refine A7b tab Y Y Y kR Y hva (A1i tab Y Y Y hca0) ?_
     repeat (first|refine st ?_|refine qb fun bx=>?_)
     refine S_do kR (A0k [] ((bx,(rwC am w.marks.length cm ab w.book.length cb ad w.dusk.length cd).toArray,131)::(segO++segR)) Y bod136 Y Y Y Y Y A6z (nextR_x (mark:=0) (hy.le (A0e _ _)) hxh oM oM oM) (fun r1 β1 hR1=>⟨Le.refl _,kp,?_⟩))
     obtain⟨y1,rfl,hnx⟩:=hR1
     repeat (first|refine st ?_|refine qb fun bx=>?_)
     refine S_do kR (A_bok fun hbk1=>A0k [] (β1++((bx,(rwC am w.marks.length cm ab w.book.length cb ad w.dusk.length cd).toArray,131)::(segO++segR))) Y bod102 Y Y Y Y Y A6z (ih (a:=a') (b:=b') (cA:=cA-1) (cB:=cB-1) (w:=w.add 0 x) (y:=y1) hlen2 oM ((acts_tail ha hcA).le (A0e _ _)) ((acts_tail hb hcB).le (A0e _ _)) (by simp only [List.length_cons]at hcA;omega) (by simp only [List.length_cons]at hcB;omega) (by rw [A0v hbk1];exact hnx _ (bok_append.1 hbk1).2) (by rw [B3t];exact fun q hq=>hka q (List.mem_cons_of_mem _ hq)) (by rw [B3t];exact fun q hq=>hkb q (List.mem_cons_of_mem _ hq)) (by show(w.marks++[_]).length+n≤100;rw [List.length_append];show w.marks.length+1+n≤100;omega) (by show(w.book++[_]).length+n≤100;rw [List.length_append];show w.book.length+1+n≤100;omega) (by rw [B3t];exact hdl)) (fun r2 β2 hR2=>⟨Le.refl _,kp,?_⟩))
     obtain⟨a2,c2,sO2,sR2,rows2,rfl,rfl,hO2,hon2,hR2⟩:=hR2
     have hcnt:=A9w (a:=a') (b:=b') (w:=w.add 0 x) (n:=8) (by simp only [List.length_cons]at hab;omega)
     rw [show(3:Nat)^8=6561 from rfl]at hcnt
     generalize To.ways a' b' (w.add 0 x)=l2 at *
     repeat (first|refine st ?_|refine qb fun bx=>?_)
     refine S_do kR (A2r tab (xs:=rows2.flatten) segO sO2 (sR2++(β1++((bx,(rwC am w.marks.length cm ab w.book.length cb ad w.dusk.length cd).toArray,131)::segR))) Y Y Y Y Y Y Y Y Y Y Y cntA hO (fun hb=>RowAt.own hb cntL hO2) (own_len hO2) hon2 (by(try simp only [List.length_nil]);omega) oM (fun sg a' cap' hS'=>⟨Le.refl _,kp,?_⟩))
     repeat (first|refine st ?_|refine qb fun bx=>?_)
     refine A0a ⟨_,_,⟨Y,a',cap',sg,sR2++(β1++segR),rows++rows2,Y,?_,?_,rows_go hR hnx hR2⟩,⟨Y,?_,cntL⟩,Le.refl _⟩
     ·rw [List.flatten_append,List.length_append];exact hS'
     ·rw [List.flatten_append,List.all_append,hon,hon2];rfl
     ·rw [List.length_append];exact rg
   ·rw [show decide (x=z)=false from decide_eq_false hxz]
    rw [show A2n To.ways (x::a') (z::b') w 0=[]from by simp [A2n,A3c,hxz],List.append_nil]
    repeat (first|refine st ?_|refine qb fun bx=>?_)
    exact A0a ⟨_,_,⟨Y,ao,co,segO,segR,rows,Y,hO,hon,hR⟩,⟨Y,rg,cntL⟩,Le.refl _⟩
 have hL0:([]++A2n To.ways a b w 0).length≤6561:=B3s hab
 generalize []++A2n To.ways a b w 0=L0 at *
 rintro σ v ⟨rfl,ao,co,segO,segR,rows,rfl,hO,hon,hR⟩
 refine A5l (WSt (rwC am w.marks.length cm ab w.book.length cb ad w.dusk.length cd) w aA a.length cA aB b.length cB bx v (L0++A2n To.ways a b w 1)) ?_ ?_
 rotate_left
 ·rcases a with _|⟨x,a'⟩
  ·rw [show A2n To.ways ([]) b w 1=[]from Y,List.append_nil]
   repeat (first|refine st ?_|refine qb fun bx=>?_)
   refine XC_lex A1f Y kR ?_
   repeat (first|refine st ?_|refine qb fun bx=>?_)
   exact A0a ⟨_,_,⟨Y,ao,co,segO,segR,rows,Y,hO,hon,hR⟩,⟨Y,rg,cntL⟩,Le.refl _⟩
  ·obtain⟨bba,offa,pa,ca,ea,fa,rfl,hva,hca⟩:=ha.get (i:=0) (Nat.succ_pos _)
   have hca0:offa+0*4+4≤ca.size∧ca.extract (offa+0*4) (offa+0*4+4)=x.cells.toArray:=hca 0 (Nat.succ_pos _)
   have hxh:=hka x (List.mem_cons_self ..)
   repeat (first|refine st ?_|refine qb fun bx=>?_)
   refine XC_lex A1f Y kR ?_
   repeat (first|refine st ?_|refine qb fun bx=>?_)
   rw [show decide (((x::a').length:Int) > 0)=true from decide_eq_true (by simp only [List.length_cons];omega)]
   repeat (first|refine st ?_|refine qb fun bx=>?_)
   refine A1l tab 0 Y Y Y Y Y Y Y (Nat.succ_pos _) ?_
   repeat (first|refine st ?_|refine qb fun bx=>?_)
   refine A4s tab Y Y Y hva (A1i tab Y Y Y hca0) ?_
   repeat (first|refine st ?_|refine qb fun bx=>?_)
   refine A2z bod135 Y Y Y Y Y (refusedR_x hd hxh) ?_
   cases hr:refd w.dusk x with
   | true=>
    rw [show A2n To.ways (x::a') b w 1=[]from by simp [A2n,A3c,hr],List.append_nil]
    repeat (first|refine st ?_|refine qb fun bx=>?_)
    exact A0a ⟨_,_,⟨Y,ao,co,segO,segR,rows,Y,hO,hon,hR⟩,⟨Y,rg,cntL⟩,Le.refl _⟩
   | false=>
    rw [show A2n To.ways (x::a') b w 1=To.ways a' b (w.add 1 x)from by simp [A2n,A3c,hr]]
    have hlen2:a'.length+b.length≤n:=by simp only [List.length_cons]at hn;omega
    repeat (first|refine st ?_|refine qb fun bx=>?_)
    refine A1d [8,9,10] [0,1,2,3,4,5,6,7,8,9,10,11] A1f Y kR ?_
    repeat (first|refine st ?_|refine qb fun bx=>?_)
    refine S_slice_l tab (l':=1) Y Y Y kR Y Y Y Y (Nat.succ_le_succ (Nat.zero_le _)) ?_
    repeat (first|refine st ?_|refine qb fun bx=>?_)
    refine A0q tab 0 Y Y Y kR Y Y Y Y Y (Nat.succ_pos _) ?_
    repeat (first|refine st ?_|refine qb fun bx=>?_)
    refine A7b tab Y Y Y kR Y hva (A1i tab Y Y Y hca0) ?_
    repeat (first|refine st ?_|refine qb fun bx=>?_)
    refine S_do kR (A0k [] ((bx,(rwC am w.marks.length cm ab w.book.length cb ad w.dusk.length cd).toArray,131)::(segO++segR)) Y bod136 Y Y Y Y Y A6z (nextR_x (mark:=1) (hy.le (A0e _ _)) hxh oM oM oM) (fun r1 β1 hR1=>⟨Le.refl _,kp,?_⟩))
    obtain⟨y1,rfl,hnx⟩:=hR1
    repeat (first|refine st ?_|refine qb fun bx=>?_)
    refine S_do kR (A_bok fun hbk1=>A0k [] (β1++((bx,(rwC am w.marks.length cm ab w.book.length cb ad w.dusk.length cd).toArray,131)::(segO++segR))) Y bod102 Y Y Y Y Y A6z (ih (a:=a') (b:=b) (cA:=cA-1) (cB:=cB) (w:=w.add 1 x) (y:=y1) hlen2 oM ((acts_tail ha hcA).le (A0e _ _)) (hb.le (A0e _ _)) (by simp only [List.length_cons]at hcA;omega) (hcB) (by rw [A0v hbk1];exact hnx _ (bok_append.1 hbk1).2) (by rw [B3t];exact fun q hq=>hka q (List.mem_cons_of_mem _ hq)) (by rw [B3t];exact hkb) (by show(w.marks++[_]).length+n≤100;rw [List.length_append];show w.marks.length+1+n≤100;omega) (by show(w.book++[_]).length+n≤100;rw [List.length_append];show w.book.length+1+n≤100;omega) (by rw [B3t];exact hdl)) (fun r2 β2 hR2=>⟨Le.refl _,kp,?_⟩))
    obtain⟨a2,c2,sO2,sR2,rows2,rfl,rfl,hO2,hon2,hR2⟩:=hR2
    have hcnt:=A9w (a:=a') (b:=b) (w:=w.add 1 x) (n:=8) (by simp only [List.length_cons]at hab;omega)
    rw [show(3:Nat)^8=6561 from rfl]at hcnt
    generalize To.ways a' b (w.add 1 x)=l2 at *
    repeat (first|refine st ?_|refine qb fun bx=>?_)
    refine S_do kR (A2r tab (xs:=rows2.flatten) segO sO2 (sR2++(β1++((bx,(rwC am w.marks.length cm ab w.book.length cb ad w.dusk.length cd).toArray,131)::segR))) Y Y Y Y Y Y Y Y Y Y Y cntA hO (fun hb=>RowAt.own hb cntL hO2) (own_len hO2) hon2 (by(try simp only [List.length_nil]);omega) oM (fun sg a' cap' hS'=>⟨Le.refl _,kp,?_⟩))
    repeat (first|refine st ?_|refine qb fun bx=>?_)
    refine A0a ⟨_,_,⟨Y,a',cap',sg,sR2++(β1++segR),rows++rows2,Y,?_,?_,rows_go hR hnx hR2⟩,⟨Y,?_,cntL⟩,Le.refl _⟩
    ·rw [List.flatten_append,List.length_append];exact hS'
    ·rw [List.flatten_append,List.all_append,hon,hon2];rfl
    ·rw [List.length_append];exact rg
 have hL1:(L0++A2n To.ways a b w 1).length≤13122:=by rw [List.length_append];have:=B3s (w:=w) (m:=1) hab;omega
 generalize L0++A2n To.ways a b w 1=L1 at *
 rintro σ v ⟨rfl,ao,co,segO,segR,rows,rfl,hO,hon,hR⟩
 refine A5l (WSt (rwC am w.marks.length cm ab w.book.length cb ad w.dusk.length cd) w aA a.length cA aB b.length cB bx v (L1++A2n To.ways a b w 2)) ?_ ?_
 rotate_left
 ·rcases b with _|⟨x,b'⟩
  ·rw [show A2n To.ways a ([]) w 2=[]from Y,List.append_nil]
   repeat (first|refine st ?_|refine qb fun bx=>?_)
   refine XC_lex A1f Y kR ?_
   repeat (first|refine st ?_|refine qb fun bx=>?_)
   exact A0a ⟨_,_,⟨Y,ao,co,segO,segR,rows,Y,hO,hon,hR⟩,⟨Y,rg,cntL⟩,Le.refl _⟩
  ·obtain⟨bbb,offb,pb,cbb,eb,fb,rfl,hvb,hcb⟩:=hb.get (i:=0) (Nat.succ_pos _)
   have hcb0:offb+0*4+4≤cbb.size∧cbb.extract (offb+0*4) (offb+0*4+4)=x.cells.toArray:=hcb 0 (Nat.succ_pos _)
   have hxh:=hkb x (List.mem_cons_self ..)
   repeat (first|refine st ?_|refine qb fun bx=>?_)
   refine XC_lex A1f Y kR ?_
   repeat (first|refine st ?_|refine qb fun bx=>?_)
   rw [show decide (((x::b').length:Int) > 0)=true from decide_eq_true (by simp only [List.length_cons];omega)]
   repeat (first|refine st ?_|refine qb fun bx=>?_)
   refine A1l tab 0 Y Y Y Y Y Y Y (Nat.succ_pos _) ?_
   repeat (first|refine st ?_|refine qb fun bx=>?_)
   refine A4s tab Y Y Y hvb (A1i tab Y Y Y hcb0) ?_
   repeat (first|refine st ?_|refine qb fun bx=>?_)
   refine A2z bod135 Y Y Y Y Y (refusedR_x hd hxh) ?_
   cases hr:refd w.dusk x with
   | true=>
    rw [show A2n To.ways a (x::b') w 2=[]from by simp [A2n,A3c,hr],List.append_nil]
    repeat (first|refine st ?_|refine qb fun bx=>?_)
    exact A0a ⟨_,_,⟨Y,ao,co,segO,segR,rows,Y,hO,hon,hR⟩,⟨Y,rg,cntL⟩,Le.refl _⟩
   | false=>
    rw [show A2n To.ways a (x::b') w 2=To.ways a b' (w.add 2 x)from by simp [A2n,A3c,hr]]
    have hlen2:a.length+b'.length≤n:=by simp only [List.length_cons]at hn;omega
    repeat (first|refine st ?_|refine qb fun bx=>?_)
    refine A1d [8,9,10] [0,1,2,3,4,5,6,7,8,9,10,11] A1f Y kR ?_
    repeat (first|refine st ?_|refine qb fun bx=>?_)
    refine S_slice_l tab (l':=1) Y Y Y kR Y Y Y Y (Nat.succ_le_succ (Nat.zero_le _)) ?_
    repeat (first|refine st ?_|refine qb fun bx=>?_)
    refine A0q tab 0 Y Y Y kR Y Y Y Y Y (Nat.succ_pos _) ?_
    repeat (first|refine st ?_|refine qb fun bx=>?_)
    refine A7b tab Y Y Y kR Y hvb (A1i tab Y Y Y hcb0) ?_
    repeat (first|refine st ?_|refine qb fun bx=>?_)
    refine S_do kR (A0k [] ((bx,(rwC am w.marks.length cm ab w.book.length cb ad w.dusk.length cd).toArray,131)::(segO++segR)) Y bod136 Y Y Y Y Y A6z (nextR_x (mark:=2) (hy.le (A0e _ _)) hxh oM oM oM) (fun r1 β1 hR1=>⟨Le.refl _,kp,?_⟩))
    obtain⟨y1,rfl,hnx⟩:=hR1
    repeat (first|refine st ?_|refine qb fun bx=>?_)
    refine S_do kR (A_bok fun hbk1=>A0k [] (β1++((bx,(rwC am w.marks.length cm ab w.book.length cb ad w.dusk.length cd).toArray,131)::(segO++segR))) Y bod102 Y Y Y Y Y A6z (ih (a:=a) (b:=b') (cA:=cA) (cB:=cB-1) (w:=w.add 2 x) (y:=y1) hlen2 oM (ha.le (A0e _ _)) ((acts_tail hb hcB).le (A0e _ _)) (hcA) (by simp only [List.length_cons]at hcB;omega) (by rw [A0v hbk1];exact hnx _ (bok_append.1 hbk1).2) (by rw [B3t];exact hka) (by rw [B3t];exact fun q hq=>hkb q (List.mem_cons_of_mem _ hq)) (by show(w.marks++[_]).length+n≤100;rw [List.length_append];show w.marks.length+1+n≤100;omega) (by show(w.book++[_]).length+n≤100;rw [List.length_append];show w.book.length+1+n≤100;omega) (by rw [B3t];exact hdl)) (fun r2 β2 hR2=>⟨Le.refl _,kp,?_⟩))
    obtain⟨a2,c2,sO2,sR2,rows2,rfl,rfl,hO2,hon2,hR2⟩:=hR2
    have hcnt:=A9w (a:=a) (b:=b') (w:=w.add 2 x) (n:=8) (by simp only [List.length_cons]at hab;omega)
    rw [show(3:Nat)^8=6561 from rfl]at hcnt
    generalize To.ways a b' (w.add 2 x)=l2 at *
    repeat (first|refine st ?_|refine qb fun bx=>?_)
    refine S_do kR (A2r tab (xs:=rows2.flatten) segO sO2 (sR2++(β1++((bx,(rwC am w.marks.length cm ab w.book.length cb ad w.dusk.length cd).toArray,131)::segR))) Y Y Y Y Y Y Y Y Y Y Y cntA hO (fun hb=>RowAt.own hb cntL hO2) (own_len hO2) hon2 (by(try simp only [List.length_nil]);omega) oM (fun sg a' cap' hS'=>⟨Le.refl _,kp,?_⟩))
    repeat (first|refine st ?_|refine qb fun bx=>?_)
    refine A0a ⟨_,_,⟨Y,a',cap',sg,sR2++(β1++segR),rows++rows2,Y,?_,?_,rows_go hR hnx hR2⟩,⟨Y,?_,cntL⟩,Le.refl _⟩
    ·rw [List.flatten_append,List.length_append];exact hS'
    ·rw [List.flatten_append,List.all_append,hon,hon2];rfl
    ·rw [List.length_append];exact rg
 rintro σ v ⟨rfl,ao,co,segO,segR,rows,rfl,hO,hon,hR⟩
 repeat (first|refine st ?_|refine qb fun bx=>?_)
 refine A0g tab (segO++segR) (by exact .tmp rfl .nil) (Back.here cntL) ?_
 exact⟨ao,co,segO,segR,rows,Y,Y,hO,hon,hR⟩
end
end Go.Proofs.YtclejblcnfaeaaaGreat
end
section
namespace Go.Pal.To
def minL(n:Nat)(l:List Wy):Nat:=l.foldl (fun m w=>min m w.book.length) n
theorem minL_snoc(n:Nat)(l:List Wy)(w:Wy):minL n (l++[w])=min (minL n l) w.book.length:=by unfold minL;rw [List.foldl_append];rfl
theorem minL_le(l:List Wy):∀n,minL n l≤n∧∀w∈l,minL n l≤w.book.length:=by
 induction l with
 | nil=>exact fun n=>⟨Nat.le_refl _,fun w hw=>by cases hw⟩
 | cons x l ih=>
  intro n
  obtain⟨h1,h2⟩:=ih (min n x.book.length)
  refine⟨Nat.le_trans h1 (Nat.min_le_left _ _),fun w hw=>?_⟩
  rcases List.mem_cons.1 hw with rfl|hw
  ·exact Nat.le_trans h1 (Nat.min_le_right _ _)
  ·exact h2 w hw
theorem minL_at(l:List Wy):∀n,minL n l=n∨∃w∈l,minL n l=w.book.length:=by
 induction l with
 | nil=>exact fun n=>.inl rfl
 | cons x l ih=>
  intro n
  rcases ih (min n x.book.length)with h|⟨w,hw,h⟩
  ·by_cases h2:n≤x.book.length
   ·exact .inl (h.trans (Nat.min_eq_left h2))
   ·exact .inr ⟨x,List.mem_cons_self ..,h.trans (Nat.min_eq_right oM)⟩
  ·exact .inr ⟨w,List.mem_cons_of_mem _ hw,h⟩
end Go.Pal.To
namespace Go.Pal.To
theorem B3u{a b:List MA}{d:List Int}{w:Wy}(h:w∈ways a b ⟨[],[],d⟩):w.marks.length=w.book.length∧w.book.length≤a.length+b.length:=by
 obtain⟨ms,bk,dk,hW,rfl⟩:=mem_ways0.1 h
 have h1:=hW.book_len
 refine⟨by simpa [wyOf]using h1,?_⟩
 have:∀{a b:List MA} {os dk:List Int} {ms:List Nat} {bk:List MA},W a b os ms bk dk→bk.length≤a.length+b.length:=by
  intro a b os dk ms bk h
  induction h with
  | nil=>simp
  | step _ hs _ _ ih=>
   have:=A4c hs
   simp only [List.length_cons]
   omega
 exact this hW
theorem bests_minL(a b:List MA)(d:List Int):(ways a b ⟨[],[],d⟩).filter (fun w=>w.book.length==minL (a.length+b.length) (ways a b ⟨[],[],d⟩))=A1q a b d:=by
 unfold A1q
 have hb:=fun w (hw:w∈ways a b ⟨[],[],d⟩)=>B3u hw
 generalize ways a b ⟨[],[],d⟩=l at hb⊢
 by_cases hl:l=[]
 ·subst hl;rfl
 obtain⟨h1,h2,h3⟩:=A4f hl
 obtain⟨u,hu⟩:=List.exists_mem_of_ne_nil _ h1
 obtain⟨hu1,hu2⟩:=A6l hu
 have hm:minL (a.length+b.length) l=(A1s l).1:=by
  obtain⟨k1,k2⟩:=minL_le l (a.length+b.length)
  have k3:=k2 u hu1
  have e:=hb u hu1
  unfold lenW at hu2 h2
  rcases minL_at l (a.length+b.length)with h|⟨w,hw,h⟩
  ·omega
  ·have:=h2 w hw
   have:=hb w hw
   omega
 rw [h3,hm]
 refine List.filter_congr fun w hw=>?_
 rw [←(hb w hw).1];rfl
end Go.Pal.To
namespace Go.Proofs.YtclejblcnfaeaaaGreat
open Go Go.Pal Go.Pal.To Go.Conc View
open Go.Proofs.Tryz
set_option maxHeartbeats 4000000
set_option maxRecDepth 20000
theorem rws_get{v:View}:∀{ys:List (List Value)} {ws:List Wy},RwsAt v ys ws→∀{i:Nat} (hi:i<ws.length),∃y,ys[i]?=some y∧RwAt v y ws[i]
 | _,_,.cons h r,0,_=>⟨_,rfl,h⟩
 | _,_,.cons h r,i+1,hi=>rws_get r (i:=i) (by simpa using hi)
theorem rws_three{v:View}:∀{ys:List (List Value)} {ws:List Wy},RwsAt v ys ws→ys.length=ws.length∧∀y∈ys,y.length=3
 | _,_,.nil=>⟨rfl,fun y hy=>by cases hy⟩
 | _,_,.cons h r=>by
  obtain⟨h1,h2⟩:=rws_three r
  refine⟨by simp [h1],fun y hy=>?_⟩
  rcases List.mem_cons.1 hy with rfl|hy
  ·obtain⟨am,cm,ab,cb,ad,cd,rfl,_⟩:=h;rfl
  ·exact h2 y hy
theorem B3v{v:View}{al:Option Addr}{rows:List (List Value)}{ws:List Wy}(hrow:RowAt v al rows.flatten)(hrs:RwsAt v rows ws){i:Nat}(hi:i<ws.length) :
  ∃ b off p c e f am cm ab cb ad cd,al=some ⟨b,off,none⟩∧v b=some (p,.cells c e f)∧(off+i*3+3≤c.size∧c.extract (off+i*3) (off+i*3+3)=(rwC am ws[i].marks.length cm ab ws[i].book.length cb ad ws[i].dusk.length cd).toArray)∧
   c[off+i*3+0]?=some (.slice am ws[i].marks.length cm)∧c[off+i*3+1]?=some (.slice ab ws[i].book.length cb)∧c[off+i*3+2]?=some (.slice ad ws[i].dusk.length cd)∧RowAt v am (ws[i].marks.map intV)∧ActsAt v ab ws[i].book∧RowAt v ad (ws[i].dusk.map intV):=by
 obtain⟨h1,h2⟩:=rws_three hrs
 obtain⟨y,hy,am,cm,ab,cb,ad,cd,rfl,hm,hb,hd⟩:=rws_get hrs hi
 obtain⟨b,off,p,c,e,f,h3,h4,h5⟩:=RowAt.recs (k:=3) hrow h2 dM (i:=i) oM
 obtain⟨h6,h7⟩:=h5 i oM
 rw [show rows[i]' oM=rwC am ws[i].marks.length cm ab ws[i].book.length cb ad ws[i].dusk.length cd from by
  have:=List.getElem?_eq_getElem (l:=rows) (i:=i) oM
  rw [this]at hy
  exact Option.some.inj hy]at h7
 have hc:∀j,j<3→c[off+i*3+j]?=(rwC am ws[i].marks.length cm ab ws[i].book.length cb ad ws[i].dusk.length cd)[j]?:=fun j hj=>by
  have h8:=congrArg (fun x:Array Value=>x[j]?) h7
  simp only [Array.getElem?_extract]at h8
  rw [if_pos oM]at h8
  rw [h8];simp
 exact⟨b,off,p,c,e,f,am,cm,ab,cb,ad,cd,h3,h4,⟨h6,h7⟩,hc 0 dM,hc 1 dM,hc 2 dM,hm,hb,hd⟩
def BwAt(u:View)(x:Value)(l:List Wy):Prop:=∃a cap rows,x = .slice a l.length cap∧RowAt u a rows.flatten∧RwsAt u rows l
structure BeS where
 i:Nat
 a:Option Addr
 cap:Nat
 sg:A0f
 rows:List (List Value)
section
variable{v:View}{mn:Who}{P:Int}{aD aA aB:Option Addr}{cD cA cB:Nat}{d:List Int}{a b:List MA}
theorem bestsR_x(hL:LOk P d a b)(hd:RowAt v aD (d.map intV))(ha:ActsAt v aA a)(hb:ActsAt v aB b)(hcA:a.length≤cA)(hcB:b.length≤cB) :
  CallV prog mn 125 [moV P aD d.length cD,.slice aA a.length cA,.slice aB b.length cB] (fun x u=>BwAt u x (A1q a b d)) v:=by
 have hla:=hL.la
 have hlb:=hL.lb
 have hdl:=hL.m.len
 have hka:∀x∈a,x.k=0→0≤x.h∧x.h<(d.length:Int):=fun x hx _=>(hL.a x hx).h
 have hkb:∀x∈b,x.k=0→0≤x.h∧x.h<(d.length:Int):=fun x hx _=>(hL.b x hx).h
 rw [←bests_minL]
 have hcnt:=A9w (a:=a) (b:=b) (w:=⟨[],[],d⟩) (n:=8) oM
 rw [show(3:Nat)^8=6561 from rfl]at hcnt
 have hbk:=fun w (hw:w∈To.ways a b ⟨[],[],d⟩)=>(B3u hw).2
 refine A3l tab func125 Y nB (args:=[_,_,_]) ?_
 repeat (first|refine st ?_|refine qb fun bx=>?_)
 refine Q_op fun ho=>A0k [] [(bx,(moV P aD d.length cD).cells,24)] ho bod102 Y Y Y Y Y A6z (waysR_x 8 (a:=a) (b:=b) (w:=⟨[],[],d⟩) (y:=rwC none 0 0 none 0 0 aD d.length cD) oM (Nat.le_refl _) (ha.le (A0e _ _)) (hb.le (A0e _ _)) hcA hcB ⟨none,0,none,0,aD,cD,Y,.inl Y,.inl Y,hd.le (A0e _ _)⟩ hka hkb (by show 0+8≤100;decide) (by show 0+8≤100;decide) (by show d.length<2^20;omega)) (fun x β' hR=>?_)
 clear ho
 obtain⟨al,cl,segO,segR,rows,rfl,rfl,hO,hon,hR⟩:=hR
 generalize To.ways a b ⟨[],[],d⟩=l at *
 refine A8d (β1:=segO++segR) (β2:=[(bx,(moV P aD d.length cD).cells,24)]) cntA (fun hbk1=>?_)
 have rL:=RowAt.own hbk1 (by exact cntL) hO
 have hrs:RwsAt (v.union (A0c (segO++segR))) rows l:=by
  rw [A0v hbk1]
  exact(hR v ⟨none,0,none,0,aD,cD,Y,.inl Y,.inl Y,hd⟩ (bok_append.1 hbk1).1).le (A0e _ _)
 have hv1:=A0e v (A0c (segO++segR))
 generalize v.union (A0c (segO++segR))=v1 at *
 clear hbk1 hR hO
 repeat (first|refine st ?_|refine qb fun bx=>?_)
 refine A1k (α:=Nat) (fun i=>⟨[],[(9,.int .i64 i),(8,natV (minL (a.length+b.length) (l.take i))),(7,.slice al l.length cl)],[]⟩)
  (fun i u=>u=v1∧i≤l.length) (fun i=>l.length-i) 0 ⟨Y,rg,cntL⟩ (Le.refl _) ⟨Y,Nat.zero_le _⟩ ?_
 rintro i u ⟨rfl,hi⟩
 repeat (first|refine st ?_|refine qb fun bx=>?_)
 refine A0y Y (fun h=>?_) (fun h=>?_)
 ·replace h:=fa h
  have hlt:i<l.length:=oM
  obtain⟨bb,off,p,c,e,f,am,cm,ab,cb,ad,cd,rfl,hv,hc,hc0,hc1,hc2,hm,hbk2,hdk⟩:=B3v rL hrs hlt
  repeat (first|refine st ?_|refine qb fun bx=>?_)
  refine A4j tab i Y Y Y Y Y Y Y hlt ?_
  repeat (first|refine st ?_|refine qb fun bx=>?_)
  refine A1w tab Y Y Y hv (A0j tab Y Y Y hc1) ?_
  repeat (first|refine st ?_|refine qb fun bx=>?_)
  have hmn:(if((l[i].book.length:Nat):Int)<((minL (a.length+b.length) (l.take i):Nat):Int)then((l[i].book.length:Nat):Int)else((minL (a.length+b.length) (l.take i):Nat):Int))=((minL (a.length+b.length) (l.take (i+1)):Nat):Int):=by
   rw [List.take_succ_eq_append_getElem hlt,minL_snoc]
   split<;>omega
  rw [hmn]
  exact A0a ⟨i+1,u,oM,⟨Y,rg,cntL⟩,Le.refl _,Y,hlt⟩
 ·replace h:=fa h
  have hin:i=l.length:=oM
  rw [hin,List.take_length]
  generalize minL (a.length+b.length) l=M
  repeat (first|refine st ?_|refine qb fun bx=>?_)
  refine A1k (α:=BeS) (fun z=>⟨[],[(11,.int .i64 z.i),(10,.slice z.a ((l.take z.i).filter fun w=>w.book.length==M).length z.cap),(8,natV M),(7,.slice al l.length cl)],z.sg⟩)
   (fun z w=>w=u∧z.i≤l.length∧OwnS 131 3 z.sg z.a ((l.take z.i).filter fun w=>w.book.length==M).length z.cap z.rows.flatten∧RwsAt u z.rows ((l.take z.i).filter fun w=>w.book.length==M)) (fun z=>l.length-z.i) ⟨0,none,0,[],[]⟩ ⟨Y,rg,cntL⟩ (Le.refl _) ⟨Y,Nat.zero_le _,.nil,.nil⟩ ?_
  clear hi h hin i
  rintro⟨i,ao,co,sg,rows2⟩ w ⟨rfl,hi,hO,hR⟩
  dsimp only at hi hO hR⊢
  repeat (first|refine st ?_|refine qb fun bx=>?_)
  refine A0y Y (fun h=>?_) (fun h=>?_)
  ·replace h:=fa h
   have hlt:i<l.length:=oM
   obtain⟨bb,off,p,c,e,f,am,cm,ab,cb,ad,cd,rfl,hv,hc,hc0,hc1,hc2,hm,hbk2,hdk⟩:=B3v rL hrs hlt
   have htk:=List.take_succ_eq_append_getElem hlt
   have hfl:((l.take i).filter fun w=>w.book.length==M).length≤6561:=Nat.le_trans (List.length_filter_le _ _) (by rw [List.length_take];omega)
   repeat (first|refine st ?_|refine qb fun bx=>?_)
   refine A4j tab i Y Y Y Y Y Y Y hlt ?_
   repeat (first|refine st ?_|refine qb fun bx=>?_)
   refine A1w tab Y Y Y hv (A0j tab Y Y Y hc1) ?_
   repeat (first|refine st ?_|refine qb fun bx=>?_)
   by_cases hM:l[i].book.length=M
   ·rw [show(((l[i].book.length:Nat):Int)==((M:Nat):Int))=true from by rw [hM];exact beq_self_eq_true _]
    have hf:(l.take (i+1)).filter (fun w=>w.book.length==M)=(l.take i).filter (fun w=>w.book.length==M)++[l[i]]:=by
     rw [htk,List.filter_append]
     simp [hM]
    generalize l[i]=wi at *
    repeat (first|refine st ?_|refine qb fun bx=>?_)
    refine A4j tab i Y Y Y Y Y Y Y hlt ?_
    repeat (first|refine st ?_|refine qb fun bx=>?_)
    refine A1w tab Y Y Y hv (A1i tab Y Y Y hc) ?_
    repeat (first|refine st ?_|refine qb fun bx=>?_)
    refine Q_op fun ho=>A3i tab ho Y Y Y Y Y Y Y Y Y (fun b3 c3 hL3=>?_)
    clear ho
    refine Q_op fun ho=>A2r tab (xs:=rwC am wi.marks.length cm ab wi.book.length cb ad wi.dusk.length cd) sg [(b3,c3,131)] [] ho Y Y Y Y Y Y Y Y Y Y cntA hO
     (fun hb=>RowAt.own hb cntL hL3) Y Y oM oM (fun sg2 a2 cap2 hS2=>?_)
    clear ho
    repeat (first|refine st ?_|refine qb fun bx=>?_)
    refine A0a ⟨⟨i+1,a2,cap2,sg2,rows2++[rwC am wi.marks.length cm ab wi.book.length cb ad wi.dusk.length cd]⟩,w,by simp only;omega,⟨Y,?_,cntL⟩,Le.refl _,Y,hlt,?_,?_⟩
    ·simp only [hf,List.length_append]
     exact rg
    ·simp only [hf,List.length_append,List.flatten_append]
     exact hS2
    ·simp only [hf]
     exact RwsAt.app (.cons ⟨am,cm,ab,cb,ad,cd,Y,hm,hbk2,hdk⟩ .nil) hR
   ·rw [show(((l[i].book.length:Nat):Int)==((M:Nat):Int))=false from by rw [beq_eq_false_iff_ne];omega]
    have hf:(l.take (i+1)).filter (fun w=>w.book.length==M)=(l.take i).filter (fun w=>w.book.length==M):=by
     rw [htk,List.filter_append]
     simp [hM]
    repeat (first|refine st ?_|refine qb fun bx=>?_)
    refine A0a ⟨⟨i+1,ao,co,sg,rows2⟩,w,by simp only;omega,⟨Y,?_,cntL⟩,Le.refl _,Y,hlt,?_,?_⟩
    ·simp only [hf]
     exact rg
    ·simp only [hf];exact hO
    ·simp only [hf];exact hR
  ·replace h:=fa h
   have hin:i=l.length:=oM
   rw [hin,List.take_length]at hO hR⊢
   repeat (first|refine st ?_|refine qb fun bx=>?_)
   refine A2l tab (by exact .tmp rfl .nil) hv1 fun hb2 hle=>?_
   exact⟨ao,co,rows2,Y,RowAt.own hb2 cntL hO,hR.le hle⟩
end
end Go.Proofs.YtclejblcnfaeaaaGreat
end
section
namespace Go.Proofs.YtclejblcnfaeaaaGreat
open Go Go.Pal Go.Pal.To Go.Conc View
open Go.Proofs.Tryz
set_option maxHeartbeats 4000000
set_option maxRecDepth 20000
def LdAt(u:View)(x:Value)(r:Int×Nat×List Wy):Prop:=∃y,x = .tuple (List.toArray [y,intV r.1])∧BwAt u y r.2.2
theorem laidR_err{P:Int}{d:List Int}{a b:List MA}{kn:Bool}(h:(A4o P d a b kn).1≠0):(A4o P d a b kn).2.2=[]∧(A4o P d a b kn).2.1=0:=by
 unfold A4o at h⊢
 by_cases h1:layE P d a b≠0
 ·rw [if_pos h1];exact⟨Y,Y⟩
 ·rw [if_neg h1]at h⊢
  by_cases h2:kn=false
  ·rw [if_pos h2];exact⟨Y,Y⟩
  ·rw [if_neg h2]at h⊢
   by_cases h3:A1q a b d=[]
   ·rw [if_pos h3];exact⟨Y,bestN_nil h3⟩
   ·rw [if_neg h3]at h;exact absurd Y h
theorem laidR_head{P:Int}{d:List Int}{a b:List MA}{k:Nat}{w:Wy}{ws:List Wy}(h:A4o P d a b true=(0,k,w::ws)):k=w.book.length:=by
 obtain⟨_,_,h2,h3⟩:=A9j (P:=P) (d:=d) (a:=a) (b:=b) (kn:=true) (by rw [h])
 rw [h3]at h
 injection h with _ h
 injection h with h4 h5
 have hm:w∈A1q a b d:=by rw [h5];exact List.mem_cons_self ..
 obtain⟨h6,h7⟩:=A6l hm
 have:=(B3u h6).1
 rw [←h4]
 show(A1s _).1=_
 rw [←h7]
 exact this
section
variable{v:View}{mn:Who}{P:Int}{aD aA aB:Option Addr}{cD cA cB:Nat}{d:List Int}{a b:List MA}
theorem beginR_x{number n:Int}(hn:-2^40≤n∧n≤2^40)(hd:RowAt v aD (d.map intV))(hdl:d.length<2^30)(ha:ActsAt v aA a)(hb:ActsAt v aB b)(hal:a.length<2^30)(hbl:b.length<2^30)(hcA:a.length≤cA)(hcB:b.length≤cB) :
  CallV prog mn 91 [moV P aD d.length cD,.slice aA a.length cA,.slice aB b.length cB,intV number,intV n] (fun x u=>LdAt u x (A4o P d a b (!decide (outZ number 0 (n-1))))) v:=by
 refine A3l tab func91 Y nB (args:=[_,_,_,_,_]) ?_
 repeat (first|refine st ?_|refine qb fun bx=>?_)
 refine Q_op fun ho=>A0t ho bod100 Y Y Y Y Y (laidR_x hd hdl ha hb hal hbl) ?_
 clear ho
 unfold A4o
 by_cases h1:layE P d a b=0
 ·rw [if_neg (by simpa using h1),h1]
  have hok:=layE_ok.1 h1
  repeat (first|refine st ?_|refine qb fun bx=>?_)
  refine Q_op fun ho=>A0t ho bod82 Y Y Y Y Y B3q ?_
  clear ho
  cases hk:decide (outZ number 0 (n-1))with
  | true=>
   repeat (first|refine st ?_|refine qb fun bx=>?_)
   refine A2l tab (by exact .tmp rfl (.tmp rfl .nil)) (Le.refl _) fun hb2 hle=>?_
   exact⟨_,Y,none,0,[],Y,.inl Y,.nil⟩
  | false=>
   rw [if_neg dM]
   repeat (first|refine st ?_|refine qb fun bx=>?_)
   refine Q_op fun ho=>A1r ho bod125 Y Y Y Y Y (bestsR_x hok hd ha hb hcA hcB) (fun x u hl hR=>?_)
   clear ho
   obtain⟨al,cl,rows,rfl,hrow,hrs⟩:=hR
   generalize A1q a b d=l at *
   by_cases hl0:l=[]
   ·subst hl0
    rw [if_pos rfl]
    repeat (first|refine st ?_|refine qb fun bx=>?_)
    refine A2l tab (by exact .tmp rfl (.tmp rfl .nil)) hl fun hb2 hle=>?_
    exact⟨_,Y,none,0,[],Y,.inl Y,.nil⟩
   ·rw [if_neg hl0]
    have hll:l.length≠0:=fun e=>hl0 (List.length_eq_zero_iff.1 e)
    repeat (first|refine st ?_|refine qb fun bx=>?_)
    rw [show((l.length:Int)==0)=false from by rw [beq_eq_false_iff_ne];omega]
    repeat (first|refine st ?_|refine qb fun bx=>?_)
    refine A2l tab (by exact .tmp rfl (.tmp rfl .nil)) hl fun hb2 hle=>?_
    exact⟨_,Y,al,cl,rows,Y,hrow.le hle,hrs.le hle⟩
 ·rw [if_pos h1]
  repeat (first|refine st ?_|refine qb fun bx=>?_)
  rw [show(layE P d a b != 0)=true from by simpa using h1]
  repeat (first|refine st ?_|refine qb fun bx=>?_)
  refine A2l tab (by exact .tmp rfl (.tmp rfl .nil)) (Le.refl _) fun hb2 hle=>?_
  exact⟨_,Y,none,0,[],Y,.inl Y,.nil⟩
theorem joinR_x(hd:RowAt v aD (d.map intV))(hdl:d.length<2^30)(ha:ActsAt v aA a)(hb:ActsAt v aB b)(hal:a.length<2^30)(hbl:b.length<2^30)(hcA:a.length≤cA)(hcB:b.length≤cB) :
  CallV prog mn 35 [moV P aD d.length cD,.slice aA a.length cA,.slice aB b.length cB] (fun x u=>JoinAt u x (joinR P d a b)) v:=by
 refine A3l tab func35 Y nB (args:=[_,_,_]) ?_
 repeat (first|refine st ?_|refine qb fun bx=>?_)
 refine Q_op fun ho=>A1r ho bod91 Y Y Y Y Y (beginR_x (number:=0) (n:=1) dM hd hdl ha hb hal hbl hcA hcB) (fun x u hl hR=>?_)
 clear ho
 obtain⟨y,rfl,ax,cap,ys,rfl,hrow,hrows⟩:=hR
 rw [show(!decide (outZ 0 0 (1-1)))=true from rfl]at hrows⊢
 unfold joinR
 generalize hr:A4o P d a b true=r at *
 obtain⟨e,k,ws⟩:=r
 dsimp only at hrow hrows⊢
 by_cases h:e=0
 ·subst h
  obtain⟨h1,_,h2,h3⟩:=A9j (by rw [hr])
  rw [hr]at h3
  injection h3 with _ h3
  injection h3 with h4 h5
  subst h4
  have hwne:ws≠[]:=by rw [h5];exact h2
  obtain⟨w,ws',rfl⟩:=List.exists_cons_of_ne_nil hwne
  clear h5 hr
  obtain⟨bb,off,p,c,e,f,am,cm,ab,cb,ad,cd,rfl,hv,hc,hc0,hc1,hc2,hm,hbk2,hdk⟩:=B3v hrow hrows (i:=0) (Nat.succ_pos _)
  repeat (first|refine st ?_|refine qb fun bx=>?_)
  refine A1l tab 0 Y Y Y Y Y Y Y sM ?_
  repeat (first|refine st ?_|refine qb fun bx=>?_)
  refine A4s tab Y Y Y hv (A0j tab Y Y Y hc1) ?_
  repeat (first|refine st ?_|refine qb fun bx=>?_)
  refine A1l tab 0 Y Y Y Y Y Y Y sM ?_
  repeat (first|refine st ?_|refine qb fun bx=>?_)
  refine A4s tab Y Y Y hv (A0j tab Y Y Y hc0) ?_
  repeat (first|refine st ?_|refine qb fun bx=>?_)
  refine A2l tab (by exact .tmp rfl (.tmp rfl (.tmp rfl .nil))) hl fun hb2 hle=>?_
  exact⟨ab,cb,am,cm,Y,ActsAt.le hbk2 hle,RowAt.le hm hle⟩
 ·repeat (first|refine st ?_|refine qb fun bx=>?_)
  rw [show(e != 0)=true from by simpa using h]
  repeat (first|refine st ?_|refine qb fun bx=>?_)
  refine A2l tab (by exact .tmp rfl (.tmp rfl (.tmp rfl .nil))) hl fun hb2 hle=>?_
  rw [if_pos h]
  exact⟨none,0,none,0,Y,.inl Y,.inl Y⟩
theorem countR_x(hd:RowAt v aD (d.map intV))(hdl:d.length<2^30)(ha:ActsAt v aA a)(hb:ActsAt v aB b)(hal:a.length<2^30)(hbl:b.length<2^30)(hcA:a.length≤cA)(hcB:b.length≤cB) :
  Ret1 prog mn 37 [moV P aD d.length cD,.slice aA a.length cA,.slice aB b.length cB] (.tuple (List.toArray [natV (B2z P d a b).1,natV (B2z P d a b).2.1,intV (B2z P d a b).2.2])) v:=by
 refine A0d tab func37 Y nB (args:=[_,_,_]) ?_
 repeat (first|refine st ?_|refine qb fun bx=>?_)
 refine Q_op fun ho=>A1r ho bod91 Y Y Y Y Y (beginR_x (number:=0) (n:=1) dM hd hdl ha hb hal hbl hcA hcB) (fun x u hl hR=>?_)
 clear ho
 obtain⟨y,rfl,ax,cap,ys,rfl,hrow,hrows⟩:=hR
 rw [show(!decide (outZ 0 0 (1-1)))=true from rfl]at hrows⊢
 unfold B2z
 generalize hr:A4o P d a b true=r at *
 obtain⟨e,k,ws⟩:=r
 dsimp only at hrow hrows⊢
 by_cases h:e=0
 ·subst h
  obtain⟨h1,_,h2,h3⟩:=A9j (by rw [hr])
  rw [hr]at h3
  injection h3 with _ h3
  injection h3 with h4 h5
  have hwne:ws≠[]:=by rw [h5];exact h2
  obtain⟨w,ws',rfl⟩:=List.exists_cons_of_ne_nil hwne
  obtain rfl:=laidR_head hr
  clear h5 hr h4
  obtain⟨bb,off,p,c,e,f,am,cm,ab,cb,ad,cd,rfl,hv,hc,hc0,hc1,hc2,hm,hbk2,hdk⟩:=B3v hrow hrows (i:=0) (Nat.succ_pos _)
  repeat (first|refine st ?_|refine qb fun bx=>?_)
  refine A1l tab 0 Y Y Y Y Y Y Y sM ?_
  repeat (first|refine st ?_|refine qb fun bx=>?_)
  refine A4s tab Y Y Y hv (A0j tab Y Y Y hc1) ?_
  repeat (first|refine st ?_|refine qb fun bx=>?_)
  refine A0g tab [] (by exact .tmp rfl (.tmp rfl (.tmp rfl .nil))) (Back.le hl cntL) ?_
  exact⟨Y,Y⟩
 ·obtain⟨e1,e2⟩:=laidR_err (P:=P) (d:=d) (a:=a) (b:=b) (kn:=true) (by rw [hr];exact h)
  rw [hr]at e1 e2
  dsimp only at e1 e2
  subst e1 e2
  repeat (first|refine st ?_|refine qb fun bx=>?_)
  rw [show(e != 0)=true from by simpa using h]
  repeat (first|refine st ?_|refine qb fun bx=>?_)
  refine A0g tab [] (by exact .tmp rfl (.tmp rfl (.tmp rfl .nil))) (Back.le hl cntL) ?_
  exact⟨Y,Y⟩
theorem sameMorns_x{aE:Option Addr}{cE:Nat}(hd:RowAt v aD (d.map intV))(he:RowAt v aE (d.map intV))(hdl:d.length<2^30) :
  Ret1 prog mn 24 [moV P aD d.length cD,moV P aE d.length cE] (.bool true) v:=by
 refine A0d tab func24 Y nB (args:=[_,_]) ?_
 repeat (first|refine st ?_|refine qb fun bx=>?_)
 rw [show(P==P)=true from beq_self_eq_true P]
 repeat (first|refine st ?_|refine qb fun bx=>?_)
 refine Q_op fun ho=>A0t ho bod39 Y Y Y Y Y (A6h (B0h (cA:=_) (cB:=_) hd he oM oM)) ?_
 clear ho
 repeat (first|refine st ?_|refine qb fun bx=>?_)
 refine A0g tab [] (by exact .tmp rfl .nil) (Back.here cntL) ?_
 exact⟨Y,Y⟩
def longB(n a b:Nat):Bool:=decide (n > 20)||decide (a > 20)||decide (b > 20)
theorem long_x{n na nb:Nat}:Ret1 prog mn 31 [moV P aD n cD,.slice aA na cA,.slice aB nb cB] (.bool (longB n na nb)) v:=by
 refine A0d tab func31 Y nB (args:=[_,_,_]) ?_
 repeat (first|refine st ?_|refine qb fun bx=>?_)
 unfold longB
 by_cases h1:n > 20
 ·rw [show decide ((n:Int) > 20)=true from decide_eq_true oM,decide_eq_true h1]
  repeat (first|refine st ?_|refine qb fun bx=>?_)
  refine A0g tab [] (by exact .tmp rfl .nil) (Back.here cntL) ?_
  exact⟨Y,Y⟩
 rw [show decide ((n:Int) > 20)=false from decide_eq_false oM,decide_eq_false h1]
 repeat (first|refine st ?_|refine qb fun bx=>?_)
 by_cases h2:na > 20
 ·rw [show decide ((na:Int) > 20)=true from decide_eq_true oM,decide_eq_true h2]
  repeat (first|refine st ?_|refine qb fun bx=>?_)
  refine A0g tab [] (by exact .tmp rfl .nil) (Back.here cntL) ?_
  exact⟨Y,Y⟩
 rw [show decide ((na:Int) > 20)=false from decide_eq_false oM,decide_eq_false h2]
 repeat (first|refine st ?_|refine qb fun bx=>?_)
 refine A0g tab [] (by exact .tmp rfl .nil) (Back.here cntL) ?_
 refine⟨?_,Y⟩
 by_cases h3:nb > 20
 ·rw [decide_eq_true h3];exact congrArg Value.bool (decide_eq_true oM)
 ·rw [decide_eq_false h3];exact congrArg Value.bool (decide_eq_false oM)
end
def mkS(e:TypeId)(k:Nat)(x:Value)(β:A0f)(cs:List Value):Prop:=∃b c,x = .slice (some ⟨b,0,none⟩) 3 3∧β=[(b,c,e)]∧OwnS e k [(b,c,e)] (some ⟨b,0,none⟩) 3 3 cs
def spS(m1 m2 p1 p2 q1 q2:Value)(ys:List MA)(x:MA):Nat→Value→A0f→Prop
 | 3,y,β|16,y,β=>mkS 24 2 y β (m1.cells.toList++(m2.cells.toList++m2.cells.toList))
 | 7,y,β|17,y,β=>mkS 42 1 y β [p1,p2,p2]
 | 11,y,β=>OwnI 26 4 y β ys.length (ys.map MA.cells).flatten
 | 13,y,β=>OwnI 26 4 y β 1 x.cells
 | 14,y,β=>OwnI 26 4 y β (ys.length+1) ((ys.map MA.cells).flatten++x.cells)
 | _,y,β=>∃b c a cap seg,y = .slice (some ⟨b,0,none⟩) 3 3∧β=(b,c,42)::seg∧OwnS 42 1 [(b,c,42)] (some ⟨b,0,none⟩) 3 3 [q1,q2,.slice a (ys.length+1) cap]∧OwnS 26 4 seg a (ys.length+1) cap ((ys.map MA.cells).flatten++x.cells)
def preS:Nat→List Nat|14=>[11,13]|15=>[14]|16=>[3]|17=>[7]|18=>[15]|_=>[]
def dstS(i:Nat):Nat:=bif Nat.blt i 16 then i+24 else i-6
section
variable{mn:Who}{v:View}
theorem several_x{P:Int}{aD aP aQ a0:Option Addr}{nD cD nP cP nQ cQ bg cap0:Nat}{ns:List Int}{x:MA}{β:A0f}(hns:RowAt v a0 (ns.map (.int .i64)))(hB:(Bg.mk bg a0 cap0 ns).at 0 β) :
  CallsB prog mn 32 #[moV P aD nD cD,.slice aP nP cP,.slice aQ nQ cQ,x.val,(Bg.mk bg a0 cap0 ns).ptr] (RetB fun r β'=>∃(b1 b2 b3:Nat) (c1 c2 c3:Array Value) (M:Int) (dw:List Int) (aw:Option Addr) (cw:Nat) (xs ys:List MA) (ax ay az:Option Addr) (cx cy cz:Nat) (segM segX segY segZ:A0f),
   r = .tuple (List.toArray [.slice (some ⟨b1,0,none⟩) 3 3,.slice (some ⟨b2,0,none⟩) 3 3,.slice (some ⟨b3,0,none⟩) 3 3])∧β'=(b1,c1,24)::(b2,c2,42)::(b3,c3,42)::(segM++(segX++(segY++segZ)))∧
   OwnS 24 2 [(b1,c1,24)] (some ⟨b1,0,none⟩) 3 3 [intV P,.slice aD nD cD,intV M,.slice aw dw.length cw,intV M,.slice aw dw.length cw]∧
   OwnS 42 1 [(b2,c2,42)] (some ⟨b2,0,none⟩) 3 3 [.slice aP nP cP,.slice ax xs.length cx,.slice ax xs.length cx]∧
   OwnS 42 1 [(b3,c3,42)] (some ⟨b3,0,none⟩) 3 3 [.slice aQ nQ cQ,.slice ay ys.length cy,.slice az (ys.length+1) cz]∧
   OwnS 3 1 segM aw dw.length cw (dw.map intV)∧OwnS 26 4 segX ax xs.length cx (xs.map MA.cells).flatten∧OwnS 26 4 segY ay ys.length cy (ys.map MA.cells).flatten∧OwnS 26 4 segZ az (ys.length+1) cz ((ys++[x]).map MA.cells).flatten∧
   MOk M dw∧xs.length≤4∧ys.length≤4∧(∀x∈xs,Ok M dw.length x)∧∀x∈ys,Ok M dw.length x) β v:=by
 refine A0d tab func32 Y nB (args:=[_,_,_,_,_]) ?_
 repeat (first|refine st ?_|refine qb fun bx=>?_)
 rename_i b5
 obtain⟨b8,rfl⟩:∃x:Nat,x=bx:=⟨bx,rfl⟩
 refine Q_op fun ho=>A0k β [(b8,x.val.cells,26),(b5,(moV P aD nD cD).cells,24)] ho bod19 Y Y Y Y Y cntA (mornOf_z (RowAt.le hns (A0e _ _)) hB dM) (fun x β' hR=>?_)
 clear ho
 obtain⟨M,dw,aw,cw,n1,βb,segM,rfl,rfl,hB1,hn1,hS,hM,hP2⟩:=hR
 repeat (first|refine st ?_|refine qb fun bx=>?_)
 obtain⟨b13,rfl⟩:∃x:Nat,x=bx:=⟨bx,rfl⟩
 rw [putV_mo]
 refine Q_op fun ho=>A_bok fun hbk=>A0k βb ((b13,(moV M aw dw.length cw).cells,24)::(segM++[(b8,x.val.cells,26),(b5,(moV P aD nD cD).cells,24)])) ho bod44 Y Y Y Y Y cntA (twoOf_z (g:=Bg.mk bg a0 cap0 ns) (N:=4) (RowAt.le hns (A0e _ _)) hB1 oM (row_rest (bin:=βb) hbk cntA hS cntL) hM hP2 dM) (fun x β' hR=>?_)
 clear ho
 obtain⟨xs,ys,ax,ay,cx,cy,n2,βb2,segX,segY,rfl,rfl,hB2,hn2,hSx,hSy,hx4,hy4,hxa,hya⟩:=hR
 repeat (first|refine st ?_|refine qb fun bx=>?_)
 refine A1d [3,7,11,13,14,15,16,17,18] [0,1,2,4,5,6,8,9,10,12,3,7,11,13,14,15,16,17,18] A1f Y kR ?_
 repeat (first|refine st ?_|refine qb fun bx=>?_)
 refine XS_by (ρ':=[(24,moV P aD nD cD),(25,moV M aw dw.length cw),(26,moV M aw dw.length cw),(28,.slice aP nP cP),(29,.slice ax xs.length cx),(30,.slice ax xs.length cx),(32,.slice aQ nQ cQ),(33,.slice ay ys.length cy),(34,.slice ay ys.length cy),(36,x.val)]) (β':=(βb2++(segX++segY))++((b13,(moV M aw dw.length cw).cells,24)::(segM++[(b8,x.val.cells,26),(b5,(moV P aD nD cD).cells,24)]))) ?_ Y Y (SubR.get rg) (fun _=>Nat.le_refl _)
 refine S_tree (Sp:=spS (moV P aD nD cD) (moV M aw dw.length cw) (.slice aP nP cP) (.slice ax xs.length cx) (.slice aQ nQ cQ) (.slice ay ys.length cy) ys x) (pre:=preS) [3,7,11,13,14,15,16,17,18] dstS dM dM (fun i hi=>?_) dM dM (fun i hi=>?_) (by repeat (first|exact trivial|(refine⟨?_,?_⟩;focus exact ib))) kR (fun j hj c hc u' hu'=>?_) (fun c hc hz=>?_)
 ·simp only [List.mem_cons,List.not_mem_nil,or_false]at hi
  rcases hi with rfl|rfl|rfl|rfl|rfl|rfl|rfl|rfl|rfl<;>rfl
 ·simp only [List.mem_cons,List.not_mem_nil,or_false]at hi
  rcases hi with rfl|rfl|rfl|rfl|rfl|rfl|rfl|rfl|rfl<;>exact⟨fun o ho=>by cases ho;rfl,rfl⟩
 ·simp only [List.mem_cons,List.not_mem_nil,or_false]at hj
  rcases hj with rfl|rfl|rfl|rfl|rfl|rfl|rfl|rfl|rfl
  ·exact A3i tab Y Y Y Y Y Y Y Y Y Y (fun b c hL=>⟨Y,_,_,⟨_,_,Y,Y,hL⟩,Y⟩)
  ·exact A3i tab Y Y Y Y Y Y Y Y Y Y (fun b c hL=>⟨Y,_,_,⟨_,_,Y,Y,hL⟩,Y⟩)
  ·exact A_bok fun hbk=>A0k [] _ Y bod33 Y Y Y Y Y A6z (ownActs_x (RowAt.own hbk (show Subm segY ((βb2++(segX++segY))++((b13,(moV M aw dw.length cw).cells,24)::(segM++[(b8,x.val.cells,26),(b5,(moV P aD nD cD).cells,24)])))from cntL) hSy) oM) (fun y β' hR=>⟨Y,_,_,hR,Y⟩)
  ·exact A3i tab Y Y Y Y Y Y Y Y Y Y (fun b c hL=>⟨Y,_,_,⟨_,_,Y,hL⟩,Y⟩)
  ·obtain⟨a0,c0,h1,hL⟩:=hc 11 dM
   obtain⟨a1,c1,h2,hL2⟩:=hc 13 dM
   simp only [show preS 14=[11,13]from Y,netR,netβ,h1,h2]
   exact A2r tab (xs:=x.cells) (c 11).2 (c 13).2 _ Y Y Y Y Y Y Y Y Y Y Y cntA hL (fun hb=>RowAt.own hb cntL hL2) Y Y oM oM (fun sg a1 c1 hS=>⟨Y,_,_,⟨_,_,Y,hS⟩,Y⟩)
  ·obtain⟨a0,c0,h1,hL⟩:=hc 14 dM
   simp only [show preS 15=[14]from Y,netR,netβ,h1]
   exact A3i tab Y Y Y Y Y Y Y Y Y Y (fun b c' hL'=>⟨Y,_,(b,c',42)::(c 14).2,⟨_,_,_,_,_,Y,Y,hL',hL⟩,Y⟩)
  ·have h:=hc 3 dM
   obtain⟨b,c0,h1,h2,hL⟩:=id h
   simp only [show preS 16=[3]from Y,netR,netβ,h1]
   exact A_mk tab Y Y Y Y ⟨Y,_,(c 3).2,⟨b,c0,Y,h2,hL⟩,Y⟩
  ·have h:=hc 7 dM
   obtain⟨b,c0,h1,h2,hL⟩:=id h
   simp only [show preS 17=[7]from Y,netR,netβ,h1]
   exact A_mk tab Y Y Y Y ⟨Y,_,(c 7).2,⟨b,c0,Y,h2,hL⟩,Y⟩
  ·have h:=hc 15 dM
   obtain⟨b,c0,a,cap,seg,h1,h2,hL,hL2⟩:=id h
   simp only [show preS 18=[15]from Y,netR,netβ,h1]
   exact A_mk tab Y Y Y Y ⟨Y,_,(c 15).2,⟨b,c0,a,cap,seg,Y,h2,hL,hL2⟩,Y⟩
 obtain⟨b1,c1,e1,f1,hL1⟩:=hc 16 dM dM
 obtain⟨b2,c2,e2,f2,hL2⟩:=hc 17 dM dM
 obtain⟨b3,c3,az,cz,segZ,e3,f3,hL3,hSz⟩:=hc 18 dM dM
 simp only [netR,netβ,e1,e2,e3,f1,f2,f3,hz 3 dM dM,hz 7 dM dM,hz 11 dM dM,hz 13 dM dM,hz 14 dM dM,hz 15 dM dM,List.nil_append]
 clear hc hz e1 e2 e3 f1 f2 f3
 repeat (first|refine st ?_|refine qb fun bx=>?_)
 refine A0g tab ((b1,c1,24)::(b2,c2,42)::(b3,c3,42)::(segM++(segX++(segY++segZ)))) (by exact .tmp rfl (.tmp rfl (.tmp rfl .nil))) (Back.here cntL) ?_
 refine⟨b1,b2,b3,c1,c2,c3,M,dw,aw,cw,xs,ys,ax,ay,az,cx,cy,cz,segM,segX,segY,segZ,Y,Y,hL1,hL2,hL3,hS,hSx,hSy,?_,hM,hx4,hy4,hxa,hya⟩
 rw [List.map_append,List.flatten_append]
 simpa using hSz
end
end Go.Proofs.YtclejblcnfaeaaaGreat
end
