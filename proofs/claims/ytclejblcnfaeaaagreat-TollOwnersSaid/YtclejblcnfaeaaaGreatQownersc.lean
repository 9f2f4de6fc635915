/- Part 45. -/
import Derived.Test.YtclejblcnfaeaaaGreatQownersb
set_option linter.all false
section
namespace Go.Pal.To
def minL(n:Nat)(l:List Wy):Nat:=l.foldl (fun m w=>min m w.book.length) n
theorem minL_snoc(n:Nat)(l:List Wy)(w:Wy):minL n (l++[w])=min (minL n l) w.book.length:=by unfold minL;rw [List.foldl_append];rfl
theorem minL_le(l:List Wy):∀n,minL n l≤n∧∀w∈l,minL n l≤w.book.length:=by
 induction l with
 | nil=>exact fun n=>⟨Nat.le_refl _,fun w hw=>by cases hw⟩
 | cons x l ih=>
  intro n
  obtain⟨h1,h2⟩:=ih (min n x.book.length)
  refine⟨Nat.le_trans h1 (Nat.min_le_left _ _),fun w hw=>?_⟩
  rcases List.mem_cons.1 hw with rfl|hw
  ·exact Nat.le_trans h1 (Nat.min_le_right _ _)
  ·exact h2 w hw
theorem minL_at(l:List Wy):∀n,minL n l=n∨∃w∈l,minL n l=w.book.length:=by
 induction l with
 | nil=>exact fun n=>.inl rfl
 | cons x l ih=>
  intro n
  rcases ih (min n x.book.length)with h|⟨w,hw,h⟩
  ·by_cases h2:n≤x.book.length
   ·exact .inl (h.trans (Nat.min_eq_left h2))
   ·exact .inr ⟨x,List.mem_cons_self ..,h.trans (Nat.min_eq_right oM)⟩
  ·exact .inr ⟨w,List.mem_cons_of_mem _ hw,h⟩
end Go.Pal.To
namespace Go.Pal.To
theorem B3h{a b:List MA}{d:List Int}{w:Wy}(h:w∈ways a b ⟨[],[],d⟩):w.marks.length=w.book.length∧w.book.length≤a.length+b.length:=by
 obtain⟨ms,bk,dk,hW,rfl⟩:=mem_ways0.1 h
 have h1:=hW.book_len
 refine⟨by simpa [wyOf]using h1,?_⟩
 have:∀{a b:List MA} {os dk:List Int} {ms:List Nat} {bk:List MA},W a b os ms bk dk→bk.length≤a.length+b.length:=by
  intro a b os dk ms bk h
  induction h with
  | nil=>simp
  | step _ hs _ _ ih=>
   have:=A4u hs
   simp only [List.length_cons]
   omega
 exact this hW
theorem bests_minL(a b:List MA)(d:List Int):(ways a b ⟨[],[],d⟩).filter (fun w=>w.book.length==minL (a.length+b.length) (ways a b ⟨[],[],d⟩))=A6k a b d:=by
 unfold A6k
 have hb:=fun w (hw:w∈ways a b ⟨[],[],d⟩)=>B3h hw
 generalize ways a b ⟨[],[],d⟩=l at hb⊢
 by_cases hl:l=[]
 ·subst hl;rfl
 obtain⟨h1,h2,h3⟩:=A6a hl
 obtain⟨u,hu⟩:=List.exists_mem_of_ne_nil _ h1
 obtain⟨hu1,hu2⟩:=A9v hu
 have hm:minL (a.length+b.length) l=(A1n l).1:=by
  obtain⟨k1,k2⟩:=minL_le l (a.length+b.length)
  have k3:=k2 u hu1
  have e:=hb u hu1
  unfold lenW at hu2 h2
  rcases minL_at l (a.length+b.length)with h|⟨w,hw,h⟩
  ·omega
  ·have:=h2 w hw
   have:=hb w hw
   omega
 rw [h3,hm]
 refine List.filter_congr fun w hw=>?_
 rw [←(hb w hw).1];rfl
end Go.Pal.To
namespace Go.Proofs.YtclejblcnfaeaaaGreat
open Go Go.Pal Go.Pal.To Go.Conc View
open Go.Proofs.Tryz
set_option maxHeartbeats 4000000
set_option maxRecDepth 20000
theorem rws_get{v:View}:∀{ys:List (List Value)} {ws:List Wy},RwsAt v ys ws→∀{i:Nat} (hi:i<ws.length),∃y,ys[i]?=some y∧RwAt v y ws[i]
 | _,_,.cons h r,0,_=>⟨_,rfl,h⟩
 | _,_,.cons h r,i+1,hi=>rws_get r (i:=i) (by simpa using hi)
theorem rws_three{v:View}:∀{ys:List (List Value)} {ws:List Wy},RwsAt v ys ws→ys.length=ws.length∧∀y∈ys,y.length=3
 | _,_,.nil=>⟨rfl,fun y hy=>by cases hy⟩
 | _,_,.cons h r=>by
  obtain⟨h1,h2⟩:=rws_three r
  refine⟨by simp [h1],fun y hy=>?_⟩
  rcases List.mem_cons.1 hy with rfl|hy
  ·obtain⟨am,cm,ab,cb,ad,cd,rfl,_⟩:=h;rfl
  ·exact h2 y hy
theorem rws_read{v:View}{al:Option Addr}{rows:List (List Value)}{ws:List Wy}(hrow:RowAt v al rows.flatten)(hrs:RwsAt v rows ws){i:Nat}(hi:i<ws.length) :
  ∃ b off p c e f am cm ab cb ad cd,al=some ⟨b,off,none⟩∧v b=some (p,.cells c e f)∧(off+i*3+3≤c.size∧c.extract (off+i*3) (off+i*3+3)=(rwC am ws[i].marks.length cm ab ws[i].book.length cb ad ws[i].dusk.length cd).toArray)∧
   c[off+i*3+0]?=some (.slice am ws[i].marks.length cm)∧c[off+i*3+1]?=some (.slice ab ws[i].book.length cb)∧c[off+i*3+2]?=some (.slice ad ws[i].dusk.length cd)∧RowAt v am (ws[i].marks.map intV)∧ActsAt v ab ws[i].book∧RowAt v ad (ws[i].dusk.map intV):=by
 obtain⟨h1,h2⟩:=rws_three hrs
 obtain⟨y,hy,am,cm,ab,cb,ad,cd,rfl,hm,hb,hd⟩:=rws_get hrs hi
 obtain⟨b,off,p,c,e,f,h3,h4,h5⟩:=RowAt.recs (k:=3) hrow h2 dM (i:=i) oM
 obtain⟨h6,h7⟩:=h5 i oM
 rw [show rows[i]' oM=rwC am ws[i].marks.length cm ab ws[i].book.length cb ad ws[i].dusk.length cd from by
  have:=List.getElem?_eq_getElem (l:=rows) (i:=i) oM
  rw [this]at hy
  exact Option.some.inj hy]at h7
 have hc:∀j,j<3→c[off+i*3+j]?=(rwC am ws[i].marks.length cm ab ws[i].book.length cb ad ws[i].dusk.length cd)[j]?:=fun j hj=>by
  have h8:=congrArg (fun x:Array Value=>x[j]?) h7
  simp only [Array.getElem?_extract]at h8
  rw [if_pos oM]at h8
  rw [h8];simp
 exact⟨b,off,p,c,e,f,am,cm,ab,cb,ad,cd,h3,h4,⟨h6,h7⟩,hc 0 dM,hc 1 dM,hc 2 dM,hm,hb,hd⟩
def BwAt(u:View)(x:Value)(l:List Wy):Prop:=∃a cap rows,x = .slice a l.length cap∧RowAt u a rows.flatten∧RwsAt u rows l
structure BeS where
 i:Nat
 a:Option Addr
 cap:Nat
 sg:A0e
 rows:List (List Value)
section
variable{v:View}{mn:Who}{P:Int}{aD aA aB:Option Addr}{cD cA cB:Nat}{d:List Int}{a b:List MA}
theorem bestsR_x(hL:LOk P d a b)(hd:RowAt v aD (d.map intV))(ha:ActsAt v aA a)(hb:ActsAt v aB b)(hcA:a.length≤cA)(hcB:b.length≤cB) :
  A6l prog mn 125 [moV P aD d.length cD,.slice aA a.length cA,.slice aB b.length cB] (fun x u=>BwAt u x (A6k a b d)) v:=by
 have hla:=hL.la
 have hlb:=hL.lb
 have hdl:=hL.m.len
 have hka:∀x∈a,x.k=0→0≤x.h∧x.h<(d.length:Int):=fun x hx _=>(hL.a x hx).h
 have hkb:∀x∈b,x.k=0→0≤x.h∧x.h<(d.length:Int):=fun x hx _=>(hL.b x hx).h
 rw [←bests_minL]
 have hcnt:=A9d (a:=a) (b:=b) (w:=⟨[],[],d⟩) (n:=8) oM
 rw [show(3:Nat)^8=6561 from rfl]at hcnt
 have hbk:=fun w (hw:w∈To.ways a b ⟨[],[],d⟩)=>(B3h hw).2
 refine A3k tab func125 Y nB (args:=[_,_,_]) ?_
 refine sw fun bx=>?_
 refine Q_op fun ho=>A0o [] [(bx,(moV P aD d.length cD).cells,24)] ho bod102 Y Y Y Y Y A7s (waysR_x 8 (a:=a) (b:=b) (w:=⟨[],[],d⟩) (y:=rwC none 0 0 none 0 0 aD d.length cD) oM (Nat.le_refl _) (ha.le (A0g _ _)) (hb.le (A0g _ _)) hcA hcB ⟨none,0,none,0,aD,cD,Y,.inl Y,.inl Y,hd.le (A0g _ _)⟩ hka hkb (by show 0+8≤100;decide) (by show 0+8≤100;decide) (by show d.length<2^20;omega)) (fun x β' hR=>?_)
 clear ho
 obtain⟨al,cl,segO,segR,rows,rfl,rfl,hO,hon,hR⟩:=hR
 generalize To.ways a b ⟨[],[],d⟩=l at *
 refine A8x (β1:=segO++segR) (β2:=[(bx,(moV P aD d.length cD).cells,24)]) cntA (fun hbk1=>?_)
 have rL:=RowAt.own hbk1 (by exact cntL) hO
 have hrs:RwsAt (v.union (A0c (segO++segR))) rows l:=by
  rw [A0v hbk1]
  exact(hR v ⟨none,0,none,0,aD,cD,Y,.inl Y,.inl Y,hd⟩ (bok_append.1 hbk1).1).le (A0g _ _)
 have hv1:=A0g v (A0c (segO++segR))
 generalize v.union (A0c (segO++segR))=v1 at *
 clear hbk1 hR hO
 refine su ?_
 refine A1q (α:=Nat) (fun i=>⟨[],[(9,.int .i64 i),(8,natV (minL (a.length+b.length) (l.take i))),(7,.slice al l.length cl)],[]⟩)
  (fun i u=>u=v1∧i≤l.length) (fun i=>l.length-i) 0 ⟨Y,rg,cntL⟩ (Le.refl _) ⟨Y,Nat.zero_le _⟩ ?_
 rintro i u ⟨rfl,hi⟩
 refine su ?_
 refine A1i Y (fun h=>?_) (fun h=>?_)
 ·replace h:=fa h
  have hlt:i<l.length:=oM
  obtain⟨bb,off,p,c,e,f,am,cm,ab,cb,ad,cd,rfl,hv,hc,hc0,hc1,hc2,hm,hbk2,hdk⟩:=rws_read rL hrs hlt
  refine su ?_
  refine A6d tab i Y Y Y Y Y Y Y hlt ?_
  refine su ?_
  refine A2b tab Y Y Y hv (A0l tab Y Y Y hc1) ?_
  refine su ?_
  have hmn:(if((l[i].book.length:Nat):Int)<((minL (a.length+b.length) (l.take i):Nat):Int)then((l[i].book.length:Nat):Int)else((minL (a.length+b.length) (l.take i):Nat):Int))=((minL (a.length+b.length) (l.take (i+1)):Nat):Int):=by
   rw [List.take_succ_eq_append_getElem hlt,minL_snoc]
   split<;>omega
  rw [hmn]
  exact A0b ⟨i+1,u,oM,⟨Y,rg,cntL⟩,Le.refl _,Y,hlt⟩
 ·replace h:=fa h
  have hin:i=l.length:=oM
  rw [hin,List.take_length]
  generalize minL (a.length+b.length) l=M
  refine su ?_
  refine A1q (α:=BeS) (fun z=>⟨[],[(11,.int .i64 z.i),(10,.slice z.a ((l.take z.i).filter fun w=>w.book.length==M).length z.cap),(8,natV M),(7,.slice al l.length cl)],z.sg⟩)
   (fun z w=>w=u∧z.i≤l.length∧OwnS 131 3 z.sg z.a ((l.take z.i).filter fun w=>w.book.length==M).length z.cap z.rows.flatten∧RwsAt u z.rows ((l.take z.i).filter fun w=>w.book.length==M)) (fun z=>l.length-z.i) ⟨0,none,0,[],[]⟩ ⟨Y,rg,cntL⟩ (Le.refl _) ⟨Y,Nat.zero_le _,.nil,.nil⟩ ?_
  clear hi h hin i
  rintro⟨i,ao,co,sg,rows2⟩ w ⟨rfl,hi,hO,hR⟩
  dsimp only at hi hO hR⊢
  refine su ?_
  refine A1i Y (fun h=>?_) (fun h=>?_)
  ·replace h:=fa h
   have hlt:i<l.length:=oM
   obtain⟨bb,off,p,c,e,f,am,cm,ab,cb,ad,cd,rfl,hv,hc,hc0,hc1,hc2,hm,hbk2,hdk⟩:=rws_read rL hrs hlt
   have htk:=List.take_succ_eq_append_getElem hlt
   have hfl:((l.take i).filter fun w=>w.book.length==M).length≤6561:=Nat.le_trans (List.length_filter_le _ _) (by rw [List.length_take];omega)
   refine su ?_
   refine A6d tab i Y Y Y Y Y Y Y hlt ?_
   refine su ?_
   refine A2b tab Y Y Y hv (A0l tab Y Y Y hc1) ?_
   refine su ?_
   by_cases hM:l[i].book.length=M
   ·rw [show(((l[i].book.length:Nat):Int)==((M:Nat):Int))=true from by rw [hM];exact beq_self_eq_true _]
    have hf:(l.take (i+1)).filter (fun w=>w.book.length==M)=(l.take i).filter (fun w=>w.book.length==M)++[l[i]]:=by
     rw [htk,List.filter_append]
     simp [hM]
    generalize l[i]=wi at *
    refine su ?_
    refine A6d tab i Y Y Y Y Y Y Y hlt ?_
    refine su ?_
    refine A2b tab Y Y Y hv (A1g tab Y Y Y hc) ?_
    refine su ?_
    refine Q_op fun ho=>A3w tab ho Y Y Y Y Y Y Y Y Y (fun b3 c3 hL3=>?_)
    clear ho
    refine Q_op fun ho=>A3x tab (xs:=rwC am wi.marks.length cm ab wi.book.length cb ad wi.dusk.length cd) sg [(b3,c3,131)] [] ho Y Y Y Y Y Y Y Y Y Y cntA hO
     (fun hb=>RowAt.own hb cntL hL3) Y Y oM oM (fun sg2 a2 cap2 hS2=>?_)
    clear ho
    refine su ?_
    refine A0b ⟨⟨i+1,a2,cap2,sg2,rows2++[rwC am wi.marks.length cm ab wi.book.length cb ad wi.dusk.length cd]⟩,w,by simp only;omega,⟨Y,?_,cntL⟩,Le.refl _,Y,hlt,?_,?_⟩
    ·simp only [hf,List.length_append]
     exact rg
    ·simp only [hf,List.length_append,List.flatten_append]
     exact hS2
    ·simp only [hf]
     exact RwsAt.app (.cons ⟨am,cm,ab,cb,ad,cd,Y,hm,hbk2,hdk⟩ .nil) hR
   ·rw [show(((l[i].book.length:Nat):Int)==((M:Nat):Int))=false from by rw [beq_eq_false_iff_ne];omega]
    have hf:(l.take (i+1)).filter (fun w=>w.book.length==M)=(l.take i).filter (fun w=>w.book.length==M):=by
     rw [htk,List.filter_append]
     simp [hM]
    refine su ?_
    refine A0b ⟨⟨i+1,ao,co,sg,rows2⟩,w,by simp only;omega,⟨Y,?_,cntL⟩,Le.refl _,Y,hlt,?_,?_⟩
    ·simp only [hf]
     exact rg
    ·simp only [hf];exact hO
    ·simp only [hf];exact hR
  ·replace h:=fa h
   have hin:i=l.length:=oM
   rw [hin,List.take_length]at hO hR⊢
   refine su ?_
   refine A2m tab (by exact .tmp rfl .nil) hv1 fun hb2 hle=>?_
   exact⟨ao,co,rows2,Y,RowAt.own hb2 cntL hO,hR.le hle⟩
end
end Go.Proofs.YtclejblcnfaeaaaGreat
end
section
namespace Go.Proofs.YtclejblcnfaeaaaGreat
open Go Go.Pal Go.Pal.To Go.Conc View
open Go.Proofs.Tryz
set_option maxHeartbeats 4000000
set_option maxRecDepth 20000
def LdAt(u:View)(x:Value)(r:Int×Nat×List Wy):Prop:=∃y,x = .tuple (List.toArray [y,intV r.1])∧BwAt u y r.2.2
section
variable{v:View}{mn:Who}{P:Int}{aD aA aB:Option Addr}{cD cA cB:Nat}{d:List Int}{a b:List MA}
theorem beginR_x{number n:Int}(hn:-2^40≤n∧n≤2^40)(hd:RowAt v aD (d.map intV))(hdl:d.length<2^30)(ha:ActsAt v aA a)(hb:ActsAt v aB b)(hal:a.length<2^30)(hbl:b.length<2^30)(hcA:a.length≤cA)(hcB:b.length≤cB) :
  A6l prog mn 91 [moV P aD d.length cD,.slice aA a.length cA,.slice aB b.length cB,intV number,intV n] (fun x u=>LdAt u x (A5y P d a b (!decide (outZ number 0 (n-1))))) v:=by
 refine A3k tab func91 Y nB (args:=[_,_,_,_,_]) ?_
 refine sw fun bx=>?_
 refine Q_op fun ho=>A0u ho bod100 Y Y Y Y Y (laidR_x hd hdl ha hb hal hbl) ?_
 clear ho
 unfold A5y
 by_cases h1:layE P d a b=0
 ·rw [if_neg (by simpa using h1),h1]
  have hok:=layE_ok.1 h1
  refine su ?_
  refine Q_op fun ho=>A0u ho bod82 Y Y Y Y Y B2q ?_
  clear ho
  cases hk:decide (outZ number 0 (n-1))with
  | true=>
   refine su ?_
   refine A2m tab (by exact .tmp rfl (.tmp rfl .nil)) (Le.refl _) fun hb2 hle=>?_
   exact⟨_,Y,none,0,[],Y,.inl Y,.nil⟩
  | false=>
   rw [if_neg dM]
   refine su ?_
   refine Q_op fun ho=>A1p ho bod125 Y Y Y Y Y (bestsR_x hok hd ha hb hcA hcB) (fun x u hl hR=>?_)
   clear ho
   obtain⟨al,cl,rows,rfl,hrow,hrs⟩:=hR
   generalize A6k a b d=l at *
   by_cases hl0:l=[]
   ·subst hl0
    rw [if_pos rfl]
    refine su ?_
    refine A2m tab (by exact .tmp rfl (.tmp rfl .nil)) hl fun hb2 hle=>?_
    exact⟨_,Y,none,0,[],Y,.inl Y,.nil⟩
   ·rw [if_neg hl0]
    have hll:l.length≠0:=fun e=>hl0 (List.length_eq_zero_iff.1 e)
    refine su ?_
    rw [show((l.length:Int)==0)=false from by rw [beq_eq_false_iff_ne];omega]
    refine su ?_
    refine A2m tab (by exact .tmp rfl (.tmp rfl .nil)) hl fun hb2 hle=>?_
    exact⟨_,Y,al,cl,rows,Y,hrow.le hle,hrs.le hle⟩
 ·rw [if_pos h1]
  refine su ?_
  rw [show(layE P d a b != 0)=true from by simpa using h1]
  refine su ?_
  refine A2m tab (by exact .tmp rfl (.tmp rfl .nil)) (Le.refl _) fun hb2 hle=>?_
  exact⟨_,Y,none,0,[],Y,.inl Y,.nil⟩
theorem sameMorns_x{aE:Option Addr}{cE:Nat}(hd:RowAt v aD (d.map intV))(he:RowAt v aE (d.map intV))(hdl:d.length<2^30) :
  Ret1 prog mn 24 [moV P aD d.length cD,moV P aE d.length cE] (.bool true) v:=by
 refine A0d tab func24 Y nB (args:=[_,_]) ?_
 refine sw fun bx=>?_;refine sw fun bx=>?_
 rw [show(P==P)=true from beq_self_eq_true P]
 refine su ?_
 refine Q_op fun ho=>A0u ho bod39 Y Y Y Y Y (A5v (A9n (cA:=_) (cB:=_) hd he oM oM)) ?_
 clear ho
 refine su ?_
 refine A0f tab [] (by exact .tmp rfl .nil) (Back.here cntL) ?_
 exact⟨Y,Y⟩
def longB(n a b:Nat):Bool:=decide (n > 20)||decide (a > 20)||decide (b > 20)
theorem long_x{n na nb:Nat}:Ret1 prog mn 31 [moV P aD n cD,.slice aA na cA,.slice aB nb cB] (.bool (longB n na nb)) v:=by
 refine A0d tab func31 Y nB (args:=[_,_,_]) ?_
 refine sw fun bx=>?_
 unfold longB
 by_cases h1:n > 20
 ·rw [show decide ((n:Int) > 20)=true from decide_eq_true oM,decide_eq_true h1]
  refine su ?_
  refine A0f tab [] (by exact .tmp rfl .nil) (Back.here cntL) ?_
  exact⟨Y,Y⟩
 rw [show decide ((n:Int) > 20)=false from decide_eq_false oM,decide_eq_false h1]
 refine su ?_
 by_cases h2:na > 20
 ·rw [show decide ((na:Int) > 20)=true from decide_eq_true oM,decide_eq_true h2]
  refine su ?_
  refine A0f tab [] (by exact .tmp rfl .nil) (Back.here cntL) ?_
  exact⟨Y,Y⟩
 rw [show decide ((na:Int) > 20)=false from decide_eq_false oM,decide_eq_false h2]
 refine su ?_
 refine A0f tab [] (by exact .tmp rfl .nil) (Back.here cntL) ?_
 refine⟨?_,Y⟩
 by_cases h3:nb > 20
 ·rw [decide_eq_true h3];exact congrArg Value.bool (decide_eq_true oM)
 ·rw [decide_eq_false h3];exact congrArg Value.bool (decide_eq_false oM)
end
def mkS(e:TypeId)(k:Nat)(x:Value)(β:A0e)(cs:List Value):Prop:=∃b c,x = .slice (some ⟨b,0,none⟩) 3 3∧β=[(b,c,e)]∧OwnS e k [(b,c,e)] (some ⟨b,0,none⟩) 3 3 cs
def spS(m1 m2 p1 p2 q1 q2:Value)(ys:List MA)(x:MA):Nat→Value→A0e→Prop
 | 3,y,β|16,y,β=>mkS 24 2 y β (m1.cells.toList++(m2.cells.toList++m2.cells.toList))
 | 7,y,β|17,y,β=>mkS 42 1 y β [p1,p2,p2]
 | 11,y,β=>OwnI 26 4 y β ys.length (ys.map MA.cells).flatten
 | 13,y,β=>OwnI 26 4 y β 1 x.cells
 | 14,y,β=>OwnI 26 4 y β (ys.length+1) ((ys.map MA.cells).flatten++x.cells)
 | _,y,β=>∃b c a cap seg,y = .slice (some ⟨b,0,none⟩) 3 3∧β=(b,c,42)::seg∧OwnS 42 1 [(b,c,42)] (some ⟨b,0,none⟩) 3 3 [q1,q2,.slice a (ys.length+1) cap]∧OwnS 26 4 seg a (ys.length+1) cap ((ys.map MA.cells).flatten++x.cells)
def preS:Nat→List Nat|14=>[11,13]|15=>[14]|16=>[3]|17=>[7]|18=>[15]|_=>[]
def dstS(i:Nat):Nat:=bif Nat.blt i 16 then i+24 else i-6
section
variable{mn:Who}{v:View}
theorem several_x{P:Int}{aD aP aQ a0:Option Addr}{nD cD nP cP nQ cQ bg cap0:Nat}{ns:List Int}{x:MA}{β:A0e}(hns:RowAt v a0 (ns.map (.int .i64)))(hB:(Bg.mk bg a0 cap0 ns).at 0 β) :
  CallsB prog mn 32 #[moV P aD nD cD,.slice aP nP cP,.slice aQ nQ cQ,x.val,(Bg.mk bg a0 cap0 ns).ptr] (RetB fun r β'=>∃(b1 b2 b3:Nat) (c1 c2 c3:Array Value) (M:Int) (dw:List Int) (aw:Option Addr) (cw:Nat) (xs ys:List MA) (ax ay az:Option Addr) (cx cy cz:Nat) (segM segX segY segZ:A0e),
   r = .tuple (List.toArray [.slice (some ⟨b1,0,none⟩) 3 3,.slice (some ⟨b2,0,none⟩) 3 3,.slice (some ⟨b3,0,none⟩) 3 3])∧β'=(b1,c1,24)::(b2,c2,42)::(b3,c3,42)::(segM++(segX++(segY++segZ)))∧
   OwnS 24 2 [(b1,c1,24)] (some ⟨b1,0,none⟩) 3 3 [intV P,.slice aD nD cD,intV M,.slice aw dw.length cw,intV M,.slice aw dw.length cw]∧
   OwnS 42 1 [(b2,c2,42)] (some ⟨b2,0,none⟩) 3 3 [.slice aP nP cP,.slice ax xs.length cx,.slice ax xs.length cx]∧
   OwnS 42 1 [(b3,c3,42)] (some ⟨b3,0,none⟩) 3 3 [.slice aQ nQ cQ,.slice ay ys.length cy,.slice az (ys.length+1) cz]∧
   OwnS 3 1 segM aw dw.length cw (dw.map intV)∧OwnS 26 4 segX ax xs.length cx (xs.map MA.cells).flatten∧OwnS 26 4 segY ay ys.length cy (ys.map MA.cells).flatten∧OwnS 26 4 segZ az (ys.length+1) cz ((ys++[x]).map MA.cells).flatten∧
   MOk M dw∧xs.length≤4∧ys.length≤4∧(∀x∈xs,Ok M dw.length x)∧∀x∈ys,Ok M dw.length x) β v:=by
 refine A0d tab func32 Y nB (args:=[_,_,_,_,_]) ?_
 refine sw fun bx=>?_;refine sw fun bx=>?_
 rename_i b5
 obtain⟨b8,rfl⟩:∃x:Nat,x=bx:=⟨bx,rfl⟩
 refine Q_op fun ho=>A0o β [(b8,x.val.cells,26),(b5,(moV P aD nD cD).cells,24)] ho bod19 Y Y Y Y Y cntA (mornOf_z (RowAt.le hns (A0g _ _)) hB dM) (fun x β' hR=>?_)
 clear ho
 obtain⟨M,dw,aw,cw,n1,βb,segM,rfl,rfl,hB1,hn1,hS,hM,hP2⟩:=hR
 refine sw fun bx=>?_
 obtain⟨b13,rfl⟩:∃x:Nat,x=bx:=⟨bx,rfl⟩
 rw [putV_mo]
 refine Q_op fun ho=>A_bok fun hbk=>A0o βb ((b13,(moV M aw dw.length cw).cells,24)::(segM++[(b8,x.val.cells,26),(b5,(moV P aD nD cD).cells,24)])) ho bod44 Y Y Y Y Y cntA (twoOf_z (g:=Bg.mk bg a0 cap0 ns) (N:=4) (RowAt.le hns (A0g _ _)) hB1 oM (row_rest (bin:=βb) hbk cntA hS cntL) hM hP2 dM) (fun x β' hR=>?_)
 clear ho
 obtain⟨xs,ys,ax,ay,cx,cy,n2,βb2,segX,segY,rfl,rfl,hB2,hn2,hSx,hSy,hx4,hy4,hxa,hya⟩:=hR
 refine su ?_
 refine A1d [3,7,11,13,14,15,16,17,18] [0,1,2,4,5,6,8,9,10,12,3,7,11,13,14,15,16,17,18] A1e Y kR ?_
 refine su ?_
 refine XS_by (ρ':=[(24,moV P aD nD cD),(25,moV M aw dw.length cw),(26,moV M aw dw.length cw),(28,.slice aP nP cP),(29,.slice ax xs.length cx),(30,.slice ax xs.length cx),(32,.slice aQ nQ cQ),(33,.slice ay ys.length cy),(34,.slice ay ys.length cy),(36,x.val)]) (β':=(βb2++(segX++segY))++((b13,(moV M aw dw.length cw).cells,24)::(segM++[(b8,x.val.cells,26),(b5,(moV P aD nD cD).cells,24)]))) ?_ Y Y (SubR.get rg) (fun _=>Nat.le_refl _)
 refine S_tree (Sp:=spS (moV P aD nD cD) (moV M aw dw.length cw) (.slice aP nP cP) (.slice ax xs.length cx) (.slice aQ nQ cQ) (.slice ay ys.length cy) ys x) (pre:=preS) [3,7,11,13,14,15,16,17,18] dstS dM dM (fun i hi=>?_) dM dM (fun i hi=>?_) (by repeat (first|exact trivial|(refine⟨?_,?_⟩;focus exact ib))) kR (fun j hj c hc u' hu'=>?_) (fun c hc hz=>?_)
 ·simp only [List.mem_cons,List.not_mem_nil,or_false]at hi
  rcases hi with rfl|rfl|rfl|rfl|rfl|rfl|rfl|rfl|rfl<;>rfl
 ·simp only [List.mem_cons,List.not_mem_nil,or_false]at hi
  rcases hi with rfl|rfl|rfl|rfl|rfl|rfl|rfl|rfl|rfl<;>exact⟨fun o ho=>by cases ho;rfl,rfl⟩
 ·simp only [List.mem_cons,List.not_mem_nil,or_false]at hj
  rcases hj with rfl|rfl|rfl|rfl|rfl|rfl|rfl|rfl|rfl
  ·exact A3w tab Y Y Y Y Y Y Y Y Y Y (fun b c hL=>⟨Y,_,_,⟨_,_,Y,Y,hL⟩,Y⟩)
  ·exact A3w tab Y Y Y Y Y Y Y Y Y Y (fun b c hL=>⟨Y,_,_,⟨_,_,Y,Y,hL⟩,Y⟩)
  ·exact A_bok fun hbk=>A0o [] _ Y bod33 Y Y Y Y Y A7s (ownActs_x (RowAt.own hbk (show Subm segY ((βb2++(segX++segY))++((b13,(moV M aw dw.length cw).cells,24)::(segM++[(b8,x.val.cells,26),(b5,(moV P aD nD cD).cells,24)])))from cntL) hSy) oM) (fun y β' hR=>⟨Y,_,_,hR,Y⟩)
  ·exact A3w tab Y Y Y Y Y Y Y Y Y Y (fun b c hL=>⟨Y,_,_,⟨_,_,Y,hL⟩,Y⟩)
  ·obtain⟨a0,c0,h1,hL⟩:=hc 11 dM
   obtain⟨a1,c1,h2,hL2⟩:=hc 13 dM
   simp only [show preS 14=[11,13]from Y,netR,netβ,h1,h2]
   exact A3x tab (xs:=x.cells) (c 11).2 (c 13).2 _ Y Y Y Y Y Y Y Y Y Y Y cntA hL (fun hb=>RowAt.own hb cntL hL2) Y Y oM oM (fun sg a1 c1 hS=>⟨Y,_,_,⟨_,_,Y,hS⟩,Y⟩)
  ·obtain⟨a0,c0,h1,hL⟩:=hc 14 dM
   simp only [show preS 15=[14]from Y,netR,netβ,h1]
   exact A3w tab Y Y Y Y Y Y Y Y Y Y (fun b c' hL'=>⟨Y,_,(b,c',42)::(c 14).2,⟨_,_,_,_,_,Y,Y,hL',hL⟩,Y⟩)
  ·have h:=hc 3 dM
   obtain⟨b,c0,h1,h2,hL⟩:=id h
   simp only [show preS 16=[3]from Y,netR,netβ,h1]
   exact A_mk tab Y Y Y Y ⟨Y,_,(c 3).2,⟨b,c0,Y,h2,hL⟩,Y⟩
  ·have h:=hc 7 dM
   obtain⟨b,c0,h1,h2,hL⟩:=id h
   simp only [show preS 17=[7]from Y,netR,netβ,h1]
   exact A_mk tab Y Y Y Y ⟨Y,_,(c 7).2,⟨b,c0,Y,h2,hL⟩,Y⟩
  ·have h:=hc 15 dM
   obtain⟨b,c0,a,cap,seg,h1,h2,hL,hL2⟩:=id h
   simp only [show preS 18=[15]from Y,netR,netβ,h1]
   exact A_mk tab Y Y Y Y ⟨Y,_,(c 15).2,⟨b,c0,a,cap,seg,Y,h2,hL,hL2⟩,Y⟩
 obtain⟨b1,c1,e1,f1,hL1⟩:=hc 16 dM dM
 obtain⟨b2,c2,e2,f2,hL2⟩:=hc 17 dM dM
 obtain⟨b3,c3,az,cz,segZ,e3,f3,hL3,hSz⟩:=hc 18 dM dM
 simp only [netR,netβ,e1,e2,e3,f1,f2,f3,hz 3 dM dM,hz 7 dM dM,hz 11 dM dM,hz 13 dM dM,hz 14 dM dM,hz 15 dM dM,List.nil_append]
 clear hc hz e1 e2 e3 f1 f2 f3
 refine su ?_
 refine A0f tab ((b1,c1,24)::(b2,c2,42)::(b3,c3,42)::(segM++(segX++(segY++segZ)))) (by exact .tmp rfl (.tmp rfl (.tmp rfl .nil))) (Back.here cntL) ?_
 refine⟨b1,b2,b3,c1,c2,c3,M,dw,aw,cw,xs,ys,ax,ay,az,cx,cy,cz,segM,segX,segY,segZ,Y,Y,hL1,hL2,hL3,hS,hSx,hSy,?_,hM,hx4,hy4,hxa,hya⟩
 rw [List.map_append,List.flatten_append]
 simpa using hSz
end
theorem joinR_len(P:Int)(d:List Int)(a b:List MA):(joinR P d a b).2.1.length≤8∧(joinR P d a b).2.2.length≤8:=by
 unfold joinR
 by_cases h:(A5y P d a b true).1≠0
 ·rw [if_pos h];exact⟨Nat.zero_le _,Nat.zero_le _⟩
 ·rw [if_neg h]
  obtain⟨h1,_,h2,h3⟩:=laidR_ne (Classical.byContradiction fun e=>h e)
  have hok:=layE_ok.1 h1
  have ha:=hok.la
  have hb:=hok.lb
  rw [h3]
  dsimp only
  cases hw:A6k a b d with
  | nil=>exact absurd hw h2
  | cons w ws=>
   have hm:w∈A6k a b d:=by rw [hw];exact List.mem_cons_self ..
   have:=B3h (A9v hm).1
   dsimp only
   omega
structure CaseAt(u:View)(m:List Value)(x y:Value)(P:Int)(d:List Int)(p q:List MA):Prop where
 m:∃aD cD,m=[intV P,.slice aD d.length cD]∧RowAt u aD (d.map intV)
 x:∃a c,x = .slice a p.length c∧p.length≤c∧ActsAt u a p
 y:∃a c,y = .slice a q.length c∧q.length≤c∧ActsAt u a q
 ld:d.length≤20
 lp:p.length≤20
 lq:q.length≤20
def spL(P:Int)(d:List Int)(p q:List MA):Nat→Value→A0e→Prop
 | 4,y,β=>∃a c,y=moV P a d.length c∧OwnS 3 1 β a d.length c (d.map intV)
 | 9,y,β=>OwnI 26 4 y β p.length (p.map MA.cells).flatten
 | 14,y,β=>OwnI 26 4 y β q.length (q.map MA.cells).flatten
 | _,y,β=>∃b,y = .pointer (some ⟨b,0,none⟩)∧β=[(b,(Value.agg (List.toArray [.int .i64 0,.slice none 0 0])).cells,24)]
end Go.Proofs.YtclejblcnfaeaaaGreat
end
section
namespace Go.Pal.To
theorem bothV_eq{act:Int}{ws:List Wy}(hne:ws≠[]):bothV act ws=if ws.all (fun w=>A5x act 0 w.marks==0)then 1 else if ws.any (fun w=>A5x act 0 w.marks==0)then 3 else 2:=by
 unfold bothV A9z
 by_cases h1:ws.all (fun w=>A5x act 0 w.marks==0)=true
 ·have:ws.countP (fun w=>A5x act 0 w.marks==0)=ws.length:=List.countP_eq_length.2 fun w hw=>List.all_eq_true.1 h1 w hw
  have hl:ws.length≠0:=fun e=>hne (List.length_eq_zero_iff.1 e)
  rw [if_pos h1,this,if_neg hl,if_pos rfl]
 ·rw [if_neg h1]
  by_cases h2:ws.any (fun w=>A5x act 0 w.marks==0)=true
  ·rw [if_pos h2]
   obtain⟨w,hw,hp⟩:=List.any_eq_true.1 h2
   have h3:ws.countP (fun w=>A5x act 0 w.marks==0)≠0:=fun e=>by
    have:=List.countP_eq_zero.1 e w hw
    exact this hp
   rw [if_neg h3,if_neg fun e=>h1 (List.all_eq_true.2 (List.countP_eq_length.1 e))]
  ·rw [if_neg h2]
   have h3:ws.countP (fun w=>A5x act 0 w.marks==0)=0:=List.countP_eq_zero.2 fun w hw hp=>h2 (List.any_eq_true.2 ⟨w,hw,hp⟩)
   rw [if_pos h3]
end Go.Pal.To
namespace Go.Proofs.YtclejblcnfaeaaaGreat
open Go Go.Pal Go.Pal.To Go.Conc View
open Go.Proofs.Tryz
set_option maxHeartbeats 4000000
set_option maxRecDepth 20000
section
variable{v:View}{mn:Who}{P:Int}{aD aA aB:Option Addr}{cD cA cB:Nat}{d:List Int}{a b:List MA}
theorem sharedR_x{am:Option Addr}{cm:Nat}{ms:List Int}{act:Int}(hm:RowAt v am (ms.map intV))(hl:ms.length<2^30) :
  Ret1 prog mn 117 [.slice am ms.length cm,intV act] (.bool (A5x act 0 ms==0)) v:=by
 refine A0d tab func117 Y nB (args:=[_,_]) ?_
 refine su ?_
 refine A1q (α:=Nat×Nat) (fun z=>⟨[],[(6,.int .i64 z.1),(5,.int .i64 z.2),(0,.slice am ms.length cm),(1,intV act)],[]⟩)
  (fun z u=>u=v∧z.1≤ms.length∧z.2≤z.1∧A5x act z.2 (ms.drop z.1)=A5x act 0 ms) (fun z=>ms.length-z.1) (0,0) ⟨Y,rg,cntL⟩ (Le.refl _) ⟨Y,Nat.zero_le _,Nat.le_refl _,Y⟩ ?_
 rintro⟨i,n⟩ u ⟨rfl,hi,hn,hq⟩
 dsimp only at hi hn hq⊢
 refine su ?_
 refine A1i Y (fun h=>?_) (fun h=>?_)
 ·replace h:=fa h
  have hlt:i<ms.length:=oM
  obtain⟨bb,off,p,c,e,f,rfl,hv,hc⟩:=hm.get hlt
  rw [List.drop_eq_getElem_cons hlt,show A5x act n (ms[i]::ms.drop (i+1))=(if ms[i]=2 then A5x act n (ms.drop (i+1))else if(n:Int)=act then ms[i]else A5x act (n+1) (ms.drop (i+1)))from rfl]at hq
  have hci:=hc _ hlt
  generalize ms[i]=m at hq hci
  refine su ?_
  refine A6d tab i Y Y Y Y Y Y Y hlt ?_
  refine A2b tab Y Y Y hv (A0l tab (x:=intV m) Y Y Y (by rw [Nat.mul_one];exact hci)) ?_
  refine su ?_
  by_cases h2:m=2
  ·rw [if_pos h2]at hq
   rw [show(m==2)=true from by simpa using h2]
   refine su ?_
   exact A0b ⟨(i+1,n),u,by simp only;omega,⟨Y,rg,cntL⟩,Le.refl _,Y,hlt,by simp only;omega,hq⟩
  ·rw [if_neg h2]at hq
   rw [show(m==2)=false from by simpa using h2]
   refine su ?_
   by_cases h3:(n:Int)=act
   ·rw [if_pos h3]at hq
    rw [show((n:Int)==act)=true from by simpa using h3]
    refine su ?_
    refine A6d tab i Y Y Y Y Y Y Y hlt ?_
    refine A2b tab Y Y Y hv (A0l tab (x:=intV m) Y Y Y (by rw [Nat.mul_one];exact hci)) ?_
    refine su ?_
    refine A0f tab [] (by exact .tmp rfl .nil) (Back.here cntL) ?_
    exact⟨by rw [←hq];rfl,Y⟩
   ·rw [if_neg h3]at hq
    rw [show((n:Int)==act)=false from by simpa using h3]
    refine su ?_
    exact A0b ⟨(i+1,n+1),u,by simp only;omega,⟨Y,rg,cntL⟩,Le.refl _,Y,hlt,by simp only;omega,hq⟩
 ·replace h:=fa h
  have hin:i=ms.length:=oM
  rw [hin,List.drop_length]at hq
  refine su ?_
  refine A0f tab [] (by exact .tmp rfl .nil) (Back.here cntL) ?_
  exact⟨by rw [←hq];rfl,Y⟩
theorem bothR_x{act:Int}(hd:RowAt v aD (d.map intV))(hdl:d.length<2^30)(ha:ActsAt v aA a)(hb:ActsAt v aB b)(hal:a.length<2^30)(hbl:b.length<2^30)(hcA:a.length≤cA)(hcB:b.length≤cB) :
  Ret1 prog mn 61 [moV P aD d.length cD,.slice aA a.length cA,.slice aB b.length cB,intV act] (.tuple (List.toArray [intV (bothR P d a b act).1,intV (bothR P d a b act).2])) v:=by
 refine A0d tab func61 Y nB (args:=[_,_,_,_]) ?_
 refine sw fun bx=>?_
 refine Q_op fun ho=>A1p ho bod91 Y Y Y Y Y (beginR_x (number:=act) (n:=a.length) oM hd hdl ha hb hal hbl hcA hcB) (fun x u hl hR=>?_)
 clear ho
 obtain⟨y,rfl,ax,cap,ys,rfl,hrow,hrows⟩:=hR
 rw [show(!decide (outZ act 0 ((a.length:Int)-1)))=knows act a.length from rfl]at hrows⊢
 unfold bothR
 generalize hr:A5y P d a b (knows act a.length)=r at *
 obtain⟨e,k,ws⟩:=r
 dsimp only at hrow hrows⊢
 by_cases h:e=0
 ·subst h
  obtain⟨hE,_,h2,h3⟩:=laidR_ne (by rw [hr])
  rw [hr]at h3
  injection h3 with _ h3
  injection h3 with h4 h5
  have hok:=layE_ok.1 hE
  have hla:=hok.la
  have hlb:=hok.lb
  have hwne:ws≠[]:=by rw [h5];exact h2
  have hmem:∀w∈ws,w.marks.length<2^30:=fun w hw=>by
   rw [h5]at hw
   have:=B3h (A9v hw).1
   omega
  have hwl:ws.length≤6561:=by
   rw [h5]
   exact Nat.le_trans (fewest_len _) (A9d (n:=8) oM)
  rw [if_neg sM,bothV_eq hwne]
  clear h5 hr h4 h2
  generalize hf:(fun w:Wy=>A5x act 0 w.marks==0)=f
  refine su ?_
  refine A1q (α:=Nat) (fun i=>⟨[],[(14,.int .i64 i),(12,.bool ((ws.take i).any f)),(13,.bool ((ws.take i).all f)),(10,.slice ax ws.length cap),(3,intV act)],[]⟩)
   (fun i w=>w=u∧i≤ws.length) (fun i=>ws.length-i) 0 ⟨Y,rg,cntL⟩ (Le.refl _) ⟨Y,Nat.zero_le _⟩ ?_
  rintro i w ⟨rfl,hi⟩
  refine su ?_
  refine A1i Y (fun h=>?_) (fun h=>?_)
  ·replace h:=fa h
   have hlt:i<ws.length:=oM
   obtain⟨bb,off,p,c,e,f0,am,cm,ab,cb,ad,cd,rfl,hv,hc,hc0,hc1,hc2,hm,hbk2,hdk⟩:=rws_read hrow hrows hlt
   have hml:=hmem _ (List.getElem_mem hlt)
   have hsn:(ws.take (i+1)).any f=((ws.take i).any f||f ws[i])∧(ws.take (i+1)).all f=((ws.take i).all f&&f ws[i]):=by
    rw [List.take_succ_eq_append_getElem hlt,List.any_append,List.all_append];simp
   have hfi:f ws[i]=(A5x act 0 ws[i].marks==0):=by rw [←hf]
   refine su ?_
   refine A6d tab i Y Y Y Y Y Y Y hlt ?_
   refine su ?_
   refine A2b tab Y Y Y hv (A0l tab Y Y Y hc0) ?_
   refine su ?_
   refine Q_op fun ho=>A0u ho bod117 Y Y Y Y Y (sharedR_x (act:=act) hm hml) ?_
   clear ho
   rw [←hfi]
   generalize f ws[i]=is at hsn
   have key:∀s t:Bool,((s||is)=(ws.take (i+1)).any f)→((t&&is)=(ws.take (i+1)).all f)→True:=fun _ _ _ _=>trivial
   clear key
   cases hs:(ws.take i).any f<;>cases ht:(ws.take i).all f<;>rw [hs,ht]at hsn<;>obtain⟨s1,s2⟩:=hsn<;>refine su ?_
   all_goals
    refine A0b ⟨i+1,w,oM,⟨Y,?_,cntL⟩,Le.refl _,Y,hlt⟩
    rw [s1,s2]
    cases is<;>exact rg
  ·replace h:=fa h
   have hin:i=ws.length:=oM
   subst hin
   rw [List.take_length]
   refine su ?_
   cases ht:ws.all f with
   | true=>
    refine su ?_
    refine A0f tab [] (by exact .tmp rfl (.tmp rfl .nil)) (Back.le hl cntL) ?_
    exact⟨Y,Y⟩
   | false=>
    refine su ?_
    cases hs:ws.any f with
    | true=>
     refine su ?_
     refine A0f tab [] (by exact .tmp rfl (.tmp rfl .nil)) (Back.le hl cntL) ?_
     exact⟨Y,Y⟩
    | false=>
     refine su ?_
     refine A0f tab [] (by exact .tmp rfl (.tmp rfl .nil)) (Back.le hl cntL) ?_
     exact⟨Y,Y⟩
 ·refine su ?_
  rw [show(e != 0)=true from by simpa using h]
  refine su ?_
  refine A0f tab [] (by exact .tmp rfl (.tmp rfl .nil)) (Back.le hl cntL) ?_
  rw [if_pos h]
  exact⟨Y,Y⟩
end
end Go.Proofs.YtclejblcnfaeaaaGreat
end
section
namespace Go.Proofs.YtclejblcnfaeaaaGreat
open Go Go.Pal Go.Pal.To Go.Conc View
open Go.Proofs.Tryz
set_option maxHeartbeats 4000000
set_option maxRecDepth 20000
section
variable{mn:Who}{v:View}{P:Int}{aD:Option Addr}{cD:Nat}{d:List Int}
theorem knowsH_x{b1 b2:Nat}{h:Int}{p1 p2:Bool}{f1 f2:Nat×Nat}(h1:v b1=some (p1,.cells (List.toArray [intV h]) 3 f1))(h2:v b2=some (p2,.cells (List.toArray [intV P,.slice aD d.length cD]) 24 f2))(hdl:d.length<2^30) :
  Ret1 prog mn 112 [.pointer (some ⟨b1,0,none⟩),.pointer (some ⟨b2,0,none⟩)] (.bool (knows h d.length)) v:=by
 refine A0d tab func112 Y nB (args:=[_,_]) ?_
 refine su ?_
 refine A2b tab Y Y Y h1 (A0l tab Y Y Y Y) ?_
 refine su ?_
 refine A2b tab Y Y Y h2 (A0l tab Y Y Y Y) ?_
 refine su ?_
 refine Q_op fun ho=>A0u ho bod81 Y Y Y Y Y A3g ?_
 clear ho
 refine su ?_
 refine A0f tab [] (by exact .tmp rfl .nil) (Back.here cntL) ?_
 exact⟨Y,Y⟩
end
end Go.Proofs.YtclejblcnfaeaaaGreat
end
section
namespace Go.Proofs.YtclejblcnfaeaaaGreat.I
open Go Go.Pal Go.Conc View
open Go.Proofs.Tryz
open Go.Proofs.YtclejblcnfaeaaaGreat.W (lexL)
open Go.Sort (swp PermIn SortedIn Below SWO insInner insOuter insertionSort)
set_option maxHeartbeats 4000000
set_option maxRecDepth 20000
def ltI(x y:Int):Bool:=decide (x<y)
theorem A1f(x:Int):(intV x).cells.size=1:=rfl
theorem A1v(x:Int):(intV x).cells.toList.all A2k=true:=rfl
def okI(_:Int):Prop:=True
structure DBi(cap:Nat)(d:Array Int)(c:Array Value):Prop where
 db:DB 1 (fun x:Int=>[intV x]) okI cap d c
abbrev slV(b n cap:Nat):Value:=.slice (some ⟨b,0,none⟩) n cap
section
variable{cap:Nat}{d:Array Int}{c:Array Value}
theorem DBi.le(h:DBi cap d c):d.size≤cap:=h.db.le
theorem DBi.rdE(h:DBi cap d c){i:Nat}(hi:i<d.size):A4k tab 3 c (0+i*1)=some (intV d[i]!):=A0l tab Y Y Y (h.db.one Y hi Y)
theorem DBi.ok(h:DBi cap d c){i:Nat}(hi:i<d.size):okI d[i]!:=h.db.ok hi
theorem DBi.off(h:DBi cap d c){i:Nat}(hi:i<d.size){n:Nat}(hn:n=1):Nat.ble (0+i*1+n) c.size=true:=h.db.off hi hn
theorem DBi.set(h:DBi cap d c){i:Nat}(hi:i<d.size){x:Int}(hx:okI x):DBi cap (d.setIfInBounds i x) (A0z c (0+i*1) (intV x).cells.toList):=⟨h.db.set hi hx⟩
theorem DBi.swp(h:DBi cap d c){i j:Nat}(hi:i<d.size)(hj:j<d.size):DBi cap (swp d i j) (A0z (A0z c (0+i*1) (intV d[j]!).cells.toList) (0+j*1) (intV d[i]!).cells.toList):=⟨h.db.swp hi hj⟩
def IBox(cap b:Nat)(p:Array Int→Prop)(β':A0e):Prop:=∃d' c',β'=[(b,c',3)]∧DBi cap d' c'∧p d'
end
section
variable{mn:Who}{v:View}
theorem isNaN_x{x:Int}:Ret1 prog mn 163 [intV x] (.bool false) v:=by
 refine A0d tab func163 Y nB (args:=[_]) ?_
 refine su ?_
 rw [show(x != x)=false from by simp]
 refine A0f tab [] (by exact .tmp rfl .nil) (Back.here cntL) ?_
 exact⟨Y,Y⟩
theorem less_x{x y:Int}:Ret1 prog mn 174 [intV x,intV y] (.bool (ltI x y)) v:=by
 refine A0d tab func174 Y nB (args:=[_,_]) ?_
 refine su ?_
 refine Q_op fun ho=>A0u ho bod163 Y Y Y Y Y isNaN_x ?_
 clear ho
 refine su ?_
 refine A0f tab [] (by exact .tmp rfl .nil) (Back.here cntL) ?_
 exact⟨Y,Y⟩
end
section
variable{mn:Who}{v:View}{cap:Nat}{d:Array Int}{c:Array Value}
abbrev AS:=Nat×Array Int×Array Value
theorem B1w{b x y:Nat}(hD:DBi cap d c)(hcap:d.size<2^30)(hxy:x≤y)(hy:y≤d.size) :
  CallsB prog mn 168 #[slV b d.size cap,.int .i64 x,.int .i64 y] (RetB fun r β'=>r = .tuple #[]∧IBox cap b (fun d'=>d'.size=d.size∧d'=insertionSort ltI d x y) β') [(b,c,3)] v:=by
 refine A0d tab func168 Y nB (args:=[_,_,_]) ?_
 have hle:=hD.le
 refine su ?_
 refine A1q (α:=AS) (fun z=>⟨[],[(6,.int .i64 z.1),(0,slV b d.size cap),(1,.int .i64 x),(2,.int .i64 y)],[(b,z.2.2,3)]⟩)
  (fun z u=>u=v∧DBi cap z.2.1 z.2.2∧z.2.1.size=d.size∧x<z.1∧z.1≤y+1∧insOuter ltI x y z.1 z.2.1=insertionSort ltI d x y) (fun z=>y+1-z.1) (x+1,d,c)
  ⟨Y,rg,cntL⟩ (Le.refl _) ⟨Y,hD,Y,by simp only;omega,by simp only;omega,Y⟩ ?_
 rintro⟨i,d1,c1⟩ u ⟨rfl,hD1,hs1,hxi,hiy,hr1⟩
 simp only at hD1 hs1 hxi hiy hr1
 dsimp only
 rw [insOuter]at hr1
 refine su ?_
 refine A1i Y (fun h=>?_) (fun h=>?_)
 ·replace h:=fa h
  rw [if_pos oM]at hr1
  refine su ?_
  refine A1q (α:=AS) (fun z=>⟨[],[(7,.int .i64 z.1),(6,.int .i64 i),(0,slV b d.size cap),(1,.int .i64 x),(2,.int .i64 y)],[(b,z.2.2,3)]⟩)
   (fun z w=>w=u∧DBi cap z.2.1 z.2.2∧z.2.1.size=d.size∧z.1≤i∧insInner ltI x z.1 z.2.1=insInner ltI x i d1) (fun z=>z.1) (i,d1,c1)
   ⟨Y,rg,cntL⟩ (Le.refl _) ⟨Y,hD1,hs1,Nat.le_refl _,Y⟩ ?_
  rintro⟨j,d2,c2⟩ w ⟨rfl,hD2,hs2,hji,hr2⟩
  simp only at hD2 hs2 hji hr2
  dsimp only
  refine su ?_
  refine lexL A1e Y kR ?_
  refine su ?_
  refine A7d Y Y (fun h=>?_) (fun h=>?_)
  ·replace h:=fa h
   obtain⟨j,rfl⟩:∃k,j=k+1:=⟨j-1,oM⟩
   refine su ?_
   refine A1m tab (j+1) Y Y Y Y Y Y Y oM ?_
   refine A1j tab Y Y Y InB.head (hD2.rdE oM) ?_
   refine su ?_
   refine A1m tab j Y Y Y Y oM Y Y oM ?_
   refine A1j tab Y Y Y InB.head (hD2.rdE oM) ?_
   refine su ?_
   refine A2w bod174 Y Y Y Y Y less_x ?_
   refine su ?_
   rw [show insInner ltI x (j+1) d2=(if decide (j+1 > x)&&ltI d2[j+1]! d2[j]! then insInner ltI x j (swp d2 (j+1) j)else d2)from rfl]at hr2
   refine A1i Y (fun h=>?_) (fun h=>?_)
   ·have h':ltI d2[j+1]! d2[j]! = true:=h
    rw [if_pos (by rw [h'];simp;omega)]at hr2
    refine su ?_
    ((refine A1d [15,17] [0,1,2,3,4,5,6,7,8,9,10,11,12,13,14,15,16,17] A1e Y kR ?_);(repeat (refine ss ?_));(refine A0s tab (j) Y Y Y kR Y Y (by first|rfl|omega) Y Y oM ?_);(refine A1a tab Y Y Y kR Y ib (hD2.rdE oM) ?_);(repeat (refine ss ?_));(refine A0s tab (j+1) Y Y Y kR Y Y (by first|rfl|omega) Y Y oM ?_);(refine A1a tab Y Y Y kR Y ib (hD2.rdE oM) ?_);(refine A0s tab (j+1) Y Y Y kR Y Y (by first|rfl|omega) Y Y oM ?_);(refine S_do kR (A1c tab Y Y Y Y Y (by first|exact A1f _|rfl) (by first|exact A1v _|rfl) ib (hD2.off oM Y) sb ⟨Le.refl _,kp,?_⟩));(refine A0s tab (j) Y Y Y kR Y Y (by first|rfl|omega) Y Y oM ?_);(refine S_do kR (A1c tab Y Y Y Y Y (by first|exact A1f _|rfl) (by first|exact A1v _|rfl) ib ((hD2.set oM (hD2.ok oM)).off (by first|simpa using oM|(simp;omega)) Y) sb ⟨Le.refl _,kp,?_⟩));(repeat (refine ss ?_)))
    refine su ?_
    refine A0b ⟨(j,swp d2 (j+1) j,_),w,by simp only;omega,⟨Y,?_,cntL⟩,Le.refl _,Y,hD2.swp oM oM,by rw [Go.Sort.size_swp,hs2],by simp only;omega,hr2⟩
    refine⟨?_,rg⟩
    show some (Value.int .i64 (((j+1:Nat):Int)-1))=some (Value.int .i64 (j:Int))
    congr 2;omega
   ·have h':ltI d2[j+1]! d2[j]! = false:=h
    rw [if_neg (by rw [h'];simp)]at hr2
    refine su ?_
    refine A0b ⟨(i+1,d2,c2),w,by simp only;omega,⟨Y,rg,cntL⟩,Le.refl _,Y,hD2,hs2,by simp only;omega,by simp only;omega,?_⟩
    rw [hr2];exact hr1
  ·replace h:=fa h
   have hr3:d2=insInner ltI x i d1:=by
    rw [←hr2]
    cases j with
    | zero=>rfl
    | succ j=>unfold insInner;rw [if_neg (by simp;omega)]
   refine su ?_
   refine A0b ⟨(i+1,d2,c2),w,by simp only;omega,⟨Y,rg,cntL⟩,Le.refl _,Y,hD2,hs2,by simp only;omega,by simp only;omega,?_⟩
   rw [hr3];exact hr1
 ·replace h:=fa h
  rw [if_neg oM]at hr1
  refine su ?_
  refine A1o tab [(b,c1,3)] .nil (Back.here cntL) ?_
  exact⟨Y,d1,c1,Y,hD1,hs1,hr1⟩
theorem pdq_x{b k:Nat}(hD:DBi cap d c)(hd:d.size≤12) :
  CallsB prog mn 141 #[slV b d.size cap,.int .i64 (0:Nat),.int .i64 d.size,.int .i64 k] (RetB fun r β'=>r = .tuple #[]∧IBox cap b (fun d'=>d'.size=d.size∧d'=insertionSort ltI d 0 d.size) β') [(b,c,3)] v:=by
 refine A0d tab func141 Y nB (args:=[_,_,_,_]) ?_
 refine su ?_
 refine A1q (α:=Unit) (fun _=>⟨[],[(0,slV b d.size cap),(1,.int .i64 (0:Nat)),(2,.int .i64 d.size),(3,.int .i64 k)],[(b,c,3)]⟩) (fun _ u=>u=v) (fun _=>0) () ⟨Y,rg,cntL⟩ (Le.refl _) Y ?_
 rintro⟨⟩ u rfl
 have hle:=hD.le
 refine su ?_
 rw [show decide ((d.size:Int)-((0:Nat):Int)≤12)=true from decide_eq_true oM]
 refine su ?_
 refine Q_op fun ho=>A0o [(b,c,3)] [] ho bod168 Y Y Y Y Y cntA (B1w (x:=0) (y:=d.size) hD oM (Nat.zero_le _) (Nat.le_refl _)) (fun x β' hR=>?_)
 clear ho
 obtain⟨rfl,d2,c2,rfl,hD2,hs2,hp2⟩:=hR
 rw [List.append_nil]
 refine su ?_
 refine A0f tab [(b,c2,3)] .nil (Back.here cntL) ?_
 exact⟨Y,d2,c2,Y,hD2,hs2,hp2⟩
theorem sort_x{b:Nat}(hD:DBi cap d c)(hd:d.size≤12) :
  CallsB prog mn 114 #[slV b d.size cap] (RetB fun r β'=>r = .tuple #[]∧IBox cap b (fun d'=>d'.size=d.size∧d'=insertionSort ltI d 0 d.size) β') [(b,c,3)] v:=by
 refine A0d tab func114 Y nB (args:=[_]) ?_
 refine su ?_
 rw [W.wrapU oM]
 refine Q_op fun ho=>A0u ho bod128 Y Y Y Y Y (W.len_x (x:=d.size) oM) ?_
 clear ho
 refine su ?_
 refine Q_op fun ho=>A0o [(b,c,3)] [] ho bod141 Y Y Y Y Y cntA (pdq_x hD hd) (fun x β' hR=>?_)
 clear ho
 obtain⟨rfl,d2,c2,rfl,hD2,hs2,hp2⟩:=hR
 rw [List.append_nil]
 refine su ?_
 refine A1o tab [(b,c2,3)] .nil (Back.here cntL) ?_
 exact⟨Y,d2,c2,Y,hD2,hs2,hp2⟩
end
end Go.Proofs.YtclejblcnfaeaaaGreat.I
end
section
namespace Go.Proofs.YtclejblcnfaeaaaGreat
open Go Go.Pal Go.Pal.To Go.Conc View
open Go.Proofs.Tryz
set_option maxHeartbeats 4000000
set_option maxRecDepth 20000
abbrev Ow3:=Int×Int×Int
def owV(k:Ow3):Value:=.agg (List.toArray [intV k.1,intV k.2.1,intV k.2.2])
section
variable{v:View}
theorem range3:(List.range' 0 3 1)=[0,1,2]:=rfl
theorem ow_eqD(d:Nat)(a b:Ow3){K:Bool→View→Prop}{E:Value→View→Prop}(h:K (decide (a=b)) v):SemX prog (Op.equalIn (d+1+1) 124 (owV a) (owV b)) K E v:=by
 obtain⟨a1,a2,a3⟩:=a
 obtain⟨b1,b2,b3⟩:=b
 have hd:decide (((a1,a2,a3):Ow3)=(b1,b2,b3))=(a1==b1&&(a2==b2&&a3==b3)):=by
  by_cases h1:a1=b1<;>by_cases h2:a2=b2<;>by_cases h3:a3=b3<;>simp [h1,h2,h3]
 rw [hd]at h
 unfold Op.equalIn
 rw [A0a,A1k tab (t:=124) rfl]
 simp only [owV,A0a]
 rw [A4f tab (t:=3) rfl]
 simp only [Std.Legacy.Range.forIn_eq_forIn_range',Std.Legacy.Range.size,Nat.sub_zero,Nat.add_sub_cancel,Nat.div_one,range3,List.forIn_cons,List.forIn_nil,A0a]
 refine A3j (x:=intV a1) Y (A3j (x:=intV b1) Y (i64_eq ?_))
 cases h1:(a1==b1)with
 | false=>
  rw [h1,Bool.false_and]at h
  exact h
 | true=>
  rw [h1,Bool.true_and]at h
  simp only [Bool.not_true,Bool.false_eq_true,if_false,A0h,A0a]
  refine A3j (x:=intV a2) Y (A3j (x:=intV b2) Y (i64_eq ?_))
  cases h2:(a2==b2)with
  | false=>
   rw [h2,Bool.false_and]at h
   exact h
  | true=>
   rw [h2,Bool.true_and]at h
   simp only [Bool.not_true,Bool.false_eq_true,if_false,A0h,A0a]
   refine A3j (x:=intV a3) Y (A3j (x:=intV b3) Y (i64_eq ?_))
   cases h3:(a3==b3)with
   | false=>
    rw [h3]at h
    exact h
   | true=>
    rw [h3]at h
    exact h
theorem ow_chkD(d:Nat)(e:Bool)(a:Ow3){K:Unit→View→Prop}{E:Value→View→Prop}(h:K () v):SemX prog (Instr.checkKey e (d+1+1) 124 (owV a)) K E v:=by
 unfold Instr.checkKey
 rw [A0a,A1k tab (t:=124) rfl]
 simp only [owV,A0a]
 simp only [Std.Legacy.Range.forIn_eq_forIn_range',Std.Legacy.Range.size,Nat.sub_zero,Nat.add_sub_cancel,Nat.div_one,range3,List.forIn_cons,List.forIn_nil,A0a]
 have key:∀(x:Int) {K':Unit→View→Prop},K' () v→SemX prog (Instr.checkKey e (d+1) 3 (intV x)) K' E v:=fun x K' h'=>by
  unfold Instr.checkKey
  rw [A0a,A1k tab (t:=3) rfl]
  exact h'
 rw [A4f tab (t:=3) rfl]
 refine A3j (x:=intV a.1) Y (key _ ?_)
 try simp only [A0h,A0a]
 rw [A4f tab (t:=3) rfl]
 refine A3j (x:=intV a.2.1) Y (key _ ?_)
 try simp only [A0h,A0a]
 rw [A4f tab (t:=3) rfl]
 refine A3j (x:=intV a.2.2) Y (key _ ?_)
 exact h
theorem ow_key:KeyT prog 124 owV where
 eq:=fun a b=>ow_eqD 9998 a b
 chk:=fun e a=>ow_chkD 9998 e a
 now:=⟨_,tab.und_ok 124 _ rfl,.inl fun a b=>rfl⟩
 bits:=fun a=>by simp [Instr.sameBits,owV]
end
def keyOf(w:Wy):Ow3:=(ow w.dusk 0,ow w.dusk 1,ow w.dusk 2)
theorem flat_one(l:List Int):(l.map fun x:Int=>[intV x]).flatten=l.map intV:=by
 induction l with
 | nil=>rfl
 | cons x l ih=>simp only [List.map_cons,List.flatten_cons,ih];rfl
theorem swoI:Go.Sort.SWO I.ltI where
 irrefl x:=by simp [I.ltI]
 trans x y z h1 h2:=by simp only [I.ltI,decide_eq_true_eq]at *;omega
 ntrans x y z h1 h2:=by simp only [I.ltI,decide_eq_false_iff_not]at *;omega
theorem strict:∀{l:List Int},l.Nodup→l.Pairwise (fun x y=>I.ltI y x=false)→l.Pairwise (· < ·)
 | [],_,_=>.nil
 | x::l,hn,hp=>by
  rw [List.nodup_cons]at hn
  rw [List.pairwise_cons]at hp⊢
  refine⟨fun y hy=>?_,strict hn.2 hp.2⟩
  have h1:=hp.1 y hy
  simp only [I.ltI,decide_eq_false_iff_not]at h1
  have h2:x≠y:=fun e=>hn.1 (by rw [e];exact hy)
  omega
structure OwS where
 i:Nat
 l:Ents Ow3
 ck:Nat
 sg:A0e
 a:Option Addr
 cap:Nat
section
variable{v:View}{P:Int}{aD aA aB:Option Addr}{cD cA cB:Nat}{d:List Int}{a b:List MA}
def OwAt(P:Int)(d:List Int)(a b:List MA)(h:Int)(x:Value)(u:View):Prop:=∃ax cx,∃r:List Int×Int,x = .tuple (List.toArray [.slice ax r.1.length cx,intV r.2])∧RowAt u ax (r.1.map intV)∧OwnersIs P d a b h r
theorem owners_x{h:Int}(hd:RowAt v aD (d.map intV))(hdl:d.length<2^30)(ha:ActsAt v aA a)(hb:ActsAt v aB b)(hal:a.length<2^30)(hbl:b.length<2^30) :
  A6l prog ⟨true,true⟩ 58 [moV P aD d.length cD,.slice aA a.length cA,.slice aB b.length cB,intV h] (OwAt P d a b h) v:=by
 refine A3k tab func58 Y nB (args:=[_,_,_,_]) ?_
 refine sw fun bx=>?_;refine sw fun bx=>?_
 rename_i b4
 obtain⟨b7,rfl⟩:∃b:Nat,b=bx:=⟨bx,rfl⟩
 refine A8x (β1:=[(b7,(intV h).cells,3),(b4,(moV P aD d.length cD).cells,24)]) (β2:=[]) cntA (fun hbk=>?_)
 have hv7:=A0q hbk (b:=b7) (c:=List.toArray [intV h]) (t:=3) ib
 have hv4:=A0q hbk (b:=b4) (c:=List.toArray [intV P,.slice aD d.length cD]) (t:=24) ib
 have hl1:=A0g v (A0c [(b7,(intV h).cells,3),(b4,(moV P aD d.length cD).cells,24)])
 generalize v.union (A0c [(b7,(intV h).cells,3),(b4,(moV P aD d.length cD).cells,24)])=v1 at *
 refine su ?_
 refine Q_op fun ho=>A1p ho bod89 Y Y Y Y Y (laid_x (P:=P) (kn:=knows h d.length) (caps:=[.pointer (some ⟨b7,0,none⟩),.pointer (some ⟨b4,0,none⟩)]) bod112 (fun u hu=>knowsH_x (hu _ _ hv7) (hu _ _ hv4) hdl) (hd.le hl1) hdl (ha.le hl1) (hb.le hl1) hal hbl) (fun x u hl hR=>?_)
 clear ho
 obtain⟨y,rfl,ax,cap,ys,rfl,hrow,hrows⟩:=hR
 have hlv:=hl1.trans hl
 have hv7':=hl _ _ hv7
 clear hv7 hv4 hbk
 generalize hr:A5y P d a b (knows h d.length)=r at *
 obtain⟨e,k,ws⟩:=r
 dsimp only at hrow hrows
 by_cases he:e=0
 ·subst he
  obtain⟨hE,_,_,hws⟩:=laidR_ne (by rw [hr])
  rw [hr]at hws
  obtain⟨rfl,rfl⟩:k=bestN a b d∧ws=A6k a b d:=by
   simp only [Prod.mk.injEq,true_and]at hws;exact hws
  have hok:=layE_ok.1 hE
  obtain⟨hN,rfl,hN3,hNd⟩:∃n:Nat,h=n∧n<3∧n<d.length:=by
   have hk:=(laidR_ne (P:=P) (d:=d) (a:=a) (b:=b) (kn:=knows h d.length) (by rw [hr])).2.1
   have hm:=hok.m.len
   have hk2:¬outZ h 0 ((d.length:Int)-1):=by unfold knows at hk;simpa using hk
   unfold outZ at hk2
   exact⟨h.toNat,oM,oM,oM⟩
  have hwl:(A6k a b d).length≤3^8:=Nat.le_trans bests_len (Nat.pow_le_pow_right dM (by have:=hok.la;have:=hok.lb;omega))
  refine sw fun bx=>?_
  refine Q_op fun ho=>A_makeMap owV ho Y Y (fun r hr0=>?_)
  clear ho
  refine su ?_
  have hu0:∀o:Obj,u.Le (u.set r true o):=fun o b x hb=>by
   unfold View.set
   rw [if_neg (fun e=>by subst e;rw [hr0]at hb;cases hb)];exact hb
  refine A1q (α:=OwS) (fun z=>⟨[],[(31,.int .i64 z.i),(30,.int .i64 (A6k a b d).length),(29,.slice ax (A6k a b d).length cap),(12,.map (some r)),(13,.slice z.a (B3a ((A6k a b d).take z.i) hN).length z.cap),(7,.pointer (some ⟨b7,0,none⟩))],z.sg⟩)
   (fun z w=>w=u.set r true (mapO owV z.l z.ck)∧z.i≤(A6k a b d).length∧(∀e∈z.l,e.2.1 = .bool true∧∃y∈(A6k a b d).take z.i,keyOf y=e.1)∧OwnS 3 1 z.sg z.a (B3a ((A6k a b d).take z.i) hN).length z.cap ((B3a ((A6k a b d).take z.i) hN).map intV)) (fun z=>(A6k a b d).length-z.i) ⟨0,[],0,[],none,0⟩
   ⟨Y,rg,cntL⟩ (Le.refl _) ⟨Y,Nat.zero_le _,by simp,.nil⟩ ?_
  rintro⟨i,l,ck,sg,ag,cg⟩ w ⟨rfl,hi,hl0,hS⟩
  simp only at hi hl0 hS
  dsimp only
  refine su ?_
  refine A1i Y (fun hlt=>?_) (fun hlt=>?_)
  ·simp only [decide_eq_true_eq]at hlt
   have hlt:i<(A6k a b d).length:=oM
   obtain⟨bb,off,p,c,e,f,am,cm,ab,cb,rfl,hv,hs1,hs2,_,_⟩:=rows_recd hrow hrows hlt
   have hv':=hu0 (mapO owV l ck) _ _ hv
   have htk:(A6k a b d).take (i+1)=(A6k a b d).take i++[(A6k a b d)[i]]:=List.take_succ_eq_append_getElem hlt
   generalize (A6k a b d)[i]=y at hs2 htk
   refine su ?_
   refine A6d tab i Y Y Y Y Y Y Y hlt ?_
   refine A2b tab Y Y Y hv' (A1g tab Y Y Y ⟨hs1,hs2⟩) ?_
   refine sw fun bx=>?_
   have hmap:(u.set r true (mapO owV l ck)) r=some (true,mapO owV l ck):=by simp [View.set]
   refine Q_op fun ho=>A_lookup tab (k:=keyOf y) ow_key ho Y Y Y Y Y Y hmap ?_
   clear ho
   cases hf:B2x (keyOf y) l 0 with
   | some jz=>
    obtain⟨j,z⟩:=jz
    obtain⟨_,bo,hm⟩:=findE_some hf
    obtain⟨rfl,y',hy',hk'⟩:=hl0 _ (List.mem_of_getElem? hm)
    have hsame:B3a ((A6k a b d).take (i+1)) hN=B3a ((A6k a b d).take i) hN:=by
     rw [htk,ownersL_snoc]
     unfold addO
     rw [if_pos]
     refine mem_ownersL.2 ⟨y',hy',?_⟩
     simp only [keyOf,Prod.mk.injEq]at hk'
     have e:hN=0∨hN=1∨hN=2:=oM
     rcases e with rfl|rfl|rfl
     ·exact hk'.1
     ·exact hk'.2.1
     ·exact hk'.2.2
    refine su ?_
    refine A0b ⟨⟨i+1,l,ck,sg,ag,cg⟩,_,by simp only;omega,⟨Y,?_,cntL⟩,Le.refl _,Y,hlt,fun e he=>?_,?_⟩
    ·simp only [hsame]
     exact rg
    ·obtain⟨h1,y2,h2,h3⟩:=hl0 e he
     exact⟨h1,y2,by simp only [htk,List.mem_append];exact .inl h2,h3⟩
    ·simp only [hsame];exact hS
   | none=>
    refine su ?_
    refine Q_op fun ho=>A_mapNew tab (k:=keyOf y) ow_key ho Y Y Y Y Y hmap hf ?_
    clear ho
    rw [show(u.set r true (mapO owV l ck)).set r true (mapO owV (l++[(keyOf y,.bool true,ck)]) (ck+1))=u.set r true (mapO owV (l++[(keyOf y,.bool true,ck)]) (ck+1))from by funext b;simp only [View.set];split<;>rfl]
    have hv7w:=hu0 (mapO owV (l++[(keyOf y,.bool true,ck)]) (ck+1)) _ _ hv7'
    refine su ?_
    refine A2b tab Y Y Y hv7w (A0l tab Y Y Y Y) ?_
    refine su ?_
    refine Q_elemA tab hN Y Y Y Y Y Y Y oM ?_
    refine Q_loadB tab (x:=intV (ow y.dusk hN)) Y Y Y ib (A0l tab Y Y Y (by
     have e:hN=0∨hN=1∨hN=2:=oM
     rcases e with rfl|rfl|rfl<;>rfl)) ?_
    refine su ?_
    have hol:(B3a ((A6k a b d).take i) hN).length<2^30:=by
     have h1:=ownersL_len ((A6k a b d).take i) hN
     rw [List.length_take]at h1
     have h2:(3:Nat)^8=6561:=rfl
     omega
    refine Q_op fun ho=>A0o sg [_] ho bod113 Y Y Y Y Y (cnt_tail1 _ _) (Ret1.box (fun hb=>contains_x (RowAt.own hb (fun p=>Nat.le_refl _) hS) hol)) (fun x β' hR=>?_)
    clear ho
    obtain⟨rfl,rfl⟩:=hR
    have hsnoc:=ownersL_snoc ((A6k a b d).take i) y hN
    rw [←htk]at hsnoc
    unfold addO at hsnoc
    have hnew:∀e∈l++[(keyOf y,Value.bool true,ck)],e.2.1 = .bool true∧∃y2∈(A6k a b d).take (i+1),keyOf y2=e.1:=fun e he=>by
     rcases List.mem_append.1 he with he|he
     ·obtain⟨h1,y2,h2,h3⟩:=hl0 e he
      exact⟨h1,y2,by rw [htk,List.mem_append];exact .inl h2,h3⟩
     ·rw [List.mem_singleton.1 he]
      exact⟨Y,y,by rw [htk];simp,Y⟩
    cases hc:inL (B3a ((A6k a b d).take i) hN) (ow y.dusk hN)with
    | true=>
     rw [if_pos (inL_iff.1 hc)]at hsnoc
     refine su ?_
     refine A0b ⟨⟨i+1,_,_,β',ag,cg⟩,_,by simp only;omega,⟨Y,?_,cntL⟩,Le.refl _,Y,hlt,hnew,?_⟩
     ·simp only [hsnoc]
      exact rg
     ·simp only [hsnoc];exact hS
    | false=>
     rw [if_neg (fun e=>by rw [inL_iff.2 e]at hc;cases hc)]at hsnoc
     refine su ?_
     refine A2b tab Y Y Y hv7w (A0l tab Y Y Y Y) ?_
     refine su ?_
     refine Q_elemA tab hN Y Y Y Y Y Y Y oM ?_
     refine Q_loadB tab (x:=intV (ow y.dusk hN)) Y Y Y ib (A0l tab Y Y Y (by
      have e:hN=0∨hN=1∨hN=2:=oM
      rcases e with rfl|rfl|rfl<;>rfl)) ?_
     refine Q_op fun ho=>A3w tab ho Y Y Y Y Y Y Y Y Y (fun b3 c3 hL=>?_)
     clear ho
     refine Q_op fun ho=>A3x tab (xs:=[intV (ow y.dusk hN)]) β' [(b3,c3,3)] [(bx,(putV (Value.agg (List.toArray [.slice none 0 0,.slice none 0 0,.int .i64 0,.int .i64 0,.int .i64 0])).cells.toList 0 (Value.agg (wyC am cm ab cb y).toArray).cells.toList).toArray,126)] ho Y Y Y Y Y Y Y Y Y Y (show ∀p,Pal.cnt p ((b3,c3,3)::(β'++[(bx,(putV (Value.agg (List.toArray [.slice none 0 0,.slice none 0 0,.int .i64 0,.int .i64 0,.int .i64 0])).cells.toList 0 (Value.agg (wyC am cm ab cb y).toArray).cells.toList).toArray,126)]))=Pal.cnt p (β'++([(b3,c3,3)]++[(bx,(putV (Value.agg (List.toArray [.slice none 0 0,.slice none 0 0,.int .i64 0,.int .i64 0,.int .i64 0])).cells.toList 0 (Value.agg (wyC am cm ab cb y).toArray).cells.toList).toArray,126)]))from cntA) hS
      (fun hb=>RowAt.own hb cntL hL) Y Y (by show(2*((B3a ((A6k a b d).take i) hN).length+1)+768)*8≤2^48;omega) oM (fun sg' a' cap' hS'=>?_)
     clear ho
     refine su ?_
     refine A0b ⟨⟨i+1,_,_,sg',a',cap'⟩,_,by simp only;omega,⟨Y,?_,cntL⟩,Le.refl _,Y,hlt,hnew,?_⟩
     ·simp only [hsnoc,List.length_append]
      exact rg
     ·simp only [hsnoc,List.length_append,List.map_append];exact hS'
  ·obtain rfl:i=(A6k a b d).length:=by simp only [decide_eq_false_iff_not]at hlt;omega
   rw [List.take_length]at hS
   rw [List.take_length]
   have hne:A6k a b d≠[]:=fun e=>(laidR_ne (P:=P) (d:=d) (a:=a) (b:=b) (kn:=knows hN d.length) (by rw [hr])).2.2.1 e
   have hm4:∀x∈B3a (A6k a b d) hN,0≤x∧x<4:=fun x hx=>by
    obtain⟨w',h1,h2⟩:=mem_ownersL.1 hx
    have:=best_ow hok h1 hNd
    have:=hok.m.p
    omega
   have hl4:=four (nodup_ownersL _ _) hm4
   generalize hO:B3a (A6k a b d) hN=os at *
   rcases hS.two with ⟨_,_,h0,_,_⟩|⟨b1,c1,rfl,rfl,hS1⟩
   ·exfalso
    obtain⟨w',ws',e⟩:=List.exists_cons_of_ne_nil hne
    have:ow w'.dusk hN∈os:=by rw [←hO];exact mem_ownersL.2 ⟨w',by rw [e];simp,Y⟩
    rw [List.length_eq_zero_iff.1 h0]at this
    cases this
   have hD:I.DBi cg os.toArray c1:=⟨DB.of_own (fun _=>rfl) (by rw [flat_one];exact hS1) fun x _=>trivial⟩
   have hlw:=hlv.trans (hu0 (mapO owV l ck))
   refine su ?_
   refine Q_op fun ho=>A0o [(b1,c1,3)] [] ho bod114 Y Y Y Y Y cntA (I.sort_x hD (by show os.length≤12;omega)) (fun x β' hR=>?_)
   clear ho
   obtain⟨rfl,d',c',rfl,hD',hsz,hpm⟩:=hR
   refine su ?_
   refine A2m tab (by exact .tmp rfl (.tmp rfl .nil)) hlw fun hb hle'=>?_
   obtain⟨hO1,_⟩:=DB.to_own 3 b1 dM hD'.db
   have hss:=Go.Sort.insertionSort_holds swoI os.toArray 0 os.toArray.size (Nat.zero_le _) (Nat.le_refl _)
   rw [←hpm]at hss
   obtain⟨hp1,hp2⟩:=sort_lists hss.1 hss.2
   rw [List.toList_toArray]at hp1
   have hsz':d'.toList.length=os.length:=hp1.length_eq
   rw [flat_one]at hO1
   refine⟨some ⟨b1,0,none⟩,cg,(d'.toList,0),?_,RowAt.own hb (by exact cntL) hO1,?_⟩
   ·simp only [hsz'];rfl
   ·unfold OwnersIs
    rw [hr,if_neg sM]
    refine⟨Y,strict (hp1.nodup_iff.2 (by rw [←hO];exact nodup_ownersL _ _)) hp2,fun x=>?_⟩
    rw [hp1.mem_iff,←hO]
    exact mem_ownersL
 ·refine sw fun bx=>?_
  rw [show(e != 0)=true from by simpa using he]
  refine su ?_
  refine A2m tab (by exact .tmp rfl (.tmp rfl .nil)) hlv fun _ hl'=>?_
  refine⟨none,0,([],e),Y,.inl Y,?_⟩
  unfold OwnersIs
  rw [hr,if_pos he]
end
end Go.Proofs.YtclejblcnfaeaaaGreat
end
