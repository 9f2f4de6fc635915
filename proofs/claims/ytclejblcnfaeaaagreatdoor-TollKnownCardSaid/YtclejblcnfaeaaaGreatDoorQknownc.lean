/- Part 45. -/
import Derived.Test.YtclejblcnfaeaaaGreatDoorQknownb
set_option linter.all false
section
namespace Go.Proofs.YtclejblcnfaeaaaGreatDoor
open Go Go.Pal Go.Pal.To Go.Conc View
open Go.Proofs.Tryz
set_option maxHeartbeats 4000000
set_option maxRecDepth 20000
def keyOf(w:Wy):Ow3:=(ow w.dusk 0,ow w.dusk 1,ow w.dusk 2)
theorem flat_one(l:List Int):(l.map fun x:Int=>[intV x]).flatten=l.map intV:=by
 induction l with
 | nil=>rfl
 | cons x l ih=>simp only [List.map_cons,List.flatten_cons,ih];rfl
theorem swoI:Go.Sort.SWO I.ltI where
 irrefl x:=by simp [I.ltI]
 trans x y z h1 h2:=by simp only [I.ltI,decide_eq_true_eq]at *;omega
 ntrans x y z h1 h2:=by simp only [I.ltI,decide_eq_false_iff_not]at *;omega
theorem strict:∀{l:List Int},l.Nodup→l.Pairwise (fun x y=>I.ltI y x=false)→l.Pairwise (· < ·)
 | [],_,_=>.nil
 | x::l,hn,hp=>by
  rw [List.nodup_cons]at hn
  rw [List.pairwise_cons]at hp⊢
  refine⟨fun y hy=>?_,strict hn.2 hp.2⟩
  have h1:=hp.1 y hy
  simp only [I.ltI,decide_eq_false_iff_not]at h1
  have h2:x≠y:=fun e=>hn.1 (by rw [e];exact hy)
  omega
structure OwS where
 i:Nat
 l:Ents Ow3
 ck:Nat
 sg:A0e
 a:Option Addr
 cap:Nat
section
variable{v:View}{P:Int}{aD aA aB:Option Addr}{cD cA cB:Nat}{d:List Int}{a b:List MA}
def OwAt(P:Int)(d:List Int)(a b:List MA)(h:Int)(x:Value)(u:View):Prop:=∃ax cx,∃r:List Int×Int,x = .tuple (List.toArray [.slice ax r.1.length cx,intV r.2])∧RowAt u ax (r.1.map intV)∧OwnersIs P d a b h r
theorem owners_x{h:Int}(hd:RowAt v aD (d.map intV))(hdl:d.length<2^30)(ha:ActsAt v aA a)(hb:ActsAt v aB b)(hal:a.length<2^30)(hbl:b.length<2^30) :
  A6l prog ⟨true,true⟩ 46 [moV P aD d.length cD,.slice aA a.length cA,.slice aB b.length cB,intV h] (OwAt P d a b h) v:=by
 refine A3k tab func46 Y nB (args:=[_,_,_,_]) ?_
 refine sw fun bx=>?_;refine sw fun bx=>?_
 rename_i b4
 obtain⟨b7,rfl⟩:∃b:Nat,b=bx:=⟨bx,rfl⟩
 refine A8x (β1:=[(b7,(intV h).cells,3),(b4,(moV P aD d.length cD).cells,26)]) (β2:=[]) cntA (fun hbk=>?_)
 have hv7:=A0q hbk (b:=b7) (c:=List.toArray [intV h]) (t:=3) ib
 have hv4:=A0q hbk (b:=b4) (c:=List.toArray [intV P,.slice aD d.length cD]) (t:=26) ib
 have hl1:=A0g v (A0c [(b7,(intV h).cells,3),(b4,(moV P aD d.length cD).cells,26)])
 generalize v.union (A0c [(b7,(intV h).cells,3),(b4,(moV P aD d.length cD).cells,26)])=v1 at *
 refine su ?_
 refine Q_op fun ho=>A1p ho bod89 Y Y Y Y Y (laid_x (P:=P) (kn:=knows h d.length) (caps:=[.pointer (some ⟨b7,0,none⟩),.pointer (some ⟨b4,0,none⟩)]) bod91 (fun u hu=>knowsH_x (hu _ _ hv7) (hu _ _ hv4) hdl) (hd.le hl1) hdl (ha.le hl1) (hb.le hl1) hal hbl) (fun x u hl hR=>?_)
 clear ho
 obtain⟨y,rfl,ax,cap,ys,rfl,hrow,hrows⟩:=hR
 have hlv:=hl1.trans hl
 have hv7':=hl _ _ hv7
 clear hv7 hv4 hbk
 generalize hr:A5y P d a b (knows h d.length)=r at *
 obtain⟨e,k,ws⟩:=r
 dsimp only at hrow hrows
 by_cases he:e=0
 ·subst he
  obtain⟨hE,_,_,hws⟩:=laidR_ne (by rw [hr])
  rw [hr]at hws
  obtain⟨rfl,rfl⟩:k=bestN a b d∧ws=A6k a b d:=by
   simp only [Prod.mk.injEq,true_and]at hws;exact hws
  have hok:=layE_ok.1 hE
  obtain⟨hN,rfl,hN3,hNd⟩:∃n:Nat,h=n∧n<3∧n<d.length:=by
   have hk:=(laidR_ne (P:=P) (d:=d) (a:=a) (b:=b) (kn:=knows h d.length) (by rw [hr])).2.1
   have hm:=hok.m.len
   have hk2:¬outZ h 0 ((d.length:Int)-1):=by unfold knows at hk;simpa using hk
   unfold outZ at hk2
   exact⟨h.toNat,oM,oM,oM⟩
  have hwl:(A6k a b d).length≤3^8:=Nat.le_trans bests_len (Nat.pow_le_pow_right dM (by have:=hok.la;have:=hok.lb;omega))
  refine sw fun bx=>?_
  refine Q_op fun ho=>A_makeMap owV ho Y Y (fun r hr0=>?_)
  clear ho
  refine su ?_
  have hu0:∀o:Obj,u.Le (u.set r true o):=fun o b x hb=>by
   unfold View.set
   rw [if_neg (fun e=>by subst e;rw [hr0]at hb;cases hb)];exact hb
  refine A1q (α:=OwS) (fun z=>⟨[],[(31,.int .i64 z.i),(30,.int .i64 (A6k a b d).length),(29,.slice ax (A6k a b d).length cap),(12,.map (some r)),(13,.slice z.a (B2v ((A6k a b d).take z.i) hN).length z.cap),(7,.pointer (some ⟨b7,0,none⟩))],z.sg⟩)
   (fun z w=>w=u.set r true (mapO owV z.l z.ck)∧z.i≤(A6k a b d).length∧(∀e∈z.l,e.2.1 = .bool true∧∃y∈(A6k a b d).take z.i,keyOf y=e.1)∧OwnS 3 1 z.sg z.a (B2v ((A6k a b d).take z.i) hN).length z.cap ((B2v ((A6k a b d).take z.i) hN).map intV)) (fun z=>(A6k a b d).length-z.i) ⟨0,[],0,[],none,0⟩
   ⟨Y,rg,cntL⟩ (Le.refl _) ⟨Y,Nat.zero_le _,by simp,.nil⟩ ?_
  rintro⟨i,l,ck,sg,ag,cg⟩ w ⟨rfl,hi,hl0,hS⟩
  simp only at hi hl0 hS
  dsimp only
  refine su ?_
  refine A1i Y (fun hlt=>?_) (fun hlt=>?_)
  ·simp only [decide_eq_true_eq]at hlt
   have hlt:i<(A6k a b d).length:=oM
   obtain⟨bb,off,p,c,e,f,am,cm,ab,cb,rfl,hv,hs1,hs2,_,_⟩:=rows_recd hrow hrows hlt
   have hv':=hu0 (mapO owV l ck) _ _ hv
   have htk:(A6k a b d).take (i+1)=(A6k a b d).take i++[(A6k a b d)[i]]:=List.take_succ_eq_append_getElem hlt
   generalize (A6k a b d)[i]=y at hs2 htk
   refine su ?_
   refine A6d tab i Y Y Y Y Y Y Y hlt ?_
   refine A2b tab Y Y Y hv' (A1g tab Y Y Y ⟨hs1,hs2⟩) ?_
   refine sw fun bx=>?_
   have hmap:(u.set r true (mapO owV l ck)) r=some (true,mapO owV l ck):=by simp [View.set]
   refine Q_op fun ho=>A_lookup tab (k:=keyOf y) ow_key ho Y Y Y Y Y Y hmap ?_
   clear ho
   cases hf:B2s (keyOf y) l 0 with
   | some jz=>
    obtain⟨j,z⟩:=jz
    obtain⟨_,bo,hm⟩:=findE_some hf
    obtain⟨rfl,y',hy',hk'⟩:=hl0 _ (List.mem_of_getElem? hm)
    have hsame:B2v ((A6k a b d).take (i+1)) hN=B2v ((A6k a b d).take i) hN:=by
     rw [htk,ownersL_snoc]
     unfold addO
     rw [if_pos]
     refine mem_ownersL.2 ⟨y',hy',?_⟩
     simp only [keyOf,Prod.mk.injEq]at hk'
     have e:hN=0∨hN=1∨hN=2:=oM
     rcases e with rfl|rfl|rfl
     ·exact hk'.1
     ·exact hk'.2.1
     ·exact hk'.2.2
    refine su ?_
    refine A0b ⟨⟨i+1,l,ck,sg,ag,cg⟩,_,by simp only;omega,⟨Y,?_,cntL⟩,Le.refl _,Y,hlt,fun e he=>?_,?_⟩
    ·simp only [hsame]
     exact rg
    ·obtain⟨h1,y2,h2,h3⟩:=hl0 e he
     exact⟨h1,y2,by simp only [htk,List.mem_append];exact .inl h2,h3⟩
    ·simp only [hsame];exact hS
   | none=>
    refine su ?_
    refine Q_op fun ho=>A_mapNew tab (k:=keyOf y) ow_key ho Y Y Y Y Y hmap hf ?_
    clear ho
    rw [show(u.set r true (mapO owV l ck)).set r true (mapO owV (l++[(keyOf y,.bool true,ck)]) (ck+1))=u.set r true (mapO owV (l++[(keyOf y,.bool true,ck)]) (ck+1))from by funext b;simp only [View.set];split<;>rfl]
    have hv7w:=hu0 (mapO owV (l++[(keyOf y,.bool true,ck)]) (ck+1)) _ _ hv7'
    refine su ?_
    refine A2b tab Y Y Y hv7w (A0l tab Y Y Y Y) ?_
    refine su ?_
    refine Q_elemA tab hN Y Y Y Y Y Y Y oM ?_
    refine Q_loadB tab (x:=intV (ow y.dusk hN)) Y Y Y ib (A0l tab Y Y Y (by
     have e:hN=0∨hN=1∨hN=2:=oM
     rcases e with rfl|rfl|rfl<;>rfl)) ?_
    refine su ?_
    have hol:(B2v ((A6k a b d).take i) hN).length<2^30:=by
     have h1:=ownersL_len ((A6k a b d).take i) hN
     rw [List.length_take]at h1
     have h2:(3:Nat)^8=6561:=rfl
     omega
    refine Q_op fun ho=>A0o sg [_] ho bod92 Y Y Y Y Y (cnt_tail1 _ _) (Ret1.box (fun hb=>contains_x (RowAt.own hb (fun p=>Nat.le_refl _) hS) hol)) (fun x β' hR=>?_)
    clear ho
    obtain⟨rfl,rfl⟩:=hR
    have hsnoc:=ownersL_snoc ((A6k a b d).take i) y hN
    rw [←htk]at hsnoc
    unfold addO at hsnoc
    have hnew:∀e∈l++[(keyOf y,Value.bool true,ck)],e.2.1 = .bool true∧∃y2∈(A6k a b d).take (i+1),keyOf y2=e.1:=fun e he=>by
     rcases List.mem_append.1 he with he|he
     ·obtain⟨h1,y2,h2,h3⟩:=hl0 e he
      exact⟨h1,y2,by rw [htk,List.mem_append];exact .inl h2,h3⟩
     ·rw [List.mem_singleton.1 he]
      exact⟨Y,y,by rw [htk];simp,Y⟩
    cases hc:inL (B2v ((A6k a b d).take i) hN) (ow y.dusk hN)with
    | true=>
     rw [if_pos (inL_iff.1 hc)]at hsnoc
     refine su ?_
     refine A0b ⟨⟨i+1,_,_,β',ag,cg⟩,_,by simp only;omega,⟨Y,?_,cntL⟩,Le.refl _,Y,hlt,hnew,?_⟩
     ·simp only [hsnoc]
      exact rg
     ·simp only [hsnoc];exact hS
    | false=>
     rw [if_neg (fun e=>by rw [inL_iff.2 e]at hc;cases hc)]at hsnoc
     refine su ?_
     refine A2b tab Y Y Y hv7w (A0l tab Y Y Y Y) ?_
     refine su ?_
     refine Q_elemA tab hN Y Y Y Y Y Y Y oM ?_
     refine Q_loadB tab (x:=intV (ow y.dusk hN)) Y Y Y ib (A0l tab Y Y Y (by
      have e:hN=0∨hN=1∨hN=2:=oM
      rcases e with rfl|rfl|rfl<;>rfl)) ?_
     refine Q_op fun ho=>A3w tab ho Y Y Y Y Y Y Y Y Y (fun b3 c3 hL=>?_)
     clear ho
     refine Q_op fun ho=>A3x tab (xs:=[intV (ow y.dusk hN)]) β' [(b3,c3,3)] [(bx,(putV (Value.agg (List.toArray [.slice none 0 0,.slice none 0 0,.int .i64 0,.int .i64 0,.int .i64 0])).cells.toList 0 (Value.agg (wyC am cm ab cb y).toArray).cells.toList).toArray,175)] ho Y Y Y Y Y Y Y Y Y Y (show ∀p,Pal.cnt p ((b3,c3,3)::(β'++[(bx,(putV (Value.agg (List.toArray [.slice none 0 0,.slice none 0 0,.int .i64 0,.int .i64 0,.int .i64 0])).cells.toList 0 (Value.agg (wyC am cm ab cb y).toArray).cells.toList).toArray,175)]))=Pal.cnt p (β'++([(b3,c3,3)]++[(bx,(putV (Value.agg (List.toArray [.slice none 0 0,.slice none 0 0,.int .i64 0,.int .i64 0,.int .i64 0])).cells.toList 0 (Value.agg (wyC am cm ab cb y).toArray).cells.toList).toArray,175)]))from cntA) hS
      (fun hb=>RowAt.own hb cntL hL) Y Y (by show(2*((B2v ((A6k a b d).take i) hN).length+1)+768)*8≤2^48;omega) oM (fun sg' a' cap' hS'=>?_)
     clear ho
     refine su ?_
     refine A0b ⟨⟨i+1,_,_,sg',a',cap'⟩,_,by simp only;omega,⟨Y,?_,cntL⟩,Le.refl _,Y,hlt,hnew,?_⟩
     ·simp only [hsnoc,List.length_append]
      exact rg
     ·simp only [hsnoc,List.length_append,List.map_append];exact hS'
  ·obtain rfl:i=(A6k a b d).length:=by simp only [decide_eq_false_iff_not]at hlt;omega
   rw [List.take_length]at hS
   rw [List.take_length]
   have hne:A6k a b d≠[]:=fun e=>(laidR_ne (P:=P) (d:=d) (a:=a) (b:=b) (kn:=knows hN d.length) (by rw [hr])).2.2.1 e
   have hm4:∀x∈B2v (A6k a b d) hN,0≤x∧x<4:=fun x hx=>by
    obtain⟨w',h1,h2⟩:=mem_ownersL.1 hx
    have:=best_ow hok h1 hNd
    have:=hok.m.p
    omega
   have hl4:=four (nodup_ownersL _ _) hm4
   generalize hO:B2v (A6k a b d) hN=os at *
   rcases hS.two with ⟨_,_,h0,_,_⟩|⟨b1,c1,rfl,rfl,hS1⟩
   ·exfalso
    obtain⟨w',ws',e⟩:=List.exists_cons_of_ne_nil hne
    have:ow w'.dusk hN∈os:=by rw [←hO];exact mem_ownersL.2 ⟨w',by rw [e];simp,Y⟩
    rw [List.length_eq_zero_iff.1 h0]at this
    cases this
   have hD:I.DBi cg os.toArray c1:=⟨DB.of_own (fun _=>rfl) (by rw [flat_one];exact hS1) fun x _=>trivial⟩
   have hlw:=hlv.trans (hu0 (mapO owV l ck))
   refine su ?_
   refine Q_op fun ho=>A0o [(b1,c1,3)] [] ho bod93 Y Y Y Y Y cntA (I.sort_x hD (by show os.length≤12;omega)) (fun x β' hR=>?_)
   clear ho
   obtain⟨rfl,d',c',rfl,hD',hsz,hpm⟩:=hR
   refine su ?_
   refine A2m tab (by exact .tmp rfl (.tmp rfl .nil)) hlw fun hb hle'=>?_
   obtain⟨hO1,_⟩:=DB.to_own 3 b1 dM hD'.db
   have hss:=Go.Sort.insertionSort_holds swoI os.toArray 0 os.toArray.size (Nat.zero_le _) (Nat.le_refl _)
   rw [←hpm]at hss
   obtain⟨hp1,hp2⟩:=sort_lists hss.1 hss.2
   rw [List.toList_toArray]at hp1
   have hsz':d'.toList.length=os.length:=hp1.length_eq
   rw [flat_one]at hO1
   refine⟨some ⟨b1,0,none⟩,cg,(d'.toList,0),?_,RowAt.own hb (by exact cntL) hO1,?_⟩
   ·simp only [hsz'];rfl
   ·unfold OwnersIs
    rw [hr,if_neg sM]
    refine⟨Y,strict (hp1.nodup_iff.2 (by rw [←hO];exact nodup_ownersL _ _)) hp2,fun x=>?_⟩
    rw [hp1.mem_iff,←hO]
    exact mem_ownersL
 ·refine sw fun bx=>?_
  rw [show(e != 0)=true from by simpa using he]
  refine su ?_
  refine A2m tab (by exact .tmp rfl (.tmp rfl .nil)) hlv fun _ hl'=>?_
  refine⟨none,0,([],e),Y,.inl Y,?_⟩
  unfold OwnersIs
  rw [hr,if_pos he]
end
end Go.Proofs.YtclejblcnfaeaaaGreatDoor
end
section
namespace Go.Pal.To
def B3b(acc:ByteArray):List MA→Int×ByteArray
 | []=>(0,acc)
 | x::l=>if(B1c x).1=0 then B3b (acc++(B1c x).2++⟨#[10]⟩) l else((B1c x).1,⟨#[]⟩)
def textN(l:List MA):Int×ByteArray:=if l.length > 8 then(10,⟨#[]⟩)else B3b ⟨#[]⟩ l
theorem textGo_step{acc:ByteArray}{l:List MA}{i:Nat}(h:i<l.length)(e:(B1c l[i]).1=0):B3b acc (l.drop i)=B3b (acc++(B1c l[i]).2++⟨#[10]⟩) (l.drop (i+1)):=by
 rw [List.drop_eq_getElem_cons h]
 show(if _ then _ else _)=_
 rw [if_pos e]
theorem textGo_bad{acc:ByteArray}{l:List MA}{i:Nat}(h:i<l.length)(e:(B1c l[i]).1≠0):B3b acc (l.drop i)=((B1c l[i]).1,⟨#[]⟩):=by
 rw [List.drop_eq_getElem_cons h]
 show(if _ then _ else _)=_
 rw [if_neg e]
theorem lineB_sz{x:MA}:(lineB x).size≤14:=by
 have:=A1b x.a
 have:=A1b x.b
 have:=A1b x.h
 unfold lineB
 split
 ·simp only [ByteArray.size_append,sz1];omega
 ·split
  ·simp only [ByteArray.size_append,sz1];omega
  ·simp only [ByteArray.size_append,sz1];omega
theorem writeN_sz{x:MA}:(B1c x).2.size≤14:=by
 unfold B1c
 split
 ·exact Nat.zero_le _
 ·split
  ·exact Nat.zero_le _
  ·exact lineB_sz
end Go.Pal.To
end
section
namespace Go.Proofs.YtclejblcnfaeaaaGreatDoor
open Go Go.Pal Go.Pal.To Go.Conc View
open Go.Proofs.Tryz
set_option maxHeartbeats 4000000
set_option maxRecDepth 20000
abbrev txV(l:List MA):Value:=.tuple (List.toArray [.string (textN l).2,intV (textN l).1])
abbrev bdC(p:Option Addr)(a:Option Addr)(len cap:Nat):Array Value:=List.toArray [.pointer p,.slice a len cap]
section
variable{mn:Who}{v:View}{b:Nat}{a:Option Addr}{len cap:Nat}
theorem e167:Ext prog 157 f157 Extern.AbiNoEscape.same:=⟨func157,Y,Y,by kernel_rfl,kR⟩
theorem dep0:prog.depth≠0:=by unfold Program.depth;omega
theorem cells174:prog.cellsOf 164=1+1:=by kernel_rfl
theorem copy1_x:CallsB prog mn 133 #[.pointer (some ⟨b,0,none⟩)] (RetB fun r β'=>r = .tuple (List.toArray [])∧β'=[(b,bdC (some ⟨b,0,none⟩) a len cap,164)]) [(b,bdC none a len cap,164)] v:=by
 refine A0d tab func133 Y nB (args:=[_]) ?_
 refine su ?_
 refine Q_op fun ho=>A_toUnsafe tab ho Y Y Y Y Y Y ib nB ?_
 clear ho
 refine Q_op fun ho=>A_ext ho Y Y e167 Y (fun K E w h=>h) ?_
 clear ho
 refine Q_op fun ho=>A_fromUnsafe tab ho Y Y Y Y Y Y ib Y dep0 cells174 ?_
 clear ho
 refine su ?_
 exact A1o tab [(b,bdC (some ⟨b,0,none⟩) a len cap,164)] .nil (Back.here (fun _=>Nat.le_refl _)) ⟨Y,Y⟩
theorem copy2_x:CallsB prog mn 133 #[.pointer (some ⟨b,0,none⟩)] (RetB fun r β'=>r = .tuple (List.toArray [])∧β'=[(b,bdC (some ⟨b,0,none⟩) a len cap,164)]) [(b,bdC (some ⟨b,0,none⟩) a len cap,164)] v:=by
 refine A0d tab func133 Y nB (args:=[_]) ?_
 refine su ?_
 refine Q_op fun ho=>A_ptrSame tab ho Y Y Y Y Y Y ?_
 clear ho
 refine su ?_
 exact A1o tab [(b,bdC (some ⟨b,0,none⟩) a len cap,164)] .nil (Back.here (fun _=>Nat.le_refl _)) ⟨Y,Y⟩
theorem copy_x{p:Option Addr}(hp:p=none∨p=some ⟨b,0,none⟩):CallsB prog mn 133 #[.pointer (some ⟨b,0,none⟩)] (RetB fun r β'=>r = .tuple (List.toArray [])∧β'=[(b,bdC (some ⟨b,0,none⟩) a len cap,164)]) [(b,bdC p a len cap,164)] v:=by
 rcases hp with rfl|rfl
 ·exact copy1_x
 ·exact copy2_x
theorem strV_one{s:ByteArray}:(strV s).all A2k=true:=by
 rw [List.all_eq_true]
 intro x hx
 obtain⟨c,_,rfl⟩:=List.mem_map.1 hx
 rfl
theorem wstr_x{s:ByteArray}{p:Option Addr}{seg:A0e}{ys:List Value}(hp:p=none∨p=some ⟨b,0,none⟩)(hS:OwnS 5 1 seg a len cap ys)(hl:len+s.size<2^30) :
  CallsB prog mn 87 #[.pointer (some ⟨b,0,none⟩),.string s] (RetB fun r β'=>∃a' cap' seg',r = .tuple (List.toArray [natV s.size,.nilIface])∧β'=(b,bdC (some ⟨b,0,none⟩) a' (len+s.size) cap',164)::seg'∧OwnS 5 1 seg' a' (len+s.size) cap' (ys++strV s)) ((b,bdC p a len cap,164)::seg) v:=by
 refine A0d tab func87 Y nB (args:=[_,_]) ?_
 refine su ?_
 have hC:=copy_x (mn:=mn) (v:=v.union (A0c seg)) (a:=a) (len:=len) (cap:=cap) hp
 refine Q_op fun ho=>A0o [(b,bdC p a len cap,164)] seg ho bod133 Y Y Y Y Y cntA hC (fun x β' hR=>?_)
 clear ho hC
 obtain⟨rfl,rfl⟩:=hR
 refine su ?_
 refine Q_op fun ho=>A_appendS tab (xs:=strV s) seg [] [(b,bdC (some ⟨b,0,none⟩) a len cap,164)] ho Y Y Y Y Y Y Y Y Y Y Y cntA hS Y (by rw [strV_len,Nat.mul_one]) strV_one oM oM (fun sg a' cap' hS'=>?_)
 clear ho
 refine su ?_
 exact A0f tab ((b,bdC (some ⟨b,0,none⟩) a' (len+s.size) cap',164)::sg) (by exact .tmp rfl (.tmp rfl .nil)) (Back.here (show Subm ((b,bdC (some ⟨b,0,none⟩) a' (len+s.size) cap',164)::sg) (sg++[(b,bdC (some ⟨b,0,none⟩) a' (len+s.size) cap',164)])from cntL)) ⟨a',cap',sg,Y,Y,hS'⟩
end
end Go.Proofs.YtclejblcnfaeaaaGreatDoor
end
section
namespace Go.Pal
open Go Go.Conc View
section
variable{P:Program}{E:Value→View→Prop}{w:View}
theorem B3c{b:Nat}{p:Bool}{c:Array Value}{e:TypeId}{f:Nat×Nat}{K:ByteArray→View→Prop}(hw:w b=some (p,.cells c e f)):∀(l:List UInt8) (off:Nat) (acc:ByteArray),(∀i (hi:i<l.length),c[off+i]?=some (.int .u8 (l[i].toNat:Int)))→K (acc++⟨l.toArray⟩) w→
  SemX P (loadBytes ⟨b,off,none⟩ acc l.length) K E w
 | [],off,acc,_,hK=>by
  unfold loadBytes
  rw [show acc++(⟨([]:List UInt8).toArray⟩:ByteArray)=acc from by
   obtain⟨⟨a⟩⟩:=acc
   apply ByteArray.ext
   simp]at hK
  exact hK
 | x::l,off,acc,hc,hK=>by
  show SemX P (loadBytes ⟨b,off,none⟩ acc (l.length+1)) K E w
  unfold loadBytes
  rw [A0a,sx_load]
  refine⟨.int .u8 (x.toNat:Int),?_,?_⟩
  ·unfold View.cell
   simp only [hw,Option.isSome_none,Bool.false_eq_true,if_false]
   exact hc 0 (Nat.zero_lt_succ _)
  ·show SemX P (loadBytes ⟨b,off+1,none⟩ (acc.push ((x.toNat:Int).toNat.toUInt8)) l.length) K E w
   have hx:(x.toNat:Int).toNat.toUInt8=x:=by rw [Int.toNat_natCast];exact UInt8.ofNat_toNat
   rw [hx]
   refine B3c hw l (off+1) (acc.push x) (fun i hi=>?_) ?_
   ·have:=hc (i+1) (by simp;omega)
    rw [show off+1+i=off+(i+1)from by omega]
    simpa using this
   ·rw [show acc.push x++(⟨l.toArray⟩:ByteArray)=acc++⟨(x::l).toArray⟩from by
     obtain⟨⟨a⟩⟩:=acc
     apply ByteArray.ext
     simp [ByteArray.push]]
    exact hK
theorem lies_own{e:TypeId}{m n:Nat}(hd:P.depth≠0)(h1:P.cellsOf e=1)(h:n≤m):liesAt P P.depth e (m / P.cellsOf e) 0 e n=true:=by
 obtain⟨d,hd⟩:=Nat.exists_eq_succ_of_ne_zero hd
 have hs:sameLayout P P.depth e e=true:=by rw [hd];unfold sameLayout;simp
 have hr:rowAt P (sameLayout P P.depth · e) P.depth e (m / P.cellsOf e) 0 n=true:=by
  have hs':=hs
  rw [h1]
  generalize hg:(fun t=>sameLayout P P.depth t e)=g
  have hge:g e=true:=by rw [←hg];exact hs
  rw [hd]
  unfold rowAt
  simp only [h1]
  simp [hge,h]
 generalize hg:P.depth=k at *
 subst hd
 unfold liesAt
 rw [hg,hr];rfl
theorem us_is{pt t2 ty:TypeId}{a:Addr}{n:Int}:∃X Z,Builtin.unsafeString_ #[pt,t2] ty #[.pointer (some a),.int .i64 n]=if n<0 then X else if n > IntKind.i64.max then Z else if n=0 then pure (.string .empty)else(do
   if ←variablesAt a (←elemOf pt) n.toNat then do
    let s ←loadBytes a .empty n.toNat
    freeze a n.toNat
    pure (.string s)
   else unsupported (.unsafePointer "String: not so many bytes at ptr"):Sem Value):=⟨_,_,rfl⟩
theorem B3d{pt t2 ty:TypeId}{b:Nat}{c:Array Value}{e:TypeId}{f:Nat×Nat}{l:List UInt8}{K:Value→View→Prop}(hpt:P.underlying pt=some (.pointer e))(hw:w b=some (true,.cells c e f))
  (hd:P.depth≠0)(h1:P.cellsOf e=1)(hc:∀i (hi:i<l.length),c[i]?=some (.int .u8 (l[i].toNat:Int)))(hl:l.length≤c.size)(hl2:l.length<2^62)(h0:l≠[])
  (hK:K (.string ⟨l.toArray⟩) (w.set b true (.cells c e (frzTo 0 l.length f)))) :
  SemX P (Builtin.unsafeString_ #[pt,t2] ty #[.pointer (some ⟨b,0,none⟩),.int .i64 l.length]) K E w:=by
 have hlen:0<l.length:=List.length_pos_iff.2 h0
 have hv:SemX P (do
   if ←variablesAt ⟨b,0,none⟩ (←elemOf pt) ((l.length:Int).toNat)then do
    let s ←loadBytes ⟨b,0,none⟩ .empty ((l.length:Int).toNat)
    freeze ⟨b,0,none⟩ ((l.length:Int).toNat)
    pure (.string s)
   else unsupported (.unsafePointer "String: not so many bytes at ptr"):Sem Value) K E w:=by
  rw [Int.toNat_natCast]
  unfold elemOf variablesAt
  simp only [A0a]
  rw [A8c hpt]
  simp only [A0h,A1s]
  show ∃p o,w b=some (p,o)∧_
  refine⟨_,_,hw,?_⟩
  show SemX P (if liesAt P P.depth e (c.size / P.cellsOf e) 0 e l.length=true then _ else _) K E w
  rw [lies_own hd h1 hl,if_pos rfl]
  simp only [A0a]
  refine B3c hw l 0 .empty (fun i hi=>by rw [Nat.zero_add];exact hc i hi) ?_
  refine⟨oM,c,e,f,hw,?_⟩
  show K (.string (ByteArray.empty++⟨l.toArray⟩)) _
  rw [show ByteArray.empty++(⟨l.toArray⟩:ByteArray)=⟨l.toArray⟩from by apply ByteArray.ext;simp]
  exact hK
 obtain⟨X,Z,e⟩:=us_is (pt:=pt) (t2:=t2) (ty:=ty) (a:=⟨b,0,none⟩) (n:=(l.length:Int))
 rw [e,if_neg oM,if_neg (by show ¬((l.length:Int) > 9223372036854775807);omega),if_neg oM]
 exact hv
end
section
variable{P:Program}{mn:Who}(T:Tab P){rd:Option Nat}{n:Nat}{Q:Exit→St→View→Prop}{ds:List Deferred}{ρ:Regs}{β:A0e}{v:View}{K:St→View→Prop}
 {ops:Array Oper}{i:Nat}{d:Nat}{ty:TypeId}{pos:String}{af:Array Edge}{gu:Option (Nat×Bool)}
theorem A_unsafeStr{pt t2 e:TypeId}{y z:Operand}{b:Nat}{c:Array Value}{l:List UInt8}{m:Nat}(rest:A0e)(ho:ops[i]?=some ⟨some d,.call {callee:=.builtin .unsafeString,args:=#[y,z],argTypes:=#[pt,t2] },ty,pos,af,gu⟩)(hw:A0p ops gu ρ=some true)(hn:Nat.blt d n=true)
  (hy:ρ.val y=some (.pointer (some ⟨b,0,none⟩)))(hz:ρ.val z=some (.int .i64 m))(hm:m=l.length)(hpt:T.und pt=some (.pointer e))(hsplit:∀p,cnt p β=cnt p ([(b,c,e)]++rest))(hd:P.depth≠0)(h1:P.cellsOf e=1)
  (hc:∀i (hi:i<l.length),c[i]?=some (.int .u8 (l[i].toNat:Int)))(hl:l.length≤c.size)(hl2:l.length<2^62)(h0:l≠[])
  (h:K ⟨ds,(d,.string ⟨l.toArray⟩)::ρ,rest⟩ v):XOp P mn rd n ops i Q K ⟨ds,ρ,β⟩ v:=by
 subst hm
 refine A1w ho (A0j hw) (.inr Y) hn fun ev hev hbk=>?_
 obtain⟨hb1,he⟩:=A3v (A2e hsplit) hbk
 obtain⟨hb2,hb3⟩:=bok_append.1 hb1
 have hview:=A0v hb1
 rw [he]at hview
 have hv:(v.union (A0c β)) b=some (true,.cells c e (0,0)):=by
  rw [hview];exact A1l hb3.disj _ _ (by simp [A0c])
 have hno:(v.union (A0c rest)) b=none:=(hb3.disj b).resolve_right (by simp [A0c])
 simp only [execOp,resolve,show(#[y,z]:Array Operand).map ev=#[ev y,ev z]from by simp,hev _ _ hy,hev _ _ hz,A0a,A0h,invoke,builtin]
 refine B3d (T.und_ok _ _ hpt) hv hd h1 hc hl hl2 h0 ?_
 refine⟨rest,v,⟨hb2,fun j x hj=>?_⟩,h⟩
 unfold View.set
 by_cases hjb:j=b
 ·rw [hjb,hno]at hj;cases hj
 ·rw [if_neg hjb]
  show(v.union (A0c β)) j=some x
  rw [hview]
  exact A0g _ _ _ _ hj
end
end Go.Pal
end
section
namespace Go.Proofs.YtclejblcnfaeaaaGreatDoor
open Go Go.Pal Go.Pal.To Go.Conc View
open Go.Proofs.Tryz
set_option maxHeartbeats 4000000
set_option maxRecDepth 20000
theorem strV_app{s t:ByteArray}:strV (s++t)=strV s++strV t:=by
 unfold strV
 rw [show(s++t).data.toList=s.data.toList++t.data.toList from by simp,List.map_append]
theorem cells5:prog.cellsOf 5=1:=by kernel_rfl
theorem str_x{mn:Who}{v:View}{b:Nat}{p a:Option Addr}{cap:Nat}{seg:A0e}{s:ByteArray}(hS:OwnS 5 1 seg a s.size cap (strV s))(hl:s.size<2^40)(h0:s.size=0→a=none) :
  CallsB prog mn 88 #[.pointer (some ⟨b,0,none⟩)] (RetB fun r β'=>r = .string s∧β'=[]) ((b,bdC p a s.size cap,164)::seg) v:=by
 refine A0d tab func88 Y nB (args:=[_]) ?_
 by_cases hz:s.size=0
 ·obtain rfl:=h0 hz
  have hse:s=⟨#[]⟩:=by
   obtain⟨⟨l⟩⟩:=s
   have:l.length=0:=hz
   rw [List.eq_nil_of_length_eq_zero this]
  rw [hse]
  refine su ?_
  refine A1d [4,10] [0,1,2,3,5,6,7,8,9,4,10,11] A1e Y kR ?_
  refine su ?_
  refine S_do kR (A_sliceData0 Y Y Y Y ⟨Le.refl _,kp,?_⟩)
  refine su ?_
  refine S_do kR (A_string0 Y Y Y Y Y ⟨Le.refl _,kp,?_⟩)
  refine su ?_
  exact A0f tab [] (by exact .tmp rfl .nil) (Back.here cntL) ⟨Y,Y⟩
 ·obtain⟨b2,c2,rfl,rfl,hcap,hcs,hcc⟩:=own_box hS oM
  obtain⟨⟨l⟩⟩:=s
  have hll:(⟨⟨l⟩⟩:ByteArray).size=l.length:=rfl
  refine su ?_
  refine A1d [4,10] [0,1,2,3,5,6,7,8,9,4,10,11] A1e Y kR ?_
  refine su ?_
  refine S_do kR (A_sliceData Y Y Y Y oM ⟨Le.refl _,kp,?_⟩)
  refine su ?_
  refine S_do kR (A_unsafeStr tab (l:=l) (c:=c2) [(b,bdC p (some ⟨b2,0,none⟩) (⟨⟨l⟩⟩:ByteArray).size cap,164)] Y Y Y Y Y hll Y cntA dep0 cells5 (fun i hi=>?_) oM oM (by rintro rfl;exact hz Y) ⟨Le.refl _,kp,?_⟩)
  ·exact hcc i _ (by simp [strV,hi])
  refine su ?_
  exact A0f tab [] (by exact .tmp rfl .nil) (Back.here cntL) ⟨Y,Y⟩
theorem putV_mb{x:MA}:(putV (Value.agg (List.toArray [.int .i64 0,.int .i64 0,.int .i64 0,.int .i64 0])).cells.toList 0 (Value.agg x.cells.toArray).cells.toList).toArray=x.val.cells:=rfl
structure TxS where
 i:Nat
 acc:ByteArray
 p:Option Addr
 a:Option Addr
 c:Nat
 sg:A0e
theorem text_x{mn:Who}{v:View}{a:Option Addr}{c:Nat}{l:List MA}(hA:ActsAt v a l)(hl:l.length<2^40):Ret1 prog mn 39 [.slice a l.length c] (txV l) v:=by
 refine A0d tab func39 Y nB (args:=[_]) ?_
 refine su ?_
 by_cases h8:l.length > 8
 ·rw [show decide (((l.length:Nat):Int) > 8)=true from decide_eq_true oM]
  refine su ?_
  refine A0f tab [] (by exact .tmp rfl (.tmp rfl .nil)) (Back.here cntL) ⟨?_,Y⟩
  unfold txV textN
  rw [if_pos h8];rfl
 rw [show decide (((l.length:Nat):Int) > 8)=false from decide_eq_false oM]
 have hT:textN l=B3b ⟨#[]⟩ l:=by unfold textN;rw [if_neg h8]
 refine sw fun bx=>?_
 obtain⟨b4,rfl⟩:∃x:Nat,x=bx:=⟨bx,rfl⟩
 refine A1q (α:=TxS) (fun z=>⟨[],[(14,.int .i64 z.i),(13,.int .i64 l.length),(12,.slice a l.length c),(4,.pointer (some ⟨b4,0,none⟩))],(b4,bdC z.p z.a z.acc.size z.c,164)::z.sg⟩)
  (fun z u=>u=v∧z.i≤l.length∧z.acc.size≤15*z.i∧(z.p=none∨z.p=some ⟨b4,0,none⟩)∧(z.acc.size=0→z.a=none)∧OwnS 5 1 z.sg z.a z.acc.size z.c (strV z.acc)∧textN l=B3b z.acc (l.drop z.i)) (fun z=>l.length-z.i) ⟨0,⟨#[]⟩,none,none,0,[]⟩ ⟨Y,rg,cntL⟩ (Le.refl _) ⟨Y,Nat.zero_le _,Nat.le_refl _,.inl Y,fun _=>rfl,.nil,hT⟩ ?_
 rintro⟨i,acc,p,ab,cb,sg⟩ u ⟨rfl,hi,hz,hp,hn0,hO,hq⟩
 dsimp only at hi hz hp hn0 hO hq⊢
 refine su ?_
 refine A1i Y (fun h=>?_) (fun h=>?_)
 ·have hli:i<l.length:=by have:=of_decide_eq_true h;omega
  clear h
  obtain⟨b1,off1,p1,c1,e1,f1,rfl,hv1,hc1⟩:=hA.get hli
  replace hc1:=hc1 _ hli
  have hst:=@textGo_step acc l i hli
  have hbd:=@textGo_bad acc l i hli
  have hsz:=@writeN_sz l[i]
  have hW:Ret1 prog mn 37 [l[i].val] (.tuple (List.toArray [.string (B1c l[i]).2,intV (B1c l[i]).1])) u:=write_x
  generalize l[i]=x at *
  obtain⟨⟨e,w⟩,hw⟩:∃y,y=B1c x:=⟨_,rfl⟩
  rw [←hw]at hst hbd hsz hW
  dsimp only at hst hbd hsz hW
  refine su ?_
  refine A6d tab i Y Y Y Y Y Y Y hli ?_
  refine A2b tab Y Y Y hv1 (A1g tab (x:=x.cells) Y Y Y hc1) ?_
  refine sw fun bx=>?_
  obtain⟨b5,rfl⟩:∃x:Nat,x=bx:=⟨bx,rfl⟩
  rw [putV_mb]
  refine Q_op fun ho=>A0u ho bod37 Y Y Y Y Y hW ?_
  clear ho hW
  refine su ?_
  by_cases he:e=0
  ·subst he
   refine su ?_
   refine Q_op fun ho=>A_sadd ho Y Y Y Y (by show _+1<_;omega) ?_
   clear ho
   refine su ?_
   have hz2:(w++(⟨#[10]⟩:ByteArray)).size≤15:=by rw [ByteArray.size_append];show _+1≤_;omega
   have hz3:(acc++w++(⟨#[10]⟩:ByteArray)).size=acc.size+(w++(⟨#[10]⟩:ByteArray)).size:=by rw [ByteArray.append_assoc,ByteArray.size_append]
   have hWs:=wstr_x (mn:=mn) (v:=u.union (A0c [(b5,x.val.cells,40)])) (b:=b4) (s:=w++(⟨#[10]⟩:ByteArray)) hp hO oM
   refine Q_op fun ho=>A0o ((b4,bdC p ab acc.size cb,164)::sg) [(b5,x.val.cells,40)] ho bod87 Y Y Y Y Y cntA hWs (fun y β' hR=>?_)
   clear ho hWs
   obtain⟨a2,c2,sg2,rfl,rfl,hO2⟩:=hR
   rw [←hz3]at hO2⊢
   refine su ?_
   refine A0b ⟨⟨i+1,acc++w++⟨#[10]⟩,some ⟨b4,0,none⟩,a2,c2,sg2⟩,_,by dsimp only;omega,⟨Y,rg,cntL⟩,Le.refl _,Y,hli,?_,.inr Y,fun h=>?_,?_,?_⟩
   ·dsimp only
    omega
   ·dsimp only at h
    have h3:(w++(⟨#[10]⟩:ByteArray)).size=w.size+1:=by rw [ByteArray.size_append];rfl
    omega
   ·dsimp only
    rw [ByteArray.append_assoc,strV_app,←ByteArray.append_assoc]
    exact hO2
   ·dsimp only
    rw [hq,hst rfl]
  ·rw [show(e != 0)=true from by simpa using he]
   refine su ?_
   refine A0f tab [] (by exact .tmp rfl (.tmp rfl .nil)) (Back.here cntL) ⟨?_,Y⟩
   unfold txV
   rw [hq,hbd he];rfl
 ·have hin:i=l.length:=by have:=of_decide_eq_false h;omega
  clear h
  subst hin
  rw [List.drop_length]at hq
  refine su ?_
  refine Q_op fun ho=>A0o ((b4,bdC p ab acc.size cb,164)::sg) [] ho bod88 Y Y Y Y Y cntA (str_x hO oM hn0) (fun x β' hR=>?_)
  clear ho
  obtain⟨rfl,rfl⟩:=hR
  refine su ?_
  refine A0f tab [] (by exact .tmp rfl (.tmp rfl .nil)) (Back.here cntL) ⟨?_,Y⟩
  unfold txV
  rw [hq];rfl
end Go.Proofs.YtclejblcnfaeaaaGreatDoor
end
section
namespace Go.Pal.To
open Go
theorem B3e{P:Int}{d:List Int}{a b:List MA}{h y:Int}{r:List Int×Int}(hl:(A5y P d a b (knows h d.length)).1=0)(hb:A6k a b d≠[])(ha:((A6k a b d).all fun w=>ow w.dusk h.toNat==y)=true)(hr:OwnersIs P d a b h r):r=([y],0):=by
 unfold OwnersIs at hr
 rw [if_neg (by simpa using hl)]at hr
 obtain⟨l,e⟩:=r
 obtain⟨h1,h2,h3⟩:=hr
 simp only at h1 h2 h3
 subst h1
 have hall:∀x∈l,x=y:=fun x hx=>by
  obtain⟨w,hw,rfl⟩:=(h3 x).1 hx
  simpa using List.all_eq_true.1 ha w hw
 have hy:y∈l:=by
  cases hbe:A6k a b d with
  | nil=>exact absurd hbe hb
  | cons w ws=>
   have hw:w∈A6k a b d:=by rw [hbe];exact List.mem_cons_self ..
   refine(h3 y).2 ⟨w,hw,?_⟩
   simpa using List.all_eq_true.1 ha w hw
 cases l with
 | nil=>cases hy
 | cons x t=>
  cases t with
  | nil=>rw [hall x sM]
  | cons z t=>
   have hx:=hall x sM
   have hz:=hall z sM
   have hxz:x<z:=(List.pairwise_cons.1 h2).1 z sM
   omega
theorem owners_err{P:Int}{d:List Int}{a b:List MA}{h e:Int}{r:List Int×Int}(hl:(A5y P d a b (knows h d.length)).1=e)(he:e≠0)(hr:OwnersIs P d a b h r):r=([],e):=by
 unfold OwnersIs at hr
 rw [hl,if_pos he]at hr
 exact hr
end Go.Pal.To
end
section
namespace Go.Proofs.YtclejblcnfaeaaaGreatDoor
open Go Go.Pal Go.Pal.To Go.Conc View
open Go.Proofs.Tryz
set_option maxHeartbeats 4000000
set_option maxRecDepth 20000
def backL:List MA:=[⟨0,1,0,0⟩]
section
variable{mn:Who}{v:View}
theorem bkBack_x:A6l prog mn 40 [] (BookAt backL) v:=by
 refine A3k tab func40 Y nB (args:=[]) ?_
 repeat (first|refine st ?_|refine qb fun bx=>?_)
 refine Q_op fun ho=>A0u ho B0r Y Y Y Y Y A4j ?_
 clear ho
 refine Q_op fun ho=>A3w tab ho Y Y Y Y Y Y Y Y Y (fun bL cL hL=>?_)
 clear ho
 repeat (first|refine st ?_|refine qb fun bx=>?_)
 refine A2m tab (.tmp rfl .nil) (Le.refl _) fun hbk _=>?_
 exact⟨_,_,Y,RowAt.own hbk (by exact cntL) hL⟩
end
theorem m_fair:A4b 3 [0,1]=0:=by decide +kernel
theorem m_none:A4b 0 [0]=1:=by decide +kernel
theorem m_under:A4b 3 []=7:=by decide +kernel
theorem m_who:A4b 3 [0,3]=3:=by decide +kernel
theorem p_sale:paV ⟨#[48,62,49,58,48]⟩ = .tuple (List.toArray [MA.val ⟨0,0,1,0⟩,intV 0]):=by kernel_rfl
theorem p_ask:paV ⟨#[63,48]⟩ = .tuple (List.toArray [MA.val ⟨1,0,0,0⟩,intV 0]):=by kernel_rfl
theorem p_tail:paV ⟨#[48,62,49,58,48,32]⟩ = .tuple (List.toArray [MA.val ⟨0,0,0,0⟩,intV 2]):=by kernel_rfl
theorem p_ten:paV ⟨#[48,62,49,48,58,48]⟩ = .tuple (List.toArray [MA.val ⟨0,0,0,0⟩,intV 2]):=by kernel_rfl
theorem p_void:paV ⟨#[]⟩ = .tuple (List.toArray [MA.val ⟨0,0,0,0⟩,intV 2]):=by kernel_rfl
theorem w_one:wrV ⟨1,1,0,7⟩ = .tuple (List.toArray [.string ⟨#[]⟩,intV 1]):=by kernel_rfl
theorem w_ten:wrV ⟨0,0,10,0⟩ = .tuple (List.toArray [.string ⟨#[]⟩,intV 1]):=by kernel_rfl
theorem w_three:wrV ⟨3,0,0,0⟩ = .tuple (List.toArray [.string ⟨#[]⟩,intV 8]):=by kernel_rfl
theorem r_ask:readL [63,48]=([],2):=by decide +kernel
theorem r_nl:readL [10,10]=([],2):=by decide +kernel
theorem t_back:txV backL = .tuple (List.toArray [.string ⟨#[49,62,48,58,48,10]⟩,intV 0]):=by kernel_rfl
theorem h_second:holdR 3 [0,1] secondL=(0,[⟨#[111,107]⟩,⟨#[111,107]⟩,⟨#[110,111,116]⟩],[0,1]):=by decide +kernel
theorem h_back:holdR 3 [0,1] backL=(0,[⟨#[110,111]⟩],[0,1]):=by decide +kernel
theorem h_twin:holdR 3 [0,1] [⟨0,0,0,0⟩]=(4,[],[]):=by decide +kernel
theorem h_horse:holdR 3 [0,1] [⟨1,0,0,2⟩]=(3,[],[]):=by decide +kernel
theorem h_three:holdR 3 [0,1] [⟨0,3,0,0⟩]=(3,[],[]):=by decide +kernel
theorem l_second:liarsR 3 [0,1] secondL=([0],0):=by decide +kernel
theorem l_first:liarsR 3 [0,1] firstL=([],0):=by decide +kernel
theorem t_fair:tradeR 3 [0,1] backL=(3,[0,1],[],0):=by decide +kernel
theorem c_six:countR 3 [0,1] firstL secondL=(6,5,0):=by decide +kernel
theorem c_one:countR 3 [0,1] overL backL=(1,2,0):=by decide +kernel
theorem c_void:countR 3 [0,1] overL awayL=(0,0,11):=by decide +kernel
theorem o_zero{r:List Int×Int}(h:OwnersIs 3 [0,1] firstL secondL 0 r):r=([0],0):=B3e (by decide +kernel) (by decide +kernel) (by decide +kernel) h
theorem o_one{r:List Int×Int}(h:OwnersIs 3 [0,1] firstL secondL 1 r):r=([2],0):=B3e (by decide +kernel) (by decide +kernel) (by decide +kernel) h
theorem o_two{r:List Int×Int}(h:OwnersIs 3 [0,1] firstL secondL 2 r):r=([],3):=owners_err (by decide +kernel) dM h
theorem b_zero:bothR 3 [0,1] firstL secondL 0=(1,0):=by decide +kernel
theorem b_one:bothR 3 [0,1] firstL secondL 1=(2,0):=by decide +kernel
theorem j_round:joinR 2 [0] roundL roundL=(0,roundL,[0,0,0]):=by decide +kernel
theorem o_round{r:List Int×Int}(h:OwnersIs 2 [0] roundL overL 0 r):r=([1],0):=B3e (by decide +kernel) (by decide +kernel) (by decide +kernel) h
theorem b_round:bothR 2 [0] roundL overL 1=(2,0):=by decide +kernel
theorem s_over{r:Int×List Int×List Int}(h:A8t 3 [0,1] backL overL r):r=(0,[],[]):=by
 unfold A8t at h
 rw [if_neg (by decide +kernel)]at h
 obtain⟨s,hs,h1,h2,h3⟩:=h
 have hs4:s<4:=hs
 have hr0:A7t [0,1] backL overL 0:=by unfold A7t rightS;decide +kernel
 have e:s=0∨s=1∨s=2∨s=3:=oM
 rcases e with rfl|rfl|rfl|rfl
 ·rw [h1];decide +kernel
 ·exact absurd (show A5c _ _ _ _ _ _ from by unfold A5c;decide +kernel) (h3 0 dM hr0)
 ·exact absurd (show A5c _ _ _ _ _ _ from by unfold A5c;decide +kernel) (h3 0 dM hr0)
 ·exact absurd (show A5c _ _ _ _ _ _ from by unfold A5c;decide +kernel) (h3 0 dM hr0)
theorem s_back{r:Int×List Int×List Int}(h:A8t 3 [0,1] backL backL r):r=(0,[0],[0]):=by
 unfold A8t at h
 rw [if_neg (by decide +kernel)]at h
 obtain⟨s,hs,h1,h2,h3⟩:=h
 have hs4:s<4:=hs
 have e:s=0∨s=1∨s=2∨s=3:=oM
 rcases e with rfl|rfl|rfl|rfl
 ·exact absurd h2 (by unfold A7t rightS;decide +kernel)
 ·exact absurd h2 (by unfold A7t rightS;decide +kernel)
 ·exact absurd h2 (by unfold A7t rightS;decide +kernel)
 ·rw [h1];decide +kernel
theorem readE_x{mn:Who}{v:View}{s:ByteArray}{l:List MA}{e:Int}(hs:s.size<2^40)(hr:readL s.data.toList=(l,e)):A6l prog mn 38 [.string s] (fun x u=>∃a c,x = .tuple (List.toArray [.slice a l.length c,intV e])) v:=
 CallsB.toV (read_x hs) fun x β' hR hb=>by
  obtain⟨a,c,h1,h2⟩:=hR
  rw [hr]at h1
  exact⟨a,c,h1⟩
end Go.Proofs.YtclejblcnfaeaaaGreatDoor
end
