/- Part 37. -/
import Derived.Test.YtiolobmgibdfmaaGreatQchecksa
set_option linter.all false
section
namespace Go.Proofs.YtiolobmgibdfmaaGreat
open Go Go.Pal Go.Pal.Vo Go.Conc View
open Go.Proofs.Tryz
set_option maxHeartbeats 4000000
set_option maxRecDepth 20000
section
variable{mn:Who}{v:View}
theorem ownWorld_x{tr so:List Int}{a1 a2:Option Addr}{c1 c2:Nat}(h1:RowAt v a1 (tr.map (.int .i64)))(h2:RowAt v a2 (so.map (.int .i64)))(hl1:tr.length<2^30)(hl2:so.length<2^30) :
  CallsB prog mn 65 #[wldV a1 tr.length c1 a2 so.length c2] (RetB fun r β'=>∃a3 c3 a4 c4 β1 β2,r=wldV a3 tr.length c3 a4 so.length c4∧β'=β1++β2∧OwnS 3 1 β1 a3 tr.length c3 (tr.map (.int .i64))∧OwnS 3 1 β2 a4 so.length c4 (so.map (.int .i64))) [] v:=by
 refine A0f tab func65 Z nB (args:=[_]) ?_
 repeat (first|refine st ?_|refine qb fun bx=>?_)
 rename_i b1
 obtain⟨b2,rfl⟩:∃b:Nat,b=bx:=⟨bx,rfl⟩
 refine A2u [2,5,7] [0,1,3,4,2,5,6,7] A1w Z kR ?_
 repeat (first|refine st ?_|refine qb fun bx=>?_)
 refine S_two 5 kR (A0i [] _ Z bod123 Z Z Z Z Z A1n (ownI_x (RowAt.le h1 (A0b _ _)) hl1) (fun r1 β1 hR1=>⟨Le.refl _,kp,?_⟩)) (A0i [] _ Z bod123 Z Z Z Z Z A1n (ownI_x (RowAt.le h2 (A0b _ _)) hl2) (fun r2 β2 hR2=>⟨Le.refl _,kp,?_⟩))
 ·refine S_do kR (A0i [] _ Z bod123 Z Z Z Z Z A1n (ownI_x (RowAt.le h2 (A0b _ _)) hl2) (fun r2 β2 hR2=>⟨Le.refl _,kp,?_⟩))
  obtain⟨a3,c3,rfl,hX⟩:=hR1
  obtain⟨a4,c4,rfl,hY⟩:=hR2
  repeat (first|refine st ?_|refine qb fun bx=>?_)
  exact A0l tab (xs:=[_]) (β1++β2) (by exact .cell rfl ib rfl .nil) (Back.here cntL) ⟨a3,c3,a4,c4,β1,β2,Z,Z,hX,hY⟩
 ·refine S_do kR (A0i [] _ Z bod123 Z Z Z Z Z A1n (ownI_x (RowAt.le h1 (A0b _ _)) hl1) (fun r1 β1 hR1=>⟨Le.refl _,kp,?_⟩))
  obtain⟨a3,c3,rfl,hX⟩:=hR1
  obtain⟨a4,c4,rfl,hY⟩:=hR2
  repeat (first|refine st ?_|refine qb fun bx=>?_)
  exact A0l tab (xs:=[_]) (β1++β2) (by exact .cell rfl ib rfl .nil) (Back.here cntL) ⟨a3,c3,a4,c4,β1,β2,Z,Z,hX,hY⟩
theorem sameWI_x{l1 l2:List Int}{a1 a2 b1 b2:Option Addr}{c1 c2 d1 d2:Nat}(h1:RowAt v a1 (l1.map (.int .i64)))(h2:RowAt v a2 (l2.map (.int .i64)))(k1:RowAt v b1 (l1.map (.int .i64)))(k2:RowAt v b2 (l2.map (.int .i64)))(hl1:l1.length<2^30)(hl2:l2.length<2^30) :
  Ret1 prog mn 31 [wldV a1 l1.length c1 a2 l2.length c2,wldV b1 l1.length d1 b2 l2.length d2] (.bool true) v:=by
 refine A0f tab func31 Z nB (args:=[_,_]) ?_
 have e:∀{l:List Int} {a b:Option Addr} {c d:Nat},RowAt v a (l.map (.int .i64))→RowAt v b (l.map (.int .i64))→l.length<2^30→Ret1 prog mn 35 [.slice a l.length c,.slice b l.length d] (.bool true) v:=fun {l a b c d} h k hl=>by
  have:=sameInts_x (mn:=mn) (c1:=c) (c2:=d) h k hl hl
  rwa [decide_eq_true rfl]at this
 repeat (first|refine st ?_|refine qb fun bx=>?_)
 refine q1 bod35 Z Z Z Z Z (e h1 k1 hl1) ?_
 repeat (first|refine st ?_|refine qb fun bx=>?_)
 refine q1 bod35 Z Z Z Z Z (e h2 k2 hl2) ?_
 repeat (first|refine st ?_|refine qb fun bx=>?_)
 refine rt0 ?_
 exact⟨Z,Z⟩
end
structure Wr where
 tr:List Int
 so:List Int
 a1:Option Addr
 a2:Option Addr
 c1:Nat
 c2:Nat
abbrev wrC(x:Wr):List Value:=[.slice x.a1 x.tr.length x.c1,.slice x.a2 x.so.length x.c2]
structure WrAt(u:View)(a:Option Addr)(l:List Wr):Prop where
 row:RowAt u a (l.map wrC).flatten
 wd:∀x∈l,RowAt u x.a1 (x.tr.map (.int .i64))∧RowAt u x.a2 (x.so.map (.int .i64))∧x.tr.length≤20∧x.so.length≤20
theorem WrAt.le{u v:View}{a:Option Addr}{l:List Wr}(h:WrAt u a l)(hl:u.Le v):WrAt v a l:=⟨RowAt.le h.row hl,fun x hx=>⟨RowAt.le (h.wd x hx).1 hl,RowAt.le (h.wd x hx).2.1 hl,(h.wd x hx).2.2⟩⟩
theorem WrAt.get{u:View}{a:Option Addr}{l:List Wr}(h:WrAt u a l){i:Nat}(hi:i<l.length):∃b off p c e f,a=some ⟨b,off,none⟩∧u b=some (p,.cells c e f)∧off+i*2+2≤c.size∧c.extract (off+i*2) (off+i*2+2)=(wrC l[i]).toArray:=by
 obtain⟨b,off,p,c,e,f,h1,h2,h3⟩:=RowAt.recs (k:=2) h.row sM dM (by simpa using hi)
 refine⟨b,off,p,c,e,f,h1,h2,?_⟩
 have:=h3 i (by simpa using hi)
 simpa using this
theorem lst_lenP_tab:(List.range 5).all (fun P=>(List.range (2 ^ P)).all fun t=>decide ((lst t).length≤P))=true:=by decide +kernel
theorem lst_lenP{P t:Nat}(hP:P≤4)(ht:t<2 ^ P):(lst t).length≤P:=by
 have:=List.all_eq_true.1 (List.all_eq_true.1 lst_lenP_tab P (List.mem_range.2 oM)) t (List.mem_range.2 ht)
 simpa using this
end Go.Proofs.YtiolobmgibdfmaaGreat
end
section
namespace Go.Pal
open Go Go.Conc View
section
variable{P:Program}{mn:Who}{rd:Option Nat}{n:Nat}{Q:Exit→St→View→Prop}{ds:List Deferred}{ρ:Regs}{β:A0j}{v:View}
 {ops:Array Oper}{i:Nat}{S:List Rec}{done done':List Nat}{ms:List Nat}{v0:View}{todo todo':List Nat}
def manyB(ops:Array Oper)(ms done js:List Nat):Bool:=!(Region.ready .any ops (mkL ops done)).isEmpty&&(Region.ready .any ops (mkL ops done)).all (fun j=>js.contains j)&&js.all (fun j=>ms.contains j)
def AllL(f:Nat→Prop):List Nat→Prop
 | []=>True
 | j::r=>f j∧AllL f r
theorem AllL.at{f:Nat→Prop}:∀{js:List Nat},AllL f js→∀{j:Nat},j∈js→f j
 | x::r,h,j,hj=>by
  rcases List.mem_cons.1 hj with rfl|hj
  ·exact h.1
  ·exact h.2.at hj
theorem S_many(js:List Nat)(hB:manyB ops ms done js=true)(h:AllL (fun j=>XOp P mn (some 4294967295) n ops j (fun _ _ _=>False) (fun σ' u=>v.Le u∧KeepS ops j S σ'.β∧XS P mn n ops ms v0 Q todo S (j::done) σ' u) ⟨ds,ρ,β⟩ v) js):XS P mn n ops ms v0 Q (i::todo) S done ⟨ds,ρ,β⟩ v:=fun a hf hb hv hc=>by
 simp only [manyB,Bool.and_eq_true]at hB
 obtain⟨⟨hb1,hb2⟩,hb3⟩:=hB
 show AnyS P mn ops ms v0 (fun a u=>Post n Q .normal a u) (todo.length+1) (SV S) (mkL ops done) a (v.union (A0e β))
 refine⟨fun e=>(by rw [e]at hb1;cases hb1),fun j hj=>?_⟩
 have hr:=hj
 have hjs:j∈js:=by simpa using List.all_eq_true.1 hb2 j hj
 have h3:ms.contains j=true:=List.all_eq_true.1 hb3 j hjs
 have h:=h.at hjs
 obtain⟨o,ho,hw,hd,hs⟩:=h a hf hb
 unfold OpS
 simp only [ho,hw,if_true]
 have key:∀{a' w},KP n (fun σ' u=>v.Le u∧KeepS ops j S σ'.β∧XS P mn n ops ms v0 Q todo S (j::done) σ' u) a' w→Keeps ops ms v0 (SV S) j (v.union (A0e β)) w∧AnyS P mn ops ms v0 (fun a u=>Post n Q .normal a u) todo.length (SV S) ((mkL ops done).setIfInBounds j true) a' w:=by
  rintro a' w ⟨σ',u,⟨hl,hk,hx⟩,hf',hb',hw'⟩
  refine⟨?_,?_⟩
  ·unfold Keeps
   rw [if_pos h3]
   refine⟨((hv.trans hl).trans (A0b _ _)).trans hw',fun p hp hdp=>?_⟩
   obtain⟨b,c,t,he,hin⟩:=A8l hk p hp hdp
   rw [he]
   intro j' x e
   simp only [A0e]at e
   split at e
   ·rename_i hj';subst hj';cases e;exact hw' _ _ (A1f hb' hin)
   ·cases e
  ·exact A6c (K:=fun a u=>Post n Q .normal a u) (fun a u v hl hp=>post_le hl hp) _ _ _ _ _ _ hw' (hx _ hf' hb' (hv.trans hl) (A7f hc hr B0g))
 refine A2c _ (fun nx w hK=>?_) (fun x w hE=>?_) hs
 ·cases nx with
  | value x=>exact key hK
  | skip=>exact key hK
  | defer d=>exact absurd hK.1 sM
  | enter f args=>exact CallsX.mono hK fun e w' hR=>⟨w',Le.refl _,by
    cases e with
    | ret x=>exact key hR
    | pan ch=>obtain⟨_,_,hq,_⟩:=hR;exact hq⟩
  | round l f tmps assign body=>exact absurd rfl hK.1
  | _=>exact hK.elim
 ·obtain⟨_,_,hq,_⟩:=hE;exact hq
end
end Go.Pal
end
section
namespace Go.Proofs.YtiolobmgibdfmaaGreat
open Go Go.Pal Go.Pal.Vo Go.Conc View
open Go.Proofs.Tryz
set_option maxHeartbeats 4000000
set_option maxRecDepth 20000
theorem XS_re{P:Program}{mn:Who}{n:Nat}{Q:Exit→St→View→Prop}{ops:Array Oper}{S:List Rec}{done ms todo todo':List Nat}{v0 v:View}{σ:St}(h:XS P mn n ops ms v0 Q todo S done σ v)(ht:todo.length=todo'.length):XS P mn n ops ms v0 Q todo' S done σ v:=fun a hf hb hv hc=>by
 have hx:=h a hf hb hv hc
 rw [ht]at hx
 exact hx
theorem OwnWs2.nil:OwnWs2 [] none 0 0 []:=⟨[],[],[],Z,Z,.nil,fun _ _=>⟨Z,fun _ hi=>absurd hi (Nat.not_lt_zero _)⟩⟩
def OwnW2(β:A0j)(t:Value)(w:Wl):Prop:=∃a1 c1 a2 c2,t=wldV a1 (lst w.1).length c1 a2 (lst w.2).length c2∧∀v,Bok β v→RowAt (v.union (A0e β)) a1 ((lst w.1).map natV)∧RowAt (v.union (A0e β)) a2 ((lst w.2).map natV)
theorem OwnW2.zero:OwnW2 [] (.agg #[.slice none 0 0,.slice none 0 0]) (0,0):=⟨none,0,none,0,Z,fun _ _=>⟨.inl Z,.inl Z⟩⟩
section
variable{v:View}
theorem OwnWs2.pick{β:A0j}{a:Option Addr}{n cap:Nat}{W:List Wl}(h:OwnWs2 β a n cap W)(hb:Bok β v):n=W.length∧∃cs,RowAt (v.union (A0e β)) a cs∧cs.length=W.length*2∧∀(i:Nat) (hi:i<W.length),∃a1 c1 a2 c2,cs[i*2]?=some (.slice a1 (lst W[i].1).length c1)∧cs[i*2+1]?=some (.slice a2 (lst W[i].2).length c2)∧
  ∀v,Bok β v→RowAt (v.union (A0e β)) a1 ((lst W[i].1).map natV)∧RowAt (v.union (A0e β)) a2 ((lst W[i].2).map natV):=by
 obtain⟨segO,segR,cs,rfl,hn,hO,hW⟩:=h
 refine⟨hn,cs,RowAt.own hb (show Subm segO (segO++segR)from cntL) hO,(hW v (bok_append.1 hb).1).1,fun i hi=>?_⟩
 obtain⟨a1,c1,a2,c2,k1,k2,_,_⟩:=(hW v (bok_append.1 hb).1).2 i hi
 refine⟨a1,c1,a2,c2,k1,k2,fun v' hb'=>?_⟩
 obtain⟨b1,d1,b2,d2,m1,m2,m3,m4⟩:=(hW v' (bok_append.1 hb').1).2 i hi
 rw [k1]at m1
 rw [k2]at m2
 cases m1
 cases m2
 rw [A1m hb']
 exact⟨RowAt.le m3 (A0b _ _),RowAt.le m4 (A0b _ _)⟩
end
end Go.Proofs.YtiolobmgibdfmaaGreat
end
section
namespace Go.Pal.Vo
def allK(n:Nat):Nat→List (List Nat)
 | 0=>[[]]
 | k+1=>(List.range n).flatMap fun x=>(allK n k).map (x::·)
theorem mem_allK{n:Nat}:∀{k:Nat} {l:List Nat},l.length=k→(∀x∈l,x<n)→l∈allK n k
 | 0,[],_,_=>by simp [allK]
 | 0,x::l,h,_=>by cases h
 | k+1,[],h,_=>by cases h
 | k+1,x::l,h,hx=>by
  simp only [allK,List.mem_flatMap,List.mem_range,List.mem_map]
  exact⟨x,hx x (List.mem_cons_self ..),l,mem_allK (by simpa using h) (fun y hy=>hx y (List.mem_cons_of_mem _ hy)),Z⟩
structure Ord(n:Nat)(l:List Nat):Prop where
 len:l.length=n
 nd:l.Nodup
 lt:∀x∈l,x<n
def mapG(l:List Nat)(g:Nat):Nat:=(List.range l.length).foldl (fun s p=>if bit g p then s+2 ^ l.getD p 0 else s) 0
theorem ord_tab:(List.range 5).all (fun n=>(allK n n).all fun l=>!decide l.Nodup||(((List.range (2 ^ n)).all fun g=>decide (mapG l g<2 ^ n)&&((List.range n).all fun p=>bit (mapG l g) (l.getD p 0)==bit g p)&&((lst (mapG l g)).length==(lst g).length)) &&
  ((List.range (2 ^ n)).all fun h=>(List.range (2 ^ n)).any fun g=>mapG l g==h)))=true:=by decide +kernel
structure MapG(n:Nat)(l:List Nat):Prop where
 lt:∀g,g<2 ^ n→mapG l g<2 ^ n
 bit:∀g,g<2 ^ n→∀p,p<n→Vo.bit (mapG l g) (l.getD p 0)=Vo.bit g p
 len:∀g,g<2 ^ n→(lst (mapG l g)).length=(lst g).length
 onto:∀h,h<2 ^ n→∃g,g<2 ^ n∧mapG l g=h
theorem Ord.map{n:Nat}{l:List Nat}(hn:n≤4)(h:Ord n l):MapG n l:=by
 have h1:=List.all_eq_true.1 (List.all_eq_true.1 ord_tab n (List.mem_range.2 oM)) l (mem_allK h.len h.lt)
 rw [decide_eq_true h.nd]at h1
 simp only [Bool.not_true,Bool.false_or,Bool.and_eq_true,List.all_eq_true,List.mem_range,decide_eq_true_eq,beq_iff_eq,List.any_eq_true]at h1
 exact⟨fun g hg=>(h1.1 g hg).1.1,fun g hg p hp=>(h1.1 g hg).1.2 p hp,fun g hg=>(h1.1 g hg).2,fun k hk=>h1.2 k hk⟩
theorem MapG.inj{n:Nat}{l:List Nat}(hn:n≤4)(M:MapG n l){g k:Nat}(hg:g<2 ^ n)(hk:k<2 ^ n)(e:mapG l g=mapG l k):g=k:=by
 have h256:2 ^ n≤2^8:=Nat.pow_le_pow_right dM oM
 refine bit_ext oM oM fun m hm=>?_
 by_cases hmn:m<n
 ·rw [←M.bit g hg m hmn,←M.bit k hk m hmn,e]
 ·rw [bit_big oM hg hm hmn,bit_big oM hk hm hmn]
section
variable{P F:Nat}{π φ:List Nat}
theorem Ord.getD{n:Nat}{l:List Nat}(h:Ord n l){p:Nat}(hp:p<n):l.getD p 0<n:=by
 have hl:p<l.length:=by rw [h.len];exact hp
 rw [List.getD_eq_getElem?_getD,List.getElem?_eq_getElem hl]
 exact h.lt _ (List.getElem_mem hl)
theorem Ord.inj{n:Nat}{l:List Nat}(h:Ord n l){p q:Nat}(hp:p<n)(hq:q<n)(e:l.getD p 0=l.getD q 0):p=q:=by
 have hl:p<l.length:=by rw [h.len];exact hp
 have hm:q<l.length:=by rw [h.len];exact hq
 rw [List.getD_eq_getElem?_getD,List.getD_eq_getElem?_getD,List.getElem?_eq_getElem hl,List.getElem?_eq_getElem hm]at e
 exact(List.getElem_inj h.nd).1 e
theorem Asc.nodup{P:Nat}{l:List Wl}(h:Asc P l):l.Nodup:=List.Pairwise.imp (fun {x y} hxy e=>by subst e;rw [B1j]at hxy;cases hxy) h
end
end Go.Pal.Vo
end
section
namespace Go.Proofs.YtiolobmgibdfmaaGreat
open Go Go.Pal Go.Pal.Vo Go.Conc View
open Go.Proofs.Tryz
set_option maxHeartbeats 4000000
set_option maxRecDepth 20000
section
variable{mn:Who}{v:View}{wa:Option Addr}{wc:Nat}
theorem ownVouch_x{P F:Int}{ws:List Wd}(hws:WdsAt v wa ws)(hwl:ws.length<2^20):CallsB prog mn 24 #[boV P F wa ws.length wc] (RetB fun r β'=>OwnV β' r P F ws) [] v:=by
 refine A0f tab func24 Z nB (args:=[_]) ?_
 repeat (first|refine st ?_|refine qb fun bx=>?_)
 rename_i bx2
 refine Q_op fun ho=>A3x tab ho Z Z Z Z Z Z Z Z Z (fun b3 c3 hL=>?_)
 clear ho
 repeat (first|refine st ?_|refine qb fun bx=>?_)
 refine Q_op fun ho=>A2w tab (xs:=(ws.map wdC).flatten) [(b3,c3,26)] [] [(bx,(Value.agg #[Value.int .i64 0,Value.int .i64 0,Value.slice none 0 0]).cells,24),(bx2,(boV P F wa ws.length wc).cells,24)] ho Z Z Z Z Z Z Z Z Z Z cntA hL
  (fun hb=>RowAt.le hws (A0b _ _)) (A4m ws) (wds_one ws) (by show(2*(0+ws.length)+768)*32≤2^48;omega) oM (fun seg2 a2 cap2 hS2=>?_)
 clear ho
 rw [Nat.zero_add]at hS2
 rw [show(0+ws.length)=ws.length from Nat.zero_add _]
 repeat (first|refine st ?_|refine qb fun bx=>?_)
 refine A0l tab (xs:=[boV P F a2 ws.length cap2]) seg2 (by exact .cell rfl ib rfl .nil) (Back.here cntL) ?_
 exact⟨a2,cap2,Z,hS2⟩
end
structure Vc where
 P:Int
 F:Int
 ws:List Wd
 a:Option Addr
 cap:Nat
abbrev vcV(x:Vc):Value:=boV x.P x.F x.a x.ws.length x.cap
abbrev vcC(x:Vc):List Value:=[.int .i64 x.P,.int .i64 x.F,.slice x.a x.ws.length x.cap]
structure VcAt(u:View)(a:Option Addr)(l:List Vc):Prop where
 row:RowAt u a (l.map vcC).flatten
 wd:∀x∈l,WdsAt u x.a x.ws∧x.ws.length≤20
theorem VcAt.le{u v:View}{a:Option Addr}{l:List Vc}(h:VcAt u a l)(hl:u.Le v):VcAt v a l:=⟨RowAt.le h.row hl,fun x hx=>⟨(h.wd x hx).1.le hl,(h.wd x hx).2⟩⟩
theorem VcAt.get{u:View}{a:Option Addr}{l:List Vc}(h:VcAt u a l){i:Nat}(hi:i<l.length):∃b off p c e f,a=some ⟨b,off,none⟩∧u b=some (p,.cells c e f)∧off+i*3+3≤c.size∧c.extract (off+i*3) (off+i*3+3)=(vcC l[i]).toArray:=by
 obtain⟨b,off,p,c,e,f,h1,h2,h3⟩:=RowAt.recs (k:=3) h.row sM dM (by simpa using hi)
 refine⟨b,off,p,c,e,f,h1,h2,?_⟩
 have:=h3 i (by simpa using hi)
 simpa using this
section
variable{mn:Who}{v:View}
def SevR(g:Bg)(x:Wd)(y:Vc)(r:Value)(β':A0j):Prop:=∃(P F:Nat) (ws:List Wd) (a1 a2 a:Option Addr) (c1 c2 c:Nat) (β0 βv βx βw:A0j),r = .slice a 3 c∧β'=(βv++(βx++β0))++βw∧VOk P F ws∧ws.length≤7∧g.On (2^20) β0∧
 OwnS 24 3 βv a 3 c ([y,⟨P,F,ws,a1,c1⟩,⟨P,F,ws++[x],a2,c2⟩].map vcC).flatten∧OwnS 26 4 βx a2 (ws++[x]).length c2 ((ws++[x]).map wdC).flatten∧(∀v,Bok βw v→WdsAt (v.union (A0e βw)) a1 ws)
theorem several_x{g:Bg}{N:Nat}{β:A0j}{x:Wd}{y:Vc}(hr:g.ok v)(hB:g.On N β)(hN:N≤1000)(hy:WdsAt v y.a y.ws) :
  CallsB prog mn 22 #[vcV y,wdV x,g.ptr] (RetB fun r β'=>SevR g x y r β') β v:=by
 refine A0f tab func22 Z nB (args:=[_,_,_]) ?_
 repeat (first|refine st ?_|refine qb fun bx=>?_)
 rename_i b3
 obtain⟨b4,rfl⟩:∃b:Nat,b=bx:=⟨bx,rfl⟩
 refine A2f (bin:=β) (by repeat (first|(with_reducible exact A0k)|(with_reducible exact A0u)|(with_reducible exact A1e)|(with_reducible apply A0y))) ?_
 refine Q_op fun ho=>A0i β _ ho bod40 Z Z Z Z Z A0k (B1e (g:=g) (P0:=4) (F0:=3) (wl:=7) (hr.le (A0b _ _)) hB oM ⟨by decide,by decide⟩ dM dM) (fun x β' hR=>?_)
 clear ho hB
 obtain⟨P,F,ws,tr,so,a,a1,a2,cap,c1,c2,β0,βw,βt,βs,hS⟩:=hR
 obtain rfl:=hS.val
 obtain rfl:=hS.box
 have hok:VOk P F ws:=⟨hS.p1,hS.p4,hS.f3,Nat.le_trans hS.w7 dM,hS.all⟩
 refine A0w (β1:=βw++(βt++βs)) (β2:=β0++[(b4,(wdV x).cells,26),(b3,(vcV y).cells,24)]) cntA (fun hb=>?_)
 have hws:WdsAt (v.union (A0e (βw++(βt++βs)))) a ws:=RowAt.own hb (show Subm βw (βw++(βt++βs))from cntL) hS.hw
 have hw7:=hS.w7
 repeat (first|refine st ?_|refine qb fun bx=>?_)
 refine A2u [4,5] [0,1,2,3,4,5,6] A1w Z kR ?_
 repeat (first|refine st ?_|refine qb fun bx=>?_)
 refine S_do kR (A0i [] _ Z bod64 Z Z Z Z Z A1n (with_x (x:=x) (hws.le (A0b _ _)) oM) (fun x β' hR=>⟨Le.refl _,?_,?_⟩))
 ·exact kp
 obtain⟨a3,c3,rfl,hSx⟩:=hR
 rename A0j=>βx
 repeat (first|refine st ?_|refine qb fun bx=>?_)
 refine S_do kR (A3x tab Z Z Z Z Z Z Z Z Z Z (fun b5 c5 hL=>⟨Le.refl _,kp,?_⟩))
 repeat (first|refine st ?_|refine qb fun bx=>?_)
 refine A0l tab (β':=([(b5,c5,24)]++(βx++β0))++(βw++(βt++βs))) (by exact .tmp rfl .nil) (Back.retired hb (Back.here cntL)) ?_
 refine⟨P,F,ws,a,a3,_,cap,c3,_,β0,[(b5,c5,24)],βx,βw++(βt++βs),Z,Z,hok,hw7,?_,hL,hSx,fun v hb=>RowAt.own hb (show Subm βw (βw++(βt++βs))from cntL) hS.hw⟩
 obtain⟨t,sx,h1,h2⟩:=hS.on
 exact⟨t,sx,oM,h2⟩
end
theorem neI(x:Int):(x != x)=false:=by simp
section
variable{v:View}
theorem SevR.at{g:Bg}{x:Wd}{y:Vc}{r:Value}{β' rest β:A0j}(h:SevR g x y r β')(hy:WdsAt v y.a y.ws)(hyl:y.ws.length≤20)(hβ:∀p,Pal.cnt p β=Pal.cnt p (β'++rest)):∃(β1 β2:A0j) (a:Option Addr) (c:Nat) (l:List Vc),r = .slice a 3 c∧l.length=3∧(∀p,Pal.cnt p β=Pal.cnt p (β1++β2))∧(Bok β1 v→VcAt (v.union (A0e β1)) a l):=by
 obtain⟨P,F,ws,a1,a2,a,c1,c2,c,β0,βv,βx,βw,rfl,rfl,hok,h7,hB,hOv,hOx,hOw⟩:=h
 refine⟨(βv++βx)++βw,β0++rest,a,c,[y,⟨P,F,ws,a1,c1⟩,⟨P,F,ws++[x],a2,c2⟩],Z,Z,fun p=>by rw [hβ];simp only [A2g];omega,fun hb=>⟨RowAt.own hb (show Subm βv ((βv++βx)++βw)from cntL) hOv,fun z hz=>?_⟩⟩
 simp only [List.mem_cons,List.mem_nil_iff,or_false]at hz
 rcases hz with rfl|rfl|rfl
 ·exact⟨hy.le (A0b _ _),hyl⟩
 ·refine⟨(hOw v (bok_append.1 hb).1).le ?_,by dsimp only;omega⟩
  rw [A1m hb]
  exact A0b _ _
 ·refine⟨RowAt.own hb (show Subm βx ((βv++βx)++βw)from cntL) hOx,?_⟩
  simp
  omega
end
section
variable{v:View}
theorem SevR.mid{g:Bg}{x:Wd}{y:Vc}{r:Value}{β' rest β:A0j}(h:SevR g x y r β')(hy:WdsAt v y.a y.ws)(hyl:y.ws.length≤20)(hβ:∀p,Pal.cnt p β=Pal.cnt p (β'++rest)):∃(β1 β0:A0j) (a:Option Addr) (c:Nat) (m n:Vc) (P F:Nat),r = .slice a 3 c∧(∀p,Pal.cnt p β=Pal.cnt p (β1++(β0++rest)))∧g.On (2^20) β0∧m.P=P∧m.F=F∧VOk P F m.ws∧m.ws.length≤7∧(Bok β1 v→VcAt (v.union (A0e β1)) a [y,m,n]):=by
 obtain⟨P,F,ws,a1,a2,a,c1,c2,c,β0,βv,βx,βw,rfl,rfl,hok,h7,hB,hOv,hOx,hOw⟩:=h
 refine⟨(βv++βx)++βw,β0,a,c,⟨P,F,ws,a1,c1⟩,⟨P,F,ws++[x],a2,c2⟩,P,F,Z,fun p=>by rw [hβ];simp only [A2g];omega,hB,Z,Z,hok,h7,fun hb=>⟨RowAt.own hb (show Subm βv ((βv++βx)++βw)from cntL) hOv,fun z hz=>?_⟩⟩
 simp only [List.mem_cons,List.mem_nil_iff,or_false]at hz
 rcases hz with rfl|rfl|rfl
 ·exact⟨hy.le (A0b _ _),hyl⟩
 ·refine⟨(hOw v (bok_append.1 hb).1).le ?_,by dsimp only;omega⟩
  rw [A1m hb]
  exact A0b _ _
 ·refine⟨RowAt.own hb (show Subm βx ((βv++βx)++βw)from cntL) hOx,?_⟩
  simp
  omega
end
theorem lst0:lst 0=[]:=by decide
theorem lst0l:(lst 0).length=0:=by decide
theorem own0:OwnS 3 1 [] none (lst 0).length 0 ((lst 0).map natV):=by rw [lst0];exact .nil
theorem lst_tab2:(List.range 8).all (fun p=>(List.range (2 ^ p)).all fun g=>lst (g+2 ^ p)==lst g++[p])=true:=by decide +kernel
theorem lst_snoc{p g:Nat}(hp:p<8)(hg:g<2 ^ p):lst (g+2 ^ p)=lst g++[p]:=
 eq_of_beq (List.all_eq_true.1 (List.all_eq_true.1 lst_tab2 p (List.mem_range.2 hp)) g (List.mem_range.2 hg))
structure So1 where
 p:Nat
 g:Nat
 a:Option Addr
 c:Nat
 seg:A0j
 β:A0j
section
variable{mn:Who}{v:View}
theorem worldOf_x{g:Bg}{N:Nat}{β:A0j}{P F:Nat}{wa:Option Addr}{wn wc:Nat}(hr:g.ok v)(hB:g.On N β)(hN:N+200<2^62)(hP:P≤4)(hF:F≤3) :
  CallsB prog mn 55 #[g.ptr,boV P F wa wn wc] (RetB fun r β'=>∃(w:Wl) (x1 x2:Option Addr) (c1 c2:Nat) (β0 β1 β2:A0j),w.1<2 ^ P∧w.2<2 ^ F∧r = .agg #[.slice x1 (lst w.1).length c1,.slice x2 (lst w.2).length c2]∧β'=β0++(β1++β2)∧
   g.On (N+7) β0∧OwnS 3 1 β1 x1 (lst w.1).length c1 ((lst w.1).map natV)∧OwnS 3 1 β2 x2 (lst w.2).length c2 ((lst w.2).map natV)) β v:=by
 refine A0f tab func55 Z nB (args:=[_,_]) ?_
 repeat (first|refine sr ?_|refine qb fun bx=>?_)
 rename_i b3 b4
 obtain⟨b5,rfl⟩:∃b:Nat,b=bx:=⟨bx,rfl⟩
 refine A6f (fun σ u=>u=v∧∃z:So1,z.g<2 ^ P∧g.On (N+4) z.β∧OwnS 3 1 z.seg z.a (lst z.g).length z.c ((lst z.g).map natV)∧σ=⟨[],[(5,.pointer (some ⟨b5,0,none⟩)),(4,.pointer (some ⟨b4,0,none⟩)),(3,.pointer (some ⟨b3,0,none⟩)),(0,g.ptr)],z.β++(z.seg++[(b5,#[.slice z.a (lst z.g).length z.c,.slice none 0 0],38),(b4,#[.slice none 0 0,.slice none 0 0],38),(b3,#[.int .i64 P,.int .i64 F,.slice wa wn wc],24)])⟩) ?_ ?_
 ·rintro σ u ⟨rfl,⟨_,t,x1,c1,βt,β3⟩,ht,hB,hS1,rfl⟩
  dsimp only at ht hB hS1⊢
  repeat (first|refine st ?_|refine qb fun bx=>?_)
  refine A1o (α:=So1) (fun z=>⟨[],[(7,.int .i64 z.p),(5,.pointer (some ⟨b5,0,none⟩)),(4,.pointer (some ⟨b4,0,none⟩)),(3,.pointer (some ⟨b3,0,none⟩)),(0,g.ptr)],z.β++(z.seg++(βt++[(b5,#[.slice x1 (lst t).length c1,.slice z.a (lst z.g).length z.c],38),(b4,#[.slice none 0 0,.slice none 0 0],38),(b3,#[.int .i64 P,.int .i64 F,.slice wa wn wc],24)]))⟩)
   (fun z w=>u=w∧z.p≤F∧z.g<2 ^ z.p∧g.On (N+4+z.p) z.β∧OwnS 3 1 z.seg z.a (lst z.g).length z.c ((lst z.g).map natV)) (fun z=>F-z.p)
   ⟨0,0,none,0,[],β3⟩ ⟨Z,rg,?_⟩ (Le.refl _) ⟨Z,Nat.zero_le _,Nat.one_pos,hB,own0⟩ ?_
  ·show Subm (β3++([]++(βt++[(b5,#[.slice x1 (lst t).length c1,.slice none (lst 0).length 0],38),(b4,#[.slice none 0 0,.slice none 0 0],38),(b3,#[.int .i64 P,.int .i64 F,.slice wa wn wc],24)]))) (β3++(βt++[(b5,#[.slice x1 (lst t).length c1,.slice none 0 0],38),(b4,#[.slice none 0 0,.slice none 0 0],38),(b3,#[.int .i64 P,.int .i64 F,.slice wa wn wc],24)]))
   rw [lst0l]
   exact cntL
  rintro⟨p,l,a,c,seg,β4⟩ w ⟨rfl,hp,hl,hB,hS⟩
  dsimp only at hp hl hB hS⊢
  have hl8:=lst_len8 l
  repeat (first|refine st ?_|refine qb fun bx=>?_)
  refine A0t Z (fun h=>?_) (fun h=>?_)
  ·have hlt:p<F:=by have:=of_decide_eq_true h;omega
   clear h
   repeat (first|refine st ?_|refine qb fun bx=>?_)
   refine A2f (bin:=β4) (by repeat (first|(with_reducible exact A0k)|(with_reducible exact A0u)|(with_reducible exact A1e)|(with_reducible apply A0y))) ?_
   refine Q_op fun ho=>A0i β4 _ ho bod45 Z Z Z Z Z A0k (B3b (hr.le (A0b _ _)) hB oM 2 oM) (fun x β' hR=>?_)
   clear ho
   clear hB
   rename A0j=>β5
   obtain⟨⟨tt,rfl⟩,hB⟩:=hR
   cases tt
   ·repeat (first|refine st ?_|refine qb fun bx=>?_)
    exact A0c ⟨⟨p+1,l,a,c,seg,β5⟩,u,by dsimp only;omega,⟨Z,rg,cntL⟩,Le.refl _,Z,by dsimp only;omega,Nat.lt_of_lt_of_le hl (Nat.pow_le_pow_right dM (Nat.le_succ p)),hB.le (by dsimp only;omega),hS⟩
   ·have hsn:=lst_snoc (show p<8 by omega) hl
    repeat (first|refine st ?_|refine qb fun bx=>?_)
    refine Q_op fun ho=>A3x tab ho Z Z Z Z Z Z Z Z Z (fun b6 c3 hL=>?_)
    refine Q_op fun ho=>A2w tab (xs:=[natV p]) seg [(b6,c3,3)] (β5++(βt++[(b5,#[.slice x1 (lst t).length c1,.slice a (lst l).length c],38),(b4,#[.slice none 0 0,.slice none 0 0],38),(b3,#[.int .i64 P,.int .i64 F,.slice wa wn wc],24)])) ho Z Z Z Z Z Z Z Z Z Z cntA hS
     (fun hb=>RowAt.own hb cntL hL) Z Z (by show(2*((lst l).length+1)+768)*8≤2^48;omega) oM (fun seg' a' cap' hS'=>?_)
    clear ho
    repeat (first|refine st ?_|refine qb fun bx=>?_)
    refine A0c ⟨⟨p+1,l+2 ^ p,a',cap',seg',β5⟩,u,by dsimp only;omega,⟨Z,rg,?_⟩,Le.refl _,Z,by dsimp only;omega,by dsimp only;rw [Nat.pow_succ];omega,hB.le (by dsimp only;omega),?_⟩
    ·show Subm (β5++(seg'++(βt++[(b5,#[.slice x1 (lst t).length c1,.slice a' (lst (l+2 ^ p)).length cap'],38),(b4,#[.slice none 0 0,.slice none 0 0],38),(b3,#[.int .i64 P,.int .i64 F,.slice wa wn wc],24)]))) (seg'++(β5++(βt++[(b5,#[.slice x1 (lst t).length c1,.slice a' ((lst l).length+1) cap'],38),(b4,#[.slice none 0 0,.slice none 0 0],38),(b3,#[.int .i64 P,.int .i64 F,.slice wa wn wc],24)])))
     rw [hsn,List.length_append,List.length_singleton]
     exact cntL
    ·dsimp only
     rw [hsn,List.length_append,List.length_singleton,List.map_append]
     exact hS'
  ·have hpe:p=F:=by have:=of_decide_eq_false h;omega
   clear h
   subst hpe
   repeat (first|refine st ?_|refine qb fun bx=>?_)
   exact A0l tab (xs:=[_]) (β4++(βt++seg)) (by exact .cell rfl ib rfl .nil) (Back.here cntL) ⟨(t,l),x1,a,c1,c,β4,βt,seg,ht,hl,Z,Z,hB.le oM,hS1,hS⟩
 ·repeat (first|refine st ?_|refine qb fun bx=>?_)
  refine A1o (α:=So1) (fun z=>⟨[],[(6,.int .i64 z.p),(5,.pointer (some ⟨b5,0,none⟩)),(4,.pointer (some ⟨b4,0,none⟩)),(3,.pointer (some ⟨b3,0,none⟩)),(0,g.ptr)],z.β++(z.seg++[(b5,#[.slice z.a (lst z.g).length z.c,.slice none 0 0],38),(b4,#[.slice none 0 0,.slice none 0 0],38),(b3,#[.int .i64 P,.int .i64 F,.slice wa wn wc],24)])⟩)
   (fun z w=>v=w∧z.p≤P∧z.g<2 ^ z.p∧g.On (N+z.p) z.β∧OwnS 3 1 z.seg z.a (lst z.g).length z.c ((lst z.g).map natV)) (fun z=>P-z.p)
   ⟨0,0,none,0,[],β⟩ ⟨Z,rg,?_⟩ (Le.refl _) ⟨Z,Nat.zero_le _,Nat.one_pos,hB,own0⟩ ?_
  ·show Subm (β++([]++[(b5,#[.slice none (lst 0).length 0,.slice none 0 0],38),(b4,#[.slice none 0 0,.slice none 0 0],38),(b3,#[.int .i64 P,.int .i64 F,.slice wa wn wc],24)])) ((b5,#[.slice none 0 0,.slice none 0 0],38)::(b4,#[.slice none 0 0,.slice none 0 0],38)::(b3,#[.int .i64 P,.int .i64 F,.slice wa wn wc],24)::β)
   rw [lst0l]
   exact cntL
  rintro⟨p,l,a,c,seg,β4⟩ w ⟨rfl,hp,hl,hB,hS⟩
  dsimp only at hp hl hB hS⊢
  have hl8:=lst_len8 l
  repeat (first|refine st ?_|refine qb fun bx=>?_)
  refine A0t Z (fun h=>?_) (fun h=>?_)
  ·have hlt:p<P:=by have:=of_decide_eq_true h;omega
   clear h
   repeat (first|refine st ?_|refine qb fun bx=>?_)
   refine A2f (bin:=β4) (by repeat (first|(with_reducible exact A0k)|(with_reducible exact A0u)|(with_reducible exact A1e)|(with_reducible apply A0y))) ?_
   refine Q_op fun ho=>A0i β4 _ ho bod45 Z Z Z Z Z A0k (B3b (hr.le (A0b _ _)) hB oM 2 oM) (fun x β' hR=>?_)
   clear ho
   clear hB
   rename A0j=>β5
   obtain⟨⟨tt,rfl⟩,hB⟩:=hR
   cases tt
   ·repeat (first|refine st ?_|refine qb fun bx=>?_)
    exact A0c ⟨⟨p+1,l,a,c,seg,β5⟩,v,by dsimp only;omega,⟨Z,rg,cntL⟩,Le.refl _,Z,by dsimp only;omega,Nat.lt_of_lt_of_le hl (Nat.pow_le_pow_right dM (Nat.le_succ p)),hB.le (by dsimp only;omega),hS⟩
   ·have hsn:=lst_snoc (show p<8 by omega) hl
    repeat (first|refine st ?_|refine qb fun bx=>?_)
    refine Q_op fun ho=>A3x tab ho Z Z Z Z Z Z Z Z Z (fun b6 c3 hL=>?_)
    refine Q_op fun ho=>A2w tab (xs:=[natV p]) seg [(b6,c3,3)] (β5++[(b5,#[.slice a (lst l).length c,.slice none 0 0],38),(b4,#[.slice none 0 0,.slice none 0 0],38),(b3,#[.int .i64 P,.int .i64 F,.slice wa wn wc],24)]) ho Z Z Z Z Z Z Z Z Z Z cntA hS
     (fun hb=>RowAt.own hb cntL hL) Z Z (by show(2*((lst l).length+1)+768)*8≤2^48;omega) oM (fun seg' a' cap' hS'=>?_)
    clear ho
    repeat (first|refine st ?_|refine qb fun bx=>?_)
    refine A0c ⟨⟨p+1,l+2 ^ p,a',cap',seg',β5⟩,v,by dsimp only;omega,⟨Z,rg,?_⟩,Le.refl _,Z,by dsimp only;omega,by dsimp only;rw [Nat.pow_succ];omega,hB.le (by dsimp only;omega),?_⟩
    ·show Subm (β5++(seg'++[(b5,#[.slice a' (lst (l+2 ^ p)).length cap',.slice none 0 0],38),(b4,#[.slice none 0 0,.slice none 0 0],38),(b3,#[.int .i64 P,.int .i64 F,.slice wa wn wc],24)])) (seg'++(β5++[(b5,#[.slice a' ((lst l).length+1) cap',.slice none 0 0],38),(b4,#[.slice none 0 0,.slice none 0 0],38),(b3,#[.int .i64 P,.int .i64 F,.slice wa wn wc],24)]))
     rw [hsn,List.length_append,List.length_singleton]
     exact cntL
    ·dsimp only
     rw [hsn,List.length_append,List.length_singleton,List.map_append]
     exact hS'
  ·have hpe:p=P:=by have:=of_decide_eq_false h;omega
   clear h
   subst hpe
   repeat (first|refine st ?_|refine qb fun bx=>?_)
   exact A0c ⟨_,_,⟨Z,⟨p,l,a,c,seg,β4⟩,hl,hB.le oM,hS,Z⟩,⟨Z,rg,cntL⟩,Le.refl _⟩
end
end Go.Proofs.YtiolobmgibdfmaaGreat
end
section
namespace Go.Pal
open Go Go.Conc View
section
variable{P:Program}{mn:Who}{rd:Option Nat}{n:Nat}{Q:Exit→St→View→Prop}{ds:List Deferred}{ρ:Regs}{β:A0j}{v:View}
 {ops:Array Oper}{i:Nat}{S:List Rec}{done done':List Nat}{ms:List Nat}{v0:View}{todo todo':List Nat}
theorem xop_more{ρτ ρσ:Regs}{βτ βσ βr:A0j}{d:Nat}{M:Value→A0j→Prop}{K:St→View→Prop}(hr:∀t x,ρτ.get t=some x→ρσ.get t=some x)(hβ:∀p,cnt p βσ=cnt p (βr++βτ))(hdst:∀o,ops[i]?=some o→o.dst=some d)(hdn:Nat.blt d n=true)
  (h:∀u,v.Le u→XOp P mn rd n ops i (fun _ _ _=>False) (fun σ' u'=>u'=u∧∃x βi,M x βi∧σ'=⟨ds,(d,x)::ρτ,βi++βτ⟩) ⟨ds,ρτ,βτ⟩ u)
  (hK:∀x βi,M x βi→K ⟨ds,(d,x)::ρσ,βi++βσ⟩ v):XOp P mn rd n ops i (fun _ _ _=>False) K ⟨ds,ρσ,βσ⟩ v:=fun a hf hb=>by
 obtain⟨hb1,he⟩:=A8s (A4u (l:=βσ) (m:=βτ++βr) fun p=>by rw [hβ p,A2g,A2g];omega) hb
 obtain⟨hb2,hb3⟩:=bok_append.1 hb1
 obtain⟨o,ho,hw,hd,hs⟩:=h _ (A0b v (A0e βr)) a ⟨hf.size,hf.defers,fun t x e=>hf.get t x (hr t x e)⟩ hb3
 have hod:=hdst o ho
 have hdn':A3j n (some d)=true:=hdn
 refine⟨o,ho,hw,hd,?_⟩
 have key:∀{x0 w},KP n (fun σ' u'=>u'=v.union (A0e βr)∧∃x βi,M x βi∧σ'=⟨ds,(d,x)::ρτ,βi++βτ⟩) (a.put o.dst x0) w→KP n K (a.put o.dst x0) w:=by
  rintro x0 w ⟨σ',u',⟨rfl,x,βi,hM,rfl⟩,hf',hb',hw'⟩
  have hg:∀(y:Value) (l:Regs),Regs.get ((d,y)::l) d=some y:=fun y l=>by simp [Regs.get]
  have hx:x0=x:=by
   have h1:=hf'.get d x (hg _ _)
   have h2:=(A1h (x:=x0) hf hdn').get d x0 (hg _ _)
   rw [hod]at h1
   exact Option.some.inj (h2.symm.trans h1)
  subst hx
  have hb4:Bok ((βi++βτ)++βr) v:=bok_append.2 ⟨hb2,hb'⟩
  obtain⟨hb5,he5⟩:=A8s (A4u (l:=(βi++βτ)++βr) (m:=βi++βσ) fun p=>by rw [A2g,A2g,A2g,hβ p,A2g];omega) hb4
  refine⟨⟨ds,(d,x0)::ρσ,βi++βσ⟩,v,hK _ _ hM,?_,hb5,?_⟩
  ·have:=A1h (x:=x0) hf hdn'
   rw [hod]
   exact⟨this.size,this.defers,this.get⟩
  ·show(v.union (A0e (βi++βσ))).Le w
   rw [he5,A1m hb4]
   exact hw'
 show SemX P _ _ _ (v.union (A0e βσ))
 rw [←he,A1m hb1]
 refine A2c _ (fun nx w hK=>?_) (fun x w hE=>hE.elim fun _ h=>h.elim fun _ h=>h.1.elim) hs
 cases nx with
 | value x=>exact key hK
 | skip=>exact key hK
 | defer d'=>
  obtain⟨_,σ',u',⟨rfl,x,βi,hM,rfl⟩,hf',_⟩:=hK
  exfalso
  have h1:=hf'.defers
  have h2:=hf.defers
  simp only [Act.put]at h1
  rw [hod]at h1
  simp only at h1 h2
  rw [h2]at h1
  exact absurd (congrArg List.length h1) sM
 | enter f args=>exact CallsX.mono hK fun e w' hR=>⟨w',Le.refl _,by
   cases e with
   | ret x=>exact key hR
   | pan ch=>obtain⟨_,_,h,_⟩:=hR;exact h.elim⟩
 | round l f tmps assign body=>exact⟨hK.1,RoundX.mono hK.2 fun e w' hR=>⟨w',Le.refl _,by
   cases e with
   | ret x=>exact key hR
   | pan ch=>obtain⟨_,_,h,_⟩:=hR;exact h.elim⟩⟩
 | _=>exact hK.elim
theorem XS_by{ρ':Regs}{β':A0j}(h:XS P mn n ops ms v0 Q todo S done ⟨ds,ρ',β'⟩ v)(hd:mkL ops done=mkL ops done')(ht:todo.length=todo'.length)(hg:∀t x,ρ'.get t=some x→ρ.get t=some x)(hs:Subm β' β):XS P mn n ops ms v0 Q todo' S done' ⟨ds,ρ,β⟩ v:=fun a hf hb hv hc=>by
 obtain⟨h1,h2⟩:=B0r hs hb
 have hx:=h a ⟨hf.size,hf.defers,fun t x e=>hf.get t x (hg t x e)⟩ h1 hv (by rw [hd];exact hc)
 rw [hd,ht]at hx
 exact A6c (K:=fun a u=>Post n Q .normal a u) (fun a u v hl hp=>post_le hl hp) _ _ _ _ _ _ h2 hx
theorem mkL_at{l:List Nat}:∀(j:Nat),(mkL ops l)[j]?=if j<ops.size then some (decide (j∈l))else none:=by
 induction l with
 | nil=>intro j;simp only [mkL,Array.getElem?_replicate];split<;>simp
 | cons i r ih=>
  intro j
  simp only [mkL,Array.getElem?_setIfInBounds,B0g,ih]
  by_cases e:i=j
  ·subst e
   by_cases h:i<ops.size<;>simp [h]
  ·rw [if_neg e]
   by_cases h:j<ops.size
   ·simp [h,Ne.symm e]
   ·simp [h]
theorem mkL_mem{l m:List Nat}(h:∀j,j∈l↔j∈m):mkL ops l=mkL ops m:=by
 apply Array.ext_getElem?
 intro j
 rw [mkL_at,mkL_at]
 simp only [h j]
abbrev NetC:=Nat→Option (Value×A0j)
def netS(W:List Nat)(c:NetC):List Nat:=W.filter fun i=>(c i).isSome
def netR(dst:Nat→Nat)(c:NetC)(ρ0:Regs):List Nat→Regs
 | []=>ρ0
 | i::W=>match c i with|some q=>(dst i,q.1)::netR dst c ρ0 W|none=>netR dst c ρ0 W
def netβ(c:NetC)(β0:A0j):List Nat→A0j
 | []=>β0
 | i::W=>match c i with|some q=>q.2++netβ c β0 W|none=>netβ c β0 W
def netU(c:NetC)(j:Nat)(q:Value×A0j):NetC:=fun i=>if i=j then some q else c i
def netB(ops:Array Oper)(ms W:List Nat)(pre:Nat→List Nat)(done0:List Nat):Nat→List Nat→Bool
 | 0,D=>D==W
 | k+1,D=>!(Region.ready .any ops (mkL ops (D++done0))).isEmpty&&(Region.ready .any ops (mkL ops (D++done0))).all fun j=>W.contains j && !D.contains j&&ms.contains j&&(pre j).all (fun i=>D.contains i)&&netB ops ms W pre done0 k (W.filter fun i=>Nat.beq i j||D.contains i)
variable{dst:Nat→Nat}{c:NetC}{W:List Nat}{ρ0:Regs}{β0:A0j}{j:Nat}{q:Value×A0j}
theorem B5f{i:Nat}(h:i≠j):netU c j q i=c i:=if_neg h
theorem B5g:netU c j q j=some q:=if_pos Z
theorem netR_not:∀{W:List Nat},j∉W→netR dst (netU c j q) ρ0 W=netR dst c ρ0 W
 | [],_=>rfl
 | i::W,h=>by
  simp only [List.mem_cons,not_or]at h
  simp only [netR,B5f (Ne.symm h.1),netR_not h.2]
theorem netβ_not:∀{W:List Nat},j∉W→netβ (netU c j q) β0 W=netβ c β0 W
 | [],_=>rfl
 | i::W,h=>by
  simp only [List.mem_cons,not_or]at h
  simp only [netβ,B5f (Ne.symm h.1),netβ_not h.2]
theorem netβ_put:∀{W:List Nat},W.Nodup→j∈W→c j=none→∀p,cnt p (netβ (netU c j q) β0 W)=cnt p (q.2++netβ c β0 W)
 | i::W,hn,hj,hc,p=>by
  rw [List.nodup_cons]at hn
  by_cases e:i=j
  ·subst e
   simp only [netβ,B5g,hc,netβ_not hn.1]
  ·have hj':j∈W:=by rcases List.mem_cons.1 hj with h|h;exact absurd h.symm e;exact h
   have ih:=netβ_put hn.2 hj' hc p
   simp only [netβ,B5f e]
   cases c i with
   | none=>exact ih
   | some r=>simp only [A2g]at ih⊢;omega
theorem netR_put:∀{W:List Nat},W.Nodup→j∈W→c j=none→(∀i∈W,dst i=dst j→i=j)→∀t x,(netR dst (netU c j q) ρ0 W).get t=some x→Regs.get ((dst j,q.1)::netR dst c ρ0 W) t=some x
 | i::W,hn,hj,hc,hd,t,x,h=>by
  rw [List.nodup_cons]at hn
  by_cases e:i=j
  ·subst e
   simp only [netR,B5g,hc,netR_not hn.1]at h⊢
   exact h
  ·have hj':j∈W:=by rcases List.mem_cons.1 hj with h|h;exact absurd h.symm e;exact h
   simp only [netR,B5f e]at h⊢
   have ih:=netR_put hn.2 hj' hc (fun i hi=>hd i (List.mem_cons_of_mem _ hi)) t x
   cases hci:c i with
   | none=>rw [hci]at h;exact ih h
   | some r=>
    rw [hci]at h
    simp only [Regs.get]at h ih⊢
    cases hb:Nat.beq (dst i) t with
    | false=>
     rw [hb]at h
     simp only [cond_false]at h⊢
     exact ih h
    | true=>
     rw [hb]at h
     have h1:=Nat.eq_of_beq_eq_true hb
     have h2:Nat.beq (dst j) t=false:=by
      cases h3:Nat.beq (dst j) t with
      | false=>rfl
      | true=>exact absurd (hd i (List.mem_cons_self ..) (h1.trans (Nat.eq_of_beq_eq_true h3).symm)) e
     rw [h2]
     exact h
theorem netR_get:∀{W:List Nat},W.Nodup→(∀i∈W,∀k∈W,dst i=dst k→i=k)→∀(V:List Nat),(∀i∈V,i∈W∧(c i).isSome=true)→V.Nodup→(∀i∈W,ρ0.get (dst i)=none)→∀t x,(netR dst c ρ0 V).get t=some x→(netR dst c ρ0 W).get t=some x:=by
 intro W hn hd V hV hVn h0 t x h
 have look:∀(V:List Nat),V.Nodup→(∀i∈V,∀k∈V,dst i=dst k→i=k)→∀t,(netR dst c ρ0 V).get t=(match V.find? (fun i=>Nat.beq (dst i) t&&(c i).isSome)with|some i=>(c i).map (·.1)|none=>ρ0.get t):=by
  intro V
  induction V with
  | nil=>intros;rfl
  | cons i V ih=>
   intro hn hd t
   rw [List.nodup_cons]at hn
   have ih:=ih hn.2 (fun i hi k hk=>hd i (List.mem_cons_of_mem _ hi) k (List.mem_cons_of_mem _ hk)) t
   simp only [netR,List.find?_cons]
   cases hci:c i with
   | none=>simp only [Option.isSome_none,Bool.and_false];exact ih
   | some r=>
    simp only [Regs.get,Option.isSome_some,Bool.and_true]
    cases hb:Nat.beq (dst i) t with
    | true=>simp [hci]
    | false=>simp only [cond_false];exact ih
 rw [look V hVn (fun i hi k hk=>hd i (hV i hi).1 k (hV k hk).1)]at h
 rw [look W hn hd]
 cases hf:V.find? (fun i=>Nat.beq (dst i) t&&(c i).isSome)with
 | some i=>
  rw [hf]at h
  have h1:=List.find?_some hf
  have h2:=List.mem_of_find?_eq_some hf
  simp only [Bool.and_eq_true]at h1
  cases hw:W.find? (fun i=>Nat.beq (dst i) t&&(c i).isSome)with
  | none=>
   have:=List.find?_eq_none.1 hw i (hV i h2).1
   rw [h1.1,h1.2]at this
   exact absurd Z this
  | some k=>
   have h3:=List.find?_some hw
   simp only [Bool.and_eq_true]at h3
   have:k=i:=hd k (List.mem_of_find?_eq_some hw) i (hV i h2).1 ((Nat.eq_of_beq_eq_true h3.1).trans (Nat.eq_of_beq_eq_true h1.1).symm)
   subst this
   exact h
 | none=>
  rw [hf]at h
  cases hw:W.find? (fun i=>Nat.beq (dst i) t&&(c i).isSome)with
  | none=>exact h
  | some k=>
   exfalso
   have h3:=List.find?_some hw
   simp only [Bool.and_eq_true]at h3
   have hk:=List.mem_of_find?_eq_some hw
   have e:=Nat.eq_of_beq_eq_true h3.1
   subst e
   rw [h0 k hk]at h
   cases h
theorem B5h{c c':NetC}:∀{W:List Nat},(∀i∈W,c i=c' i)→netR dst c ρ0 W=netR dst c' ρ0 W
 | [],_=>rfl
 | i::W,h=>by simp only [netR,h i (List.mem_cons_self ..),B5h fun k hk=>h k (List.mem_cons_of_mem _ hk)]
theorem B5i{c c':NetC}:∀{W:List Nat},(∀i∈W,c i=c' i)→netβ c β0 W=netβ c' β0 W
 | [],_=>rfl
 | i::W,h=>by simp only [netβ,h i (List.mem_cons_self ..),B5i fun k hk=>h k (List.mem_cons_of_mem _ hk)]
theorem netβ_part(f:Nat→Bool):∀(W:List Nat) (p:Nat×Array Value×TypeId),cnt p (netβ c β0 W)=cnt p (netβ c [] (W.filter fun i=>!f i)++netβ c β0 (W.filter f))
 | [],p=>rfl
 | i::W,p=>by
  have ih:=netβ_part f W p
  cases hf:f i<;>cases hc:c i<;>simp only [netβ,List.filter_cons,hf,hc,Bool.not_true,Bool.not_false,Bool.false_eq_true,if_true,if_false]<;>simp only [A2g]at ih⊢<;>omega
theorem in_net{b:Nat}{cc:Array Value}{t:TypeId}(h:InB b cc t β0):∀W:List Nat,InB b cc t (netβ c β0 W)
 | []=>h
 | i::W=>by
  simp only [netβ]
  cases c i with
  | none=>exact in_net h W
  | some q=>exact InB.app (in_net h W)
def KeepA:List Rec→A0j→Prop
 | [],_=>True
 | (_,b,c,t)::S,β=>InB b c t β∧KeepA S β
theorem keep_net{βi:A0j}{j:Nat}:∀{S:List Rec},KeepA S β0→KeepS ops j S (βi++netβ c β0 W)
 | [],_=>trivial
 | (_,_,_,_)::_,h=>⟨.inr (InB.app (in_net h.1 W)),keep_net h.2⟩
theorem allL_of{f:Nat→Prop}:∀{js:List Nat},(∀j∈js,f j)→AllL f js
 | [],_=>trivial
 | j::js,h=>⟨h j (List.mem_cons_self ..),allL_of fun k hk=>h k (List.mem_cons_of_mem _ hk)⟩
theorem mem_netS{i:Nat}:i∈netS W c↔i∈W∧(c i).isSome=true:=by unfold netS;exact List.mem_filter
theorem S_net{Sp:Nat→List (Value×A0j)→Value→A0j→Prop}{pre:Nat→List Nat}(W:List Nat)(dst:Nat→Nat)(hW:W.Nodup)(hd:∀i∈W,∀k∈W,dst i=dst k→i=k)(h0:∀i∈W,ρ0.get (dst i)=none)(hpre:∀j∈W,pre j=W.filter fun i=>(pre j).contains i)
    (hop:∀i∈W,(∀o,ops[i]?=some o→o.dst=some (dst i))∧Nat.blt (dst i) n=true)(hS:KeepA S β0)(hB:netB ops ms W pre done W.length []=true)
    (A5e:∀j∈W,∀c:Nat→Value×A0j,(∀i∈pre j,Sp i ((pre i).map c) (c i).1 (c i).2)→∀u,v.Le u→XOp P mn (some 4294967295) n ops j (fun _ _ _=>False) (fun σ' u'=>u'=u∧∃x βi,Sp j ((pre j).map c) x βi∧σ'=⟨ds,(dst j,x)::netR dst (fun i=>some (c i)) ρ0 (pre j),βi++netβ (fun i=>some (c i)) β0 (pre j)⟩) ⟨ds,netR dst (fun i=>some (c i)) ρ0 (pre j),netβ (fun i=>some (c i)) β0 (pre j)⟩ u)
    (hfin:∀c:Nat→Value×A0j,(∀i∈W,Sp i ((pre i).map c) (c i).1 (c i).2)→XS P mn n ops ms v0 Q todo S (W++done) ⟨ds,netR dst (fun i=>some (c i)) ρ0 W,netβ (fun i=>some (c i)) β0 W⟩ v) :
    XS P mn n ops ms v0 Q (W++todo) S done ⟨ds,ρ0,β0⟩ v:=by
  let tot:NetC→Nat→Value×A0j:=fun c i=>(c i).getD default
  have go:∀(k:Nat) (c:NetC),(∀i∈W,∀q,c i=some q→(∀k∈pre i,(c k).isSome=true)∧Sp i ((pre i).map (tot c)) q.1 q.2)→netB ops ms W pre done k (netS W c)=true→XS P mn n ops ms v0 Q (List.replicate k 0++todo) S (netS W c++done) ⟨ds,netR dst c ρ0 W,netβ c β0 W⟩ v:=by
    intro k
    induction k with
    | zero=>
      intro c hc hb
      have e:netS W c=W:=by simpa [netB]using hb
      have hs:∀i∈W,c i=some (tot c i):=fun i hi=>by
        have:=(mem_netS.1 (e.symm ▸ hi:i∈netS W c)).2
        cases hci:c i with
        | none=>rw [hci]at this;cases this
        | some q=>simp [tot,hci]
      have:=hfin (tot c) fun i hi=>(hc i hi _ (hs i hi)).2
      rw [e,B5h hs,B5i hs]
      exact this
    | succ k ih=>
      intro c hc hb
      simp only [netB,Bool.and_eq_true]at hb
      obtain⟨hb1,hb2⟩:=hb
      have hall:∀j∈Region.ready .any ops (mkL ops (netS W c++done)),j∈W∧c j=none∧ms.contains j=true∧(∀i∈pre j,i∈netS W c)∧netB ops ms W pre done k (W.filter fun i=>Nat.beq i j||(netS W c).contains i)=true:=fun j hj=>by
        have h:=List.all_eq_true.1 hb2 j hj
        simp only [Bool.and_eq_true]at h
        obtain⟨⟨⟨⟨h1,h2⟩,h3⟩,h4⟩,h5⟩:=h
        have hjW:j∈W:=by simpa using h1
        have hjn:j∉netS W c:=by simpa using h2
        refine⟨hjW,?_,h3,fun i hi=>by simpa using List.all_eq_true.1 h4 i hi,h5⟩
        cases hcj:c j with
        | none=>rfl
        | some q=>exact absurd (mem_netS.2 ⟨hjW,by rw [hcj];rfl⟩) hjn
      refine S_many (Region.ready .any ops (mkL ops (netS W c++done))) ?_ (allL_of fun j hj=>?_)
      · simp only [manyB,Bool.and_eq_true]
        exact⟨⟨hb1,List.all_eq_true.2 fun j hj=>by simpa using hj⟩,List.all_eq_true.2 fun j hj=>(hall j hj).2.2.1⟩
      · obtain⟨hjW,hcj,_,hp,hn⟩:=hall j hj
        have hsub:∀i∈pre j,i∈W:=fun i hi=>(mem_netS.1 (hp i hi)).1
        have hsome:∀i∈pre j,c i=some (tot c i):=fun i hi=>by
          have h2:=(mem_netS.1 (hp i hi)).2
          cases hci:c i with
          | none=>rw [hci]at h2;cases h2
          | some q=>simp [tot,hci]
        have hpn:(pre j).Nodup:=by rw [hpre j hjW];exact hW.filter _
        have hstep':=A5e j hjW (tot c) fun i hi=>(hc i (hsub i hi) _ (hsome i hi)).2
        rw [←B5h hsome,←B5i hsome]at hstep'
        have htot:∀(q:Value×A0j) (l:List Nat),j∉l→l.map (tot (netU c j q))=l.map (tot c):=fun q l hl=>List.map_congr_left fun i hi=>by
          have:i≠j:=fun e=>hl (e ▸ hi)
          simp only [tot,B5f this]
        refine xop_more (d:=dst j) (M:=Sp j ((pre j).map (tot c))) (ρτ:=netR dst c ρ0 (pre j)) (βτ:=netβ c β0 (pre j)) (βr:=netβ c [] (W.filter fun i=>!(pre j).contains i))
          (netR_get hW hd (pre j) (fun i hi=>mem_netS.1 (hp i hi)) hpn h0) (fun p=>by
            have h:=netβ_part (c:=c) (β0:=β0) (fun i=>(pre j).contains i) W p
            rw [←hpre j hjW]at h
            exact h) (hop j hjW).1 (hop j hjW).2 hstep' fun x βi hM=>⟨Le.refl _,keep_net hS,?_⟩
        have e:netS W (netU c j (x,βi))=W.filter fun i=>Nat.beq i j||(netS W c).contains i:=by
          unfold netS
          refine List.filter_congr fun i hi=>?_
          by_cases hij:i=j
          · subst hij;rw [B5g,Nat.beq_refl];rfl
          · rw [B5f hij,show Nat.beq i j=false from by cases hb:Nat.beq i j with|false=>rfl|true=>exact absurd (Nat.eq_of_beq_eq_true hb) hij]
            rw [Bool.false_or]
            cases hci:c i with
            | none=>simp [hci]
            | some q=>simp [hci,hi]
        refine XS_by (ih (netU c j (x,βi)) (fun i hi q hq=>?_) (by rw [e];exact hn)) (mkL_mem fun i=>?_) Z (netR_put hW hjW hcj fun i hi=>hd i hi j hjW) (fun p=>Nat.le_of_eq (netβ_put hW hjW hcj p))
        · by_cases hij:i=j
          · subst hij
            rw [B5g]at hq
            cases hq
            have hni:i∉pre i:=fun h=>by have:=hsome i h;rw [hcj]at this;cases this
            refine⟨fun k hk=>?_,by rw [htot _ _ hni];exact hM⟩
            rw [B5f (fun e=>by subst e;exact hni hk),hsome k hk];rfl
          · rw [B5f hij]at hq
            obtain⟨h1,h2⟩:=hc i hi q hq
            have hni:j∉pre i:=fun h=>by have:=h1 j h;rw [hcj]at this;cases this
            refine⟨fun k hk=>?_,by rw [htot _ _ hni];exact h2⟩
            rw [B5f (fun e=>by subst e;exact hni hk)]
            exact h1 k hk
        · rw [e,List.mem_append,List.mem_cons,List.mem_append,List.mem_filter]
          constructor
          · rintro(⟨h1,h2⟩|h)
            · rw [Bool.or_eq_true]at h2
              rcases h2 with h2|h2
              · exact .inl (Nat.eq_of_beq_eq_true h2)
              · exact .inr (.inl (by simpa using h2))
            · exact .inr (.inr h)
          · rintro(rfl|h|h)
            · exact .inl ⟨hjW,by rw [Nat.beq_refl];rfl⟩
            · exact .inl ⟨(mem_netS.1 h).1,by rw [Bool.or_eq_true];exact .inr (by simpa using h)⟩
            · exact .inr h
  have hz:∀V:List Nat,netR dst (fun _=>none) ρ0 V=ρ0∧netβ (fun _=>none) β0 V=β0∧netS V (fun _=>none)=[]:=fun V=>by
    induction V with
    | nil=>exact⟨rfl,rfl,rfl⟩
    | cons i V ih=>exact⟨ih.1,ih.2.1,ih.2.2⟩
  obtain⟨z1,z2,z3⟩:=hz W
  have h1:=go W.length (fun _=>none) (fun _ _ _ h=>by cases h) (by rw [z3];exact hB)
  rw [z1,z2,z3]at h1
  exact XS_by h1 Z sM (fun _ _ h=>h) (fun _=>Nat.le_refl _)
end
end Go.Pal
end
