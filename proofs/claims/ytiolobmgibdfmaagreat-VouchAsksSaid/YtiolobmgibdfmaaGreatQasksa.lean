/- 'palfreylaw06.VouchAsks' returns true for all arguments, whatever the goroutines of its calls do, and the arguments read as they did, as its row says it. No condition. -/
import Derived.JoinedOf
import Derived.Test.YtiolobmgibdfmaaGreatQcomb
set_option linter.all false
section
namespace Go.Proofs.YtiolobmgibdfmaaGreat
open Go Go.Pal Go.Proofs.Tryz
theorem bod22:A0n Tryz.prog 22:=⟨_,_,func22,Z,by decide⟩
theorem bod24:A0n Tryz.prog 24:=⟨_,_,func24,Z,by decide⟩
theorem bod32:A0n Tryz.prog 32:=⟨_,_,func32,Z,by decide⟩
theorem bod37:A0n Tryz.prog 37:=⟨_,_,func37,Z,by decide⟩
theorem bod39:A0n Tryz.prog 39:=⟨_,_,func39,Z,by decide⟩
theorem bod84:A0n Tryz.prog 84:=⟨_,_,func84,Z,by decide⟩
theorem bod89:A0n Tryz.prog 89:=⟨_,_,func89,Z,by decide⟩
theorem bod98:A0n Tryz.prog 98:=⟨_,_,func98,Z,by decide⟩
end Go.Proofs.YtiolobmgibdfmaaGreat
end
section
namespace Go.Proofs.YtiolobmgibdfmaaGreat
open Go Go.Pal Go.Pal.Vo Go.Conc View
open Go.Proofs.Tryz
set_option maxHeartbeats 4000000
set_option maxRecDepth 20000
def sameT(ps:List Nat)(w w':Wl):Bool:=ps.all fun x=>bit w.1 x==bit w'.1 x
def okP(ps:List Nat)(f:Nat)(w w':Wl):Bool:=!(sameT ps w w'&&(bit w.2 f != bit w'.2 f))
def A1a(W:List Wl)(ps:List Nat)(f:Nat):Bool:=W.all fun w=>W.all fun w'=>okP ps f w w'
theorem okP_symm{ps:List Nat}{f:Nat}{w w':Wl}:okP ps f w w'=okP ps f w' w:=by
 unfold okP sameT
 congr 2
 ·refine List.all_congr Z fun x=>?_
  cases bit w.1 x<;>cases bit w'.1 x<;>rfl
 ·cases bit w.2 f<;>cases bit w'.2 f<;>rfl
theorem okP_self{ps:List Nat}{f:Nat}{w:Wl}:okP ps f w w=true:=by
 unfold okP
 cases bit w.2 f<;>simp
theorem settled_all{W:List Wl}{ps:List Nat}{f:Nat}(h:∀i (hi:i<W.length) k (hk:k<i),okP ps f W[i] (W[k]'(Nat.lt_trans hk hi))=true):A1a W ps f=true:=by
 refine List.all_eq_true.2 fun w hw=>List.all_eq_true.2 fun w' hw'=>?_
 obtain⟨i,hi,rfl⟩:=List.getElem_of_mem hw
 obtain⟨k,hk,rfl⟩:=List.getElem_of_mem hw'
 rcases Nat.lt_trichotomy k i with h1|rfl|h1
 ·exact h i hi k h1
 ·exact okP_self
 ·rw [okP_symm];exact h k hk i h1
theorem settled_not{W:List Wl}{ps:List Nat}{f i k:Nat}(hi:i<W.length)(hk:k<W.length)(h:okP ps f W[i] W[k]=false):A1a W ps f=false:=by
 cases hs:A1a W ps f with
 | false=>rfl
 | true=>
  have:=List.all_eq_true.1 (List.all_eq_true.1 hs _ (List.getElem_mem hi)) _ (List.getElem_mem hk)
  rw [h]at this;cases this
theorem and_tab:(List.range 5).all (fun P=>(A2e P).all fun ps=>(List.range (2 ^ P)).all fun a=>(List.range (2 ^ P)).all fun b=>(ps.all fun x=>bit a x==bit b x)==(a &&& orG ps==b &&& orG ps))=true:=by decide +kernel
theorem same_and{P a b:Nat}{ps:List Nat}(hP:P≤4)(hps:ps∈A2e P)(ha:a<2 ^ P)(hb:b<2 ^ P):(ps.all fun x=>bit a x==bit b x)=(a &&& orG ps==b &&& orG ps):=
 eq_of_beq (List.all_eq_true.1 (List.all_eq_true.1 (List.all_eq_true.1 (List.all_eq_true.1 and_tab P (List.mem_range.2 oM)) ps hps) a (List.mem_range.2 ha)) b (List.mem_range.2 hb))
theorem A7o{P F:Nat}{ws:List Wd}{W:List Wl}{ps:List Nat}{f:Nat}(hP:P≤4)(hW:W.Perm (A0g P F ws))(hps:ps∈A2e P):A1a W ps f=A9j (A0g P F ws) (orG ps) f:=by
 rw [Bool.eq_iff_iff]
 unfold A1a A9j
 simp only [List.all_eq_true]
 have key:∀w∈A0g P F ws,∀w'∈A0g P F ws,okP ps f w w'=((w.1 &&& orG ps != w'.1 &&& orG ps)||(bit w.2 f==bit w'.2 f)):=fun w hw w' hw'=>by
  unfold okP sameT
  rw [same_and hP hps (worldsL_mem.1 hw).1.1 (worldsL_mem.1 hw').1.1]
  cases h1:(w.1 &&& orG ps==w'.1 &&& orG ps)<;>cases bit w.2 f<;>cases bit w'.2 f<;>simp_all [bne]
 constructor
 ·intro h w hw w' hw'
  rw [←key w hw w' hw']
  exact h w (hW.mem_iff.2 hw) w' (hW.mem_iff.2 hw')
 ·intro h w hw w' hw'
  rw [key w (hW.mem_iff.1 hw) w' (hW.mem_iff.1 hw')]
  exact h w (hW.mem_iff.1 hw) w' (hW.mem_iff.1 hw')
section
variable{mn:Who}{v:View}
theorem isFactG{P F x:Int}{a:Option Addr}{n cap:Nat}:Ret1 prog mn 97 [boV P F a n cap,.int .i64 x] (.bool (decide (0≤x∧x≤IntKind.i64.wrap (F-1)))) v:=by
 refine A0f tab func97 Z nB (args:=[_,_]) ?_
 repeat (first|refine st ?_|refine qb fun bx=>?_)
 refine q1 bod127 Z Z Z Z Z B5c ?_
 repeat refine st ?_
 refine rt0 ?_
 exact⟨Z,Z⟩
end
end Go.Proofs.YtiolobmgibdfmaaGreat
end
section
namespace Go.Pal.Vo
def chF:Nat→Nat→Nat→List (List Nat)
 | 0,_,_=>[[]]
 | k+1,f,n=>(List.range' f (n-f)).flatMap fun i=>(chF k (i+1) n).map (i::·)
theorem ch_level_tab:(List.range 9).all (fun n=>(List.range 9).all fun k=>chF k 0 n==level n k)=true:=by decide +kernel
theorem ch_level{n k:Nat}(hn:n≤8)(hk:k≤8):chF k 0 n=level n k:=by
 have:=List.all_eq_true.1 (List.all_eq_true.1 ch_level_tab n (List.mem_range.2 oM)) k (List.mem_range.2 oM)
 simpa using this
end Go.Pal.Vo
end
section
namespace Go.Proofs.YtiolobmgibdfmaaGreat
open Go Go.Pal Go.Pal.Vo Go.Conc View
open Go.Proofs.Tryz
set_option maxHeartbeats 4000000
set_option maxRecDepth 20000
theorem wlsB_ne{P F:Int}{ws:List Wd}{k:Bool}(h:errB P F ws k=0):A2h P F ws=0∧k=true∧wlsB P F ws k=A0g P.toNat F.toNat ws∧0<(A0g P.toNat F.toNat ws).length:=by
 have e:wlsB P F ws k=A0g P.toNat F.toNat ws:=if_pos h
 unfold errB at h
 by_cases h0:A2h P F ws=0
 ·rw [if_pos h0]at h
  cases k with
  | false=>cases h
  | true=>
   refine⟨h0,Z,e,?_⟩
   cases hw:A0g P.toNat F.toNat ws with
   | nil=>rw [hw]at h;cases h
   | cons x l=>exact Nat.succ_pos _
 ·rw [if_neg h0]at h;exact absurd h h0
end Go.Proofs.YtiolobmgibdfmaaGreat
end
section
namespace Go.Proofs.YtiolobmgibdfmaaGreat
open Go Go.Pal Go.Pal.Vo Go.Conc Go.ConcM Go.RowKit Go.ChangeShapes Go.WideShapes Go.ChangeAt Go.Deep
set_option maxHeartbeats 4000000
set_option maxRecDepth 100000
theorem Opened.both{W:World}{u v:View}(hu:Opened W u)(hv:Opened W v):Opened W (u.union v)∧u.Le (u.union v)∧v.Le (u.union v):=by
 have key:∀b,(u.union v) b=u b∨(u.union v) b=v b:=fun b=>by
  unfold View.union
  cases u b with
  | none=>exact .inr rfl
  | some x=>exact .inl rfl
 refine⟨⟨fun b p o h=>?_,fun b h=>?_⟩,(fun b x h=>by unfold View.union;rw [h]),fun b x h=>?_⟩
 ·rcases key b with e|e
  ·exact hu.ag b p o (e ▸ h)
  ·exact hv.ag b p o (e ▸ h)
 ·obtain⟨o,h⟩:=h
  rcases key b with e|e
  ·exact hu.ro b ⟨o,e ▸ h⟩
  ·exact hv.ro b ⟨o,e ▸ h⟩
 ·unfold View.union
  cases hb:u b with
  | none=>exact h
  | some y=>
   obtain⟨p,o⟩:=y
   obtain⟨p',o'⟩:=x
   have e1:=hu.ag b p o hb
   have e2:=hv.ag b p' o' h
   rw [e1]at e2
   cases e2
   have f1:p=false:=by
    cases p with
    | false=>rfl
    | true=>exact absurd ⟨_,hb⟩ (hu.ro b)
   have f2:p'=false:=by
    cases p' with
    | false=>rfl
    | true=>exact absurd ⟨_,h⟩ (hv.ro b)
   rw [f1,f2]
section
variable{H:Type}{enc:TypeId×Value→H}{W:World}
theorem row3:Tryz.prog.readableRec 3=true:=by kernel_rfl
theorem lt3:3<Tryz.prog.types.size:=of_decide_eq_true kR
variable{base:Nat}{v0:Value}{d0:DataW H}{p:List MemPlace}
theorem openI(hval:Value.okWide Tryz.prog W .any base 3 v0)(h0:DataW.Trod enc Tryz.prog W 0 (fun _=>true) true 3 v0 d0 p)(hlt:∀x∈p,x.block<W.heap.size):∃n:Int,v0 = .int .i64 n∧Still enc W 3 v0 d0 p:=by
 have hargs:Still enc W 3 v0 d0 p:=fun w' hb=>Below.trod laid row3 lt3 h0 hb hlt
 obtain⟨n,rfl⟩:=okWide_int Tryz.underlying3 hval
 exact⟨n,Z,hargs⟩
end
end Go.Proofs.YtiolobmgibdfmaaGreat
end
section
namespace Go.Proofs.YtiolobmgibdfmaaGreat
open Go Go.Pal Go.Pal.Vo Go.Conc View
open Go.Proofs.Tryz
set_option maxHeartbeats 4000000
set_option maxRecDepth 20000
def chG(k n i:Nat):List (List Nat):=(chF k (i+1) n).map (i::·)
def chR(k n i:Nat):List (List Nat):=(List.range' i (n-i)).flatMap (chG k n)
theorem chR_lt{k n i:Nat}(h:i<n):chR k n i=chG k n i++chR k n (i+1):=by
 unfold chR
 rw [show n-i=(n-(i+1))+1 by omega,List.range'_succ,List.flatMap_cons]
theorem chF_tab:(List.range 9).all (fun n=>(List.range 10).all fun f=>(List.range 9).all fun k=>decide ((chF k f n).length≤256)&&(chF k f n).all fun l=>decide (l.length≤8))=true:=by decide +kernel
theorem chF_ok{k f n:Nat}(hn:n≤8)(hf:f≤9)(hk:k≤8):(chF k f n).length≤256∧∀l∈chF k f n,l.length≤8:=by
 have:=List.all_eq_true.1 (List.all_eq_true.1 (List.all_eq_true.1 chF_tab n (List.mem_range.2 oM)) f (List.mem_range.2 oM)) k (List.mem_range.2 oM)
 simpa using this
section
variable{mn:Who}
theorem choose_r{n:Nat}(hn:n≤8):∀(k:Nat) {f:Nat} {v:View},f≤9→k≤8→CallsB prog mn 89 #[.int .i64 f,.int .i64 n,.int .i64 k] (RetB fun r β'=>OwnLL β' r (chF k f n)) [] v:=by
 intro k
 induction k with
 | zero=>
  intro f v hf hk
  refine A0f tab func89 Z nB (args:=[_,_,_]) ?_
  repeat refine st ?_
  refine Q_op fun ho=>A3x tab ho Z Z Z Z Z Z Z Z Z (fun b3 c3 hL=>?_)
  clear ho
  repeat refine st ?_
  refine A0l tab (β':=[(b3,c3,27)]++[]) (by exact .tmp rfl .nil) (Back.here cntL) ?_
  refine⟨some ⟨b3,0,none⟩,1,[(b3,c3,27)],[],[.slice none 0 0],Z,Z,hL,fun v _=>⟨Z,fun i hi=>?_⟩⟩
  have:i=0:=by simp [chF]at hi;omega
  subst this
  exact⟨none,0,Z,.inl Z⟩
 | succ k ih=>
 intro f v hf hk
 have hbig:=(chF_ok (f:=f) hn hf hk).1
 refine A0f tab func89 Z nB (args:=[_,_,_]) ?_
 repeat refine st ?_
 refine A1o (α:=RLS) (fun z=>⟨[],[(8,.int .i64 z.i),(7,.slice z.a z.O.length z.cap),(0,.int .i64 f),(1,.int .i64 n),(2,.int .i64 ((k+1:Nat):Int))],z.seg⟩)
  (fun z u=>u=v.union (A0e z.segR)∧Bok z.segR v∧f≤z.i∧(z.i≤n∨z.i=f)∧z.O++chR k n z.i=chF (k+1) f n∧OwnS 27 1 z.seg z.a z.O.length z.cap z.rows∧∀v,Bok z.segR v→RowsOf (v.union (A0e z.segR)) z.rows z.O) (fun z=>n-z.i)
  ⟨f,[],none,0,[],[],[]⟩ ⟨Z,rg,cntL⟩ (by rw [A2r];exact Le.refl _) ⟨Z,B3u v,Nat.le_refl _,.inr Z,Z,.nil,fun v _=>⟨Z,fun i hi=>absurd hi (Nat.not_lt_zero _)⟩⟩ ?_
 rintro⟨i,O,a,cap,seg,rows,segR⟩ u ⟨rfl,hbR,hfi,hi,hE,hO,hR⟩
 dsimp only at hbR hfi hi hE hO hR⊢
 have hOl:O.length≤256:=by
  have h1:=congrArg List.length hE
  rw [List.length_append]at h1
  omega
 repeat refine st ?_
 refine A0t Z (fun h=>?_) (fun h=>?_)
 ·have hlt:i<n:=by have:=of_decide_eq_true h;omega
  clear h
  have hc:=ih (f:=i+1) (v:=(v.union (A0e segR)).union (A0e seg)) oM oM
  rw [show((i+1:Nat):Int)=(i:Int)+1 by omega]at hc
  rw [show((k+1:Nat):Int)=(k:Int)+1 by omega]
  repeat refine st ?_
  rw [show(k:Int)+1-1=k by omega]
  have hR0:=hR
  clear hR
  refine Q_op fun ho=>A0i [] _ ho bod89 Z Z Z Z Z A1n (hc) (fun x β' hR=>?_)
  clear ho hc
  obtain⟨al,cl,sLO,sLR,rowsL,rfl,rfl,hLO,hLR⟩:=hR
  refine A0w (β1:=sLO++sLR) (β2:=seg) cntA (fun hb2=>?_)
  have hrowL:RowAt ((v.union (A0e segR)).union (A0e (sLO++sLR))) al rowsL:=RowAt.own hb2 (show Subm sLO (sLO++sLR)from cntL) hLO
  have hrsL:RowsOf ((v.union (A0e segR)).union (A0e (sLO++sLR))) rowsL (chF k (i+1) n):=(hLR _ (bok_append.1 hb2).1).le (by rw [A1m hb2];exact A0b _ _)
  have hbn:Bok ((sLO++sLR)++segR) v:=bok_append.2 ⟨hbR,hb2⟩
  have hun:=A1m hbn
  rw [←hun]at hrowL hrsL⊢
  have hRn:∀v,Bok ((sLO++sLR)++segR) v→RowsOf (v.union (A0e ((sLO++sLR)++segR))) rows O:=fun v' hb'=>by
   obtain⟨k1,k2⟩:=bok_append.1 hb'
   exact(hR0 v' k1).le (by rw [A1m hb'];exact A0b _ _)
  obtain⟨hLl,hLm⟩:=chF_ok (k:=k) (f:=i+1) hn oM oM
  rw [chR_lt hlt]at hE
  have hGe:chG k n i=(chF k (i+1) n).map (i::·):=rfl
  rw [hGe]at hE
  clear hR0 hun hb2 hbR hGe hLR hLO
  generalize chF k (i+1) n=L at hrowL hrsL hE hLl hLm⊢
  generalize (sLO++sLR)++segR=segR1 at hbn hrowL hrsL hRn⊢
  repeat refine st ?_
  refine A1o (α:=RLS) (fun z=>⟨[],[(10,.int .i64 z.i),(9,.slice al L.length cl),(8,.int .i64 i),(7,.slice z.a z.O.length z.cap),(0,.int .i64 f),(1,.int .i64 n),(2,.int .i64 ((k:Int)+1))],z.seg⟩)
   (fun z u=>u=v.union (A0e z.segR)∧Bok z.segR v∧z.i≤L.length∧z.O=O++(L.take z.i).map (i::·)∧OwnS 27 1 z.seg z.a z.O.length z.cap z.rows∧(∀v,Bok z.segR v→RowsOf (v.union (A0e z.segR)) z.rows z.O)∧RowAt u al rowsL∧RowsOf u rowsL L) (fun z=>L.length-z.i)
   ⟨0,O,a,cap,seg,rows,segR1⟩ ⟨Z,rg,cntL⟩ (Le.refl _) ⟨Z,hbn,Nat.zero_le _,by simp,hO,hRn,hrowL,hrsL⟩ ?_
  clear hO hRn hrowL hrsL hbn a cap seg rows segR segR1 sLO sLR
  rintro⟨x,O',a,cap,seg,rows,segR⟩ u ⟨rfl,hbR,hx,hO',hO,hR,hrowL,hrsL⟩
  dsimp only at hbR hx hO' hO hR hrowL hrsL⊢
  subst hO'
  have hOl':(O++(L.take x).map (i::·)).length≤512:=by
   rw [List.length_append,List.length_map,List.length_take];omega
  repeat refine st ?_
  refine A0t Z (fun h=>?_) (fun h=>?_)
  ·have hxl:x<L.length:=by have:=of_decide_eq_true h;omega
   clear h
   obtain⟨bb,off,q,c,e,fr,ai,ci,rfl,hv,hc,hrowi⟩:=rows_get hrowL hrsL hxl
   have hl8:=hLm _ (List.getElem_mem hxl)
   have htake:(L.take (x+1)).map (i::·)=(L.take x).map (i::·)++[i::L[x]]:=by rw [List.take_succ_eq_append_getElem hxl,List.map_append];rfl
   generalize L[x]=l at hc hrowi hl8 htake
   repeat refine st ?_
   refine Q_op fun ho=>A3x tab ho Z Z Z Z Z Z Z Z Z (fun b4 c4 hL4=>?_)
   clear ho
   repeat refine st ?_
   refine A2t tab x Z Z Z Z Z Z Z hxl ?_
   refine A2p tab Z Z Z hv (A1b tab Z Z Z (by rw [Nat.mul_one];exact hc)) ?_
   refine Q_op fun ho=>A2w tab (xs:=l.map natV) [(b4,c4,3)] [] seg ho Z Z Z Z Z Z Z Z Z Z cntA hL4
    (fun hb=>RowAt.le hrowi (A0b _ _)) sM (nats_one l natV fun _=>rfl) (by show(2*(1+l.length)+768)*8≤2^48;omega) oM (fun seg2 a2 cap2 hS2=>?_)
   clear ho
   refine Q_op fun ho=>A3x tab ho Z Z Z Z Z Z Z Z Z (fun b5 c5 hL5=>?_)
   clear ho
   refine Q_op fun ho=>A2w tab (xs:=[.slice a2 (1+l.length) cap2]) seg [(b5,c5,27)] seg2 ho Z Z Z Z Z Z Z Z Z Z cntA hO
    (fun hb=>RowAt.own hb cntL hL5) Z Z (by show(2*((O++(L.take x).map (i::·)).length+1)+768)*24≤2^48;omega) oM (fun seg3 a3 cap3 hS3=>?_)
   clear ho
   refine A0w (β1:=seg2) (β2:=seg3) cntA (fun hb2=>?_)
   have hbn:Bok (seg2++segR) v:=bok_append.2 ⟨hbR,hb2⟩
   have hun:=A1m hbn
   rw [←hun]
   have hlen:(O++(L.take (x+1)).map (i::·)).length=(O++(L.take x).map (i::·)).length+1:=by rw [htake,←List.append_assoc,List.length_append];rfl
   repeat refine st ?_
   refine A0c ⟨⟨x+1,O++(L.take (x+1)).map (i::·),a3,cap3,seg3,rows++[.slice a2 (1+l.length) cap2],seg2++segR⟩,_,(show L.length-(x+1)<L.length-x by omega),⟨Z,?_,cntL⟩,Le.refl _,Z,hbn,hxl,Z,?_,?_,?_,?_⟩
   ·show SubR [_,_,_,(7,.slice a3 (O++(L.take (x+1)).map (i::·)).length cap3),_,_,_] _
    rw [hlen]
    exact rg
   ·show OwnS 27 1 seg3 a3 (O++(L.take (x+1)).map (i::·)).length cap3 _
    rw [hlen]
    exact hS3
   ·intro v' hb'
    obtain⟨k1,k2⟩:=bok_append.1 hb'
    show RowsOf _ (rows++[_]) (O++(L.take (x+1)).map (i::·))
    rw [htake,←List.append_assoc]
    refine RowsOf.snoc ((hR v' k1).le ?_) (by simp;omega) ?_
    ·rw [A1m hb'];exact A0b _ _
    ·rw [A1m hb']
     exact RowAt.own k2 (fun _=>Nat.le_refl _) hS2
   ·rw [hun];exact RowAt.le hrowL (A0b _ _)
   ·rw [hun];exact hrsL.le (A0b _ _)
  ·have hxe:x=L.length:=by have:=of_decide_eq_false h;omega
   clear h
   subst hxe
   rw [List.take_length]at hO hR⊢
   repeat refine st ?_
   refine A0c ⟨⟨i+1,O++L.map (i::·),a,cap,seg,rows,segR⟩,_,by dsimp only;omega,⟨Z,rg,cntL⟩,Le.refl _,Z,hbR,by dsimp only;omega,.inl hlt,?_,hO,hR⟩
   show(O++L.map (i::·))++chR k n (i+1)=_
   rw [List.append_assoc]
   exact hE
 ·have hin:chR k n i=[]:=by
   have:=of_decide_eq_false h
   unfold chR
   rw [show n-i=0 by omega];rfl
  clear h
  rw [hin,List.append_nil]at hE
  subst hE
  repeat refine st ?_
  refine A0l tab (β':=seg++segR) (by exact .tmp rfl .nil) (Back.retired hbR (Back.here cntL)) ?_
  exact⟨a,cap,seg,segR,rows,Z,Z,hO,hR⟩
end
section
variable{mn:Who}{v:View}
theorem proves_r{W:List Wl}{cs_:List Value}{ps:List Nat}{aw ap:Option Addr}{cw cp f:Nat}(hrow:RowAt v aw cs_)(hW:WRows v cs_ W)(hWl:W.length≤128)(hps:RowAt v ap (ps.map natV))(hpl:ps.length≤8)(hp8:∀x∈ps,x<8)(hf:f<8) :
  Ret1 prog mn 98 [.slice aw W.length cw,.slice ap ps.length cp,.int .i64 f] (.bool (A1a W ps f)) v:=by
 refine A0f tab func98 Z nB (args:=[_,_,_]) ?_
 repeat refine st ?_
 refine A1o (α:=Nat) (fun i=>⟨[],[(7,.int .i64 i),(0,.slice aw W.length cw),(1,.slice ap ps.length cp),(2,.int .i64 f)],[]⟩)
  (fun i u=>v=u∧i≤W.length∧∀i' (hi:i'<W.length) k (hk:k<i'),i'<i→okP ps f W[i'] (W[k]'(Nat.lt_trans hk hi))=true) (fun i=>W.length-i) 0 ⟨Z,rg,cntL⟩ (Le.refl _) ⟨Z,Nat.zero_le _,fun i' _ k _ h=>absurd h (Nat.not_lt_zero _)⟩ ?_
 rintro i u ⟨rfl,hi,hJ⟩
 repeat refine st ?_
 refine A0t Z (fun h=>?_) (fun h=>?_)
 ·have hil:i<W.length:=by have:=of_decide_eq_true h;omega
  clear h
  obtain⟨bb,off,q,c,e,fr,rfl,hv,hc⟩:=WRows.at hrow hW hil
  obtain⟨x1,d1,x2,d2,m1,m2,m3,m4⟩:=hc i hil
  repeat refine st ?_
  refine A1o (α:=Nat) (fun k=>⟨[],[(8,.int .i64 k),(7,.int .i64 i),(0,.slice (some ⟨bb,off,none⟩) W.length cw),(1,.slice ap ps.length cp),(2,.int .i64 f)],[]⟩)
   (fun k u=>v=u∧k≤i∧∀k' (hk:k'<i),k'<k→okP ps f W[i] (W[k']'(Nat.lt_trans hk hil))=true) (fun k=>i-k) 0 ⟨Z,rg,cntL⟩ (Le.refl _) ⟨Z,Nat.zero_le _,fun k' _ h=>absurd h (Nat.not_lt_zero _)⟩ ?_
  rintro k u ⟨rfl,hk,hK⟩
  repeat refine st ?_
  refine A0t Z (fun h=>?_) (fun h=>?_)
  ·have hki:k<i:=by have:=of_decide_eq_true h;omega
   clear h
   have hkl:k<W.length:=oM
   obtain⟨y1,g1,y2,g2,n1,n2,n3,n4⟩:=hc k hkl
   have hKs:okP ps f W[i] W[k]=true→∀k' (hk:k'<i),k'<k+1→okP ps f W[i] (W[k']'(Nat.lt_trans hk hil))=true:=fun h k' hk' hlt=>by
    rcases Nat.lt_succ_iff_lt_or_eq.1 hlt with hlt|rfl
    ·exact hK k' hk' hlt
    ·exact h
   have hbad:=settled_not (ps:=ps) (f:=f) hil hkl
   generalize W[i]=wi at m1 m2 m3 m4 hKs hbad
   generalize W[k]=wk at n1 n2 n3 n4 hKs hbad
   repeat refine st ?_
   refine A1o (α:=Nat) (fun x=>⟨[],[(10,.int .i64 x),(9,.bool (sameT (ps.take x) wi wk)),(8,.int .i64 k),(7,.int .i64 i),(0,.slice (some ⟨bb,off,none⟩) W.length cw),(1,.slice ap ps.length cp),(2,.int .i64 f)],[]⟩)
    (fun x u=>v=u∧x≤ps.length) (fun x=>ps.length-x) 0 ⟨Z,rg,cntL⟩ (Le.refl _) ⟨Z,Nat.zero_le _⟩ ?_
   rintro x u ⟨rfl,hx⟩
   repeat refine st ?_
   refine A0t Z (fun h=>?_) (fun h=>?_)
   ·have hxl:x<ps.length:=by have:=of_decide_eq_true h;omega
    clear h
    obtain⟨bp,op,qp,cp_,ep,fp,rfl,hvp,hcp⟩:=hps.get hxl
    have hpx:=hcp x hxl
    have hx8:=hp8 _ (List.getElem_mem hxl)
    have htk:sameT (ps.take (x+1)) wi wk=(sameT (ps.take x) wi wk&&(bit wi.1 ps[x]==bit wk.1 ps[x])):=by
     unfold sameT
     rw [List.take_succ_eq_append_getElem hxl,List.all_append,List.all_cons,List.all_nil,Bool.and_true]
    generalize ps[x]=d at hpx hx8 htk
    repeat refine st ?_
    refine lexL A1w Z kR ?_
    cases hs:sameT (ps.take x) wi wk with
    | true=>
     rw [hs,Bool.true_and]at htk
     repeat refine st ?_
     refine A2i tab i Z Z Z Z Z Z Z hil ?_
     repeat refine st ?_
     refine A9d tab Z Z Z hv (A1b tab Z Z Z m1) ?_
     repeat refine st ?_
     refine A2i tab x Z Z Z Z Z Z Z hxl ?_
     refine A9d tab Z Z Z hvp (A1b tab Z Z Z (by rw [Nat.mul_one];exact hpx)) ?_
     refine A3r bod93 Z Z Z Z Z (B5d m3 hx8) ?_
     repeat refine st ?_
     refine A2i tab k Z Z Z Z Z Z Z hkl ?_
     repeat refine st ?_
     refine A9d tab Z Z Z hv (A1b tab Z Z Z n1) ?_
     repeat refine st ?_
     refine A2i tab x Z Z Z Z Z Z Z hxl ?_
     refine A9d tab Z Z Z hvp (A1b tab Z Z Z (by rw [Nat.mul_one];exact hpx)) ?_
     refine A3r bod93 Z Z Z Z Z (B5d n3 hx8) ?_
     repeat refine st ?_
     refine A0c ⟨x+1,v,oM,⟨Z,?_,cntL⟩,Le.refl _,Z,hxl⟩
     rw [htk]
     exact rg
    | false=>
     rw [hs,Bool.false_and]at htk
     repeat refine st ?_
     refine A0c ⟨x+1,v,oM,⟨Z,?_,cntL⟩,Le.refl _,Z,hxl⟩
     rw [htk]
     exact rg
   ·have hxl:x=ps.length:=by have:=of_decide_eq_false h;omega
    clear h
    subst hxl
    rw [List.take_length]
    repeat refine st ?_
    refine lexL A1w Z kR ?_
    cases hs:sameT ps wi wk with
    | true=>
     repeat refine st ?_
     refine A2i tab i Z Z Z Z Z Z Z hil ?_
     repeat refine st ?_
     refine A9d tab Z Z Z hv (A1b tab Z Z Z m2) ?_
     repeat refine st ?_
     refine A3r bod93 Z Z Z Z Z (B5d m4 hf) ?_
     repeat refine st ?_
     refine A2i tab k Z Z Z Z Z Z Z hkl ?_
     repeat refine st ?_
     refine A9d tab Z Z Z hv (A1b tab Z Z Z n2) ?_
     repeat refine st ?_
     refine A3r bod93 Z Z Z Z Z (B5d n4 hf) ?_
     repeat refine st ?_
     refine A0t Z (fun h=>?_) (fun h=>?_)
     ·have hne:(bit wi.2 f != bit wk.2 f)=true:=h
      clear h
      repeat refine st ?_
      refine rt0 ?_
      rw [hbad (by unfold okP;rw [hs,hne];rfl)];exact⟨Z,Z⟩
     ·have hne:(bit wi.2 f != bit wk.2 f)=false:=h
      clear h
      repeat refine st ?_
      exact A0c ⟨k+1,v,oM,⟨Z,rg,cntL⟩,Le.refl _,Z,hki,hKs (by unfold okP;rw [hs,hne];rfl)⟩
    | false=>
     repeat refine st ?_
     exact A0c ⟨k+1,v,oM,⟨Z,rg,cntL⟩,Le.refl _,Z,hki,hKs (by unfold okP;rw [hs];rfl)⟩
  ·have hki:k=i:=by have:=of_decide_eq_false h;omega
   clear h
   subst hki
   repeat refine st ?_
   refine A0c ⟨k+1,v,oM,⟨Z,rg,cntL⟩,Le.refl _,Z,hil,fun i' hi' k' hk' hlt=>?_⟩
   rcases Nat.lt_succ_iff_lt_or_eq.1 hlt with hlt|rfl
   ·exact hJ i' hi' k' hk' hlt
   ·exact hK k' hk' hk'
 ·have hil:i=W.length:=by have:=of_decide_eq_false h;omega
  clear h
  subst hil
  repeat refine st ?_
  refine rt0 ?_
  rw [settled_all fun i hi k hk=>hJ i hi k hk hi];exact⟨Z,Z⟩
theorem errPr_N{P F:Int}{ws:List Wd}{x:Int}:(errN F P F ws x≠0→B4r P F ws x=errN F P F ws x)∧(errN F P F ws x=0→B4r P F ws x=lackE (A0g P.toNat F.toNat ws) (B4t P.toNat (A0g P.toNat F.toNat ws) x.toNat)):=by
 unfold B4r errN
 by_cases h:A2h P F ws=0
 ·rw [if_pos h,if_pos h]
  by_cases hx:0≤x∧x≤F-1
  ·rw [if_pos hx,if_pos hx]
   refine⟨fun hn=>?_,fun _=>rfl⟩
   cases hw:A0g P.toNat F.toNat ws with
   | nil=>rfl
   | cons y l=>rw [hw]at hn;exact absurd rfl hn
  ·rw [if_neg hx,if_neg hx]
   exact⟨fun _=>rfl,fun e=>by cases e⟩
 ·rw [if_neg h,if_neg h]
  exact⟨fun _=>rfl,fun e=>absurd e h⟩
theorem ProofR{P F:Int}{ws:List Wd}{wa:Option Addr}{wc:Nat}{x:Int}(hws:WdsAt v wa ws)(hwl:ws.length<2^30) :
  CallsB prog mn 39 #[boV P F wa ws.length wc,.int .i64 x] (RetB fun r β'=>∃t,r = .tuple #[t,.int .i64 (B4r P F ws x)]∧ReadL v β' t (B4n P F ws x)) [] v:=by
 refine A0f tab func39 Z nB (args:=[_,_]) ?_
 obtain⟨ePn,ePz⟩:=errPr_N (P:=P) (F:=F) (ws:=ws) (x:=x)
 have eN:errB P F ws (decide (0≤x∧x≤IntKind.i64.wrap (F-1)))=errN F P F ws x:=errB_N fun h=>by obtain⟨P,F,rfl,rfl,hv⟩:=A4w h;have h3:=hv.f3;omega
 repeat (first|refine st ?_|refine qb fun bx=>?_)
 obtain⟨b2,rfl⟩:∃b:Nat,b=bx:=⟨bx,rfl⟩
 refine A2u [3,4] [0,1,2,3,4,5,6,7,8,9] A1w Z kR ?_
 repeat refine st ?_
 refine S_do kR (A0i [] _ Z bod97 Z Z Z Z Z A1n (isFactG) (fun x β' hR=>⟨Le.refl _,?_,?_⟩))
 ·exact kp
 obtain⟨rfl,rfl⟩:=hR
 repeat refine st ?_
 refine S_do kR (A0i [] _ Z bod84 Z Z Z Z Z A1n (begin_r (hws.le (A0b _ _)) hwl) (fun x β' hR=>⟨Le.refl _,?_,?_⟩))
 ·exact kp
 obtain⟨a,n,cap,rfl,hW⟩:=hR
 repeat refine st ?_
 generalize hk:decide (0≤x∧x≤IntKind.i64.wrap (F-1))=k at hW eN⊢
 refine A0t Z (fun h=>?_) (fun h=>?_)
 ·have h0:errB P F ws k≠0:=bne_iff_ne.1 h
  clear h
  rw [eN]at h0⊢
  have e:=ePn h0
  rw [show B4n P F ws x=[] by unfold B4n;rw [e,if_neg h0],e]
  repeat refine st ?_
  refine A0l tab (β':=[]) (xs:=[_,_]) (by exact .tmp rfl (.tmp rfl .nil)) (Back.here fun p=>Nat.zero_le _) ?_
  exact⟨_,Z,ReadL.nil⟩
 have h0:errB P F ws k=0:=by simpa using h
 clear h
 obtain⟨hc0,hk1,e,hlen⟩:=wlsB_ne h0
 have eP:=ePz (eN ▸ h0)
 rw [e]at hW
 obtain⟨P,F,rfl,rfl,hv⟩:=A4w hc0
 have h4:=hv.p4
 have h3:=hv.f3
 rw [hk1,decide_eq_true_eq,A4k oM oM]at hk
 obtain⟨f,rfl⟩:=Int.eq_ofNat_of_zero_le hk.1
 simp only [Int.toNat_natCast]at hW hlen eP⊢
 have hWl:=A4s (ws:=ws) h4 h3
 have hf8:f<8:=oM
 have hne:A0g P F ws≠[]:=fun e=>by rw [e]at hlen;cases hlen
 rw [lackE_ne hne]at eP
 have hpA:B4n P F ws f=if B4r P F ws f=0 then(B4t P (A0g P F ws) f).getD []else []:=by unfold B4n;simp only [Int.toNat_natCast]
 have hst:∀ps∈A2e P,A1a (A0g P F ws) ps f=A9j (A0g P F ws) (orG ps) f:=fun ps hps=>A7o h4 (List.Perm.refl _) hps
 have hpL:B4t P (A0g P F ws) f=(A2e P).find? fun x=>A9j (A0g P F ws) (orG x) f:=rfl
 clear hk hk1 e h0 hc0 eN ePn ePz
 refine XC_retire (β1:=β') cntA (fun hb=>?_)
 obtain⟨rfl,cs_,hrow,hWR⟩:=hW.row hb
 generalize A0g P F ws=W at hrow hWR hWl eP hpA hst hpL hne hlen⊢
 generalize B4t P W f=o at eP hpA hpL
 repeat refine st ?_
 refine A1o (α:=Nat×A0j) (fun z=>⟨[],[(8,.int .i64 z.1),(6,.slice a W.length cap),(2,.pointer (some ⟨b2,0,none⟩)),(1,.int .i64 f)],[(b2,#[.int .i64 P,.int .i64 F,.slice wa ws.length wc],24)]⟩)
  (fun z u=>u=v.union (A0e z.2)∧Bok z.2 v∧RowAt u a cs_∧WRows u cs_ W∧z.1≤P+1∧o=(((List.range (P+1)).drop z.1).flatMap (level P)).find? fun x=>A9j W (orG x) f) (fun z=>P+1-z.1)
  (0,β') ⟨Z,rg,cntL⟩ (Le.refl _) ⟨Z,hb,hrow,hWR,Nat.zero_le _,hpL⟩ ?_
 clear hb hrow hWR
 rintro⟨k,segR⟩ u ⟨rfl,hbR,hrow,hWR,hk,hE⟩
 dsimp only at hbR hrow hWR hk hE⊢
 repeat refine st ?_
 refine A0t Z (fun h=>?_) (fun h=>?_)
 ·have hkP:k≤P:=by have:=of_decide_eq_true h;omega
  clear h
  have hc:=choose_r (mn:=mn) (n:=P) (show P≤8 by omega) k (f:=0) (v:=(v.union (A0e segR)).union (A0e [(b2,#[.int .i64 P,.int .i64 F,.slice wa ws.length wc],24)])) oM oM
  repeat refine st ?_
  refine Q_op fun ho=>A0i [] _ ho bod89 Z Z Z Z Z A1n (hc) (fun x β' hR=>?_)
  clear ho hc
  obtain⟨al,cl,sLO,sLR,rowsL,rfl,rfl,hLO,hLR⟩:=hR
  rw [ch_level (show P≤8 by omega) oM]at hLO hLR⊢
  refine A0w (β1:=sLO++sLR) cntA (fun hb2=>?_)
  have hrowL:RowAt ((v.union (A0e segR)).union (A0e (sLO++sLR))) al rowsL:=RowAt.own hb2 (show Subm sLO (sLO++sLR)from cntL) hLO
  have hrsL:RowsOf ((v.union (A0e segR)).union (A0e (sLO++sLR))) rowsL (level P k):=(hLR _ (bok_append.1 hb2).1).le (by rw [A1m hb2];exact A0b _ _)
  have hbn:Bok ((sLO++sLR)++segR) v:=bok_append.2 ⟨hbR,hb2⟩
  have hun:=A1m hbn
  replace hrow:=RowAt.le hrow (A0b (v.union (A0e segR)) (A0e (sLO++sLR)))
  replace hWR:=hWR.le (A0b (v.union (A0e segR)) (A0e (sLO++sLR)))
  rw [←hun]at hrowL hrsL hrow hWR⊢
  clear hun hb2 hbR hLR hLO
  generalize (sLO++sLR)++segR=segR1 at hbn hrowL hrsL hrow hWR⊢
  rw [List.drop_eq_getElem_cons (by rw [List.length_range];omega),List.getElem_range,List.flatMap_cons]at hE
  have hmemL:∀l∈level P k,l∈A2e P:=fun l hl=>List.mem_flatMap.2 ⟨k,List.mem_range.2 oM,hl⟩
  have hLl:(level P k).length≤256:=by rw [←ch_level (show P≤8 by omega) oM];exact(chF_ok (show P≤8 by omega) oM oM).1
  generalize level P k=L at hrowL hrsL hE hmemL hLl⊢
  generalize hRest:((List.range (P+1)).drop (k+1)).flatMap (level P)=R at hE
  repeat refine st ?_
  refine A1o (α:=Nat) (fun i=>⟨[],[(10,.int .i64 i),(9,.slice al L.length cl),(8,.int .i64 k),(6,.slice a W.length cap),(2,.pointer (some ⟨b2,0,none⟩)),(1,.int .i64 f)],[(b2,#[.int .i64 P,.int .i64 F,.slice wa ws.length wc],24)]⟩)
   (fun i u=>v.union (A0e segR1)=u∧i≤L.length∧o=(L.drop i++R).find? fun x=>A9j W (orG x) f) (fun i=>L.length-i) 0 ⟨Z,rg,cntL⟩ (Le.refl _) ⟨Z,Nat.zero_le _,hE⟩ ?_
  rintro i u ⟨rfl,hi,hE2⟩
  repeat refine st ?_
  refine A0t Z (fun h=>?_) (fun h=>?_)
  ·have hil:i<L.length:=by have:=of_decide_eq_true h;omega
   clear h
   obtain⟨bb,off,q,c,e,fr,ai,ci,rfl,hvb,hc,hrowi⟩:=rows_get hrowL hrsL hil
   have hmem:=hmemL _ (List.getElem_mem hil)
   rw [List.drop_eq_getElem_cons hil,List.cons_append,List.find?_cons]at hE2
   generalize L[i]=l at hc hrowi hmem hE2
   obtain⟨hl8,_,hlP⟩:=A7y (show P≤8 by omega) hmem
   have hsl:=hst l hmem
   repeat refine st ?_
   refine A2t tab i Z Z Z Z Z Z Z hil ?_
   refine A2p tab Z Z Z hvb (A1b tab Z Z Z (by rw [Nat.mul_one];exact hc)) ?_
   repeat refine st ?_
   refine q1 bod98 Z Z Z Z Z (proves_r hrow hWR hWl hrowi hl8 (fun x hx=>by have:=hlP x hx;omega) hf8) ?_
   rw [hsl]
   cases hp:A9j W (orG l) f with
   | true=>
    rw [hp]at hE2
    have hE3:o=some l:=hE2
    subst hE3
    have e1:B4r P F ws f=0:=eP
    rw [hpA,e1,if_pos rfl]
    repeat refine st ?_
    refine A2t tab i Z Z Z Z Z Z Z hil ?_
    refine A2p tab Z Z Z hvb (A1b tab Z Z Z (by rw [Nat.mul_one];exact hc)) ?_
    repeat refine st ?_
    refine A0l tab (β':=segR1) (xs:=[_,_]) (by exact .tmp rfl (.tmp rfl .nil)) (back_all hbn) ?_
    exact⟨_,Z,ai,ci,Z,hrowi⟩
   | false=>
    rw [hp]at hE2
    repeat refine st ?_
    exact A0c ⟨i+1,_,oM,⟨Z,rg,cntL⟩,Le.refl _,Z,hil,hE2⟩
  ·have hil:i=L.length:=by have:=of_decide_eq_false h;omega
   clear h
   subst hil
   rw [List.drop_length,List.nil_append,←hRest]at hE2
   repeat refine st ?_
   exact A0c ⟨(k+1,segR1),_,by dsimp only;omega,⟨Z,rg,cntL⟩,Le.refl _,Z,hbn,hrow,hWR,by dsimp only;omega,hE2⟩
 ·have hkP:k=P+1:=by have:=of_decide_eq_false h;omega
  clear h
  subst hkP
  rw [List.drop_of_length_le (by rw [List.length_range];exact Nat.le_refl _)]at hE
  have hE3:o=none:=hE
  subst hE3
  have e1:B4r P F ws f=11:=eP
  rw [hpA,e1,if_neg dM]
  repeat refine st ?_
  refine A0l tab (β':=[]) (xs:=[_,_]) (by exact .tmp rfl (.tmp rfl .nil)) (Back.forget hbR (Back.here fun p=>Nat.zero_le _)) ?_
  exact⟨_,Z,ReadL.nil⟩
end
def AskI(N k:Nat)(s:Lst)(b m:Int):Prop:=(k=0∧s.some=false∧b = -1∧m=N)∨(0<k∧s.some=true∧((s.n<N∧b=s.v∧m=s.n∧0≤s.v)∨((N:Int)≤s.n∧b = -1∧m=N)))
theorem AskI.step{N k:Nat}{s:Lst}{b m:Int}(h:AskI N k s b m)(y:Int):(y<m→AskI N (k+1) (s.add k y) k y)∧(¬y<m→AskI N (k+1) (s.add k y) b m):=by
 obtain⟨sv,sn,ss⟩:=s
 unfold AskI Lst.add at *
 dsimp only at h⊢
 rcases h with ⟨rfl,rfl,rfl,rfl⟩|⟨h0,rfl,h⟩
 ·rw [if_pos (by rfl)]
  dsimp only
  exact⟨fun hy=>.inr ⟨oM,Z,.inl ⟨hy,Z,Z,oM⟩⟩,fun hy=>.inr ⟨oM,Z,.inr ⟨oM,Z,Z⟩⟩⟩
 ·simp only [Bool.not_true,Bool.false_or]
  by_cases hlt:y<sn
  ·rw [if_pos (decide_eq_true hlt)]
   dsimp only
   exact⟨fun hy=>.inr ⟨oM,Z,.inl oM⟩,fun hy=>.inr ⟨oM,Z,oM⟩⟩
  ·rw [if_neg (by rw [decide_eq_true_eq];exact hlt)]
   dsimp only
   exact⟨fun hy=>.inr ⟨oM,Z,oM⟩,fun hy=>.inr ⟨oM,Z,oM⟩⟩
section
variable{mn:Who}{v:View}
theorem AskR{P F:Int}{ws:List Wd}{wa:Option Addr}{wc:Nat}(hws:WdsAt v wa ws)(hwl:ws.length<2^30):Ret1 prog mn 37 [boV P F wa ws.length wc] (askV P F ws) v:=by
 refine A0f tab func37 Z nB (args:=[_]) ?_
 repeat (first|refine st ?_|refine qb fun bx=>?_)
 obtain⟨b1,rfl⟩:∃b:Nat,b=bx:=⟨bx,rfl⟩
 refine Q_op fun ho=>A0i [] _ ho bod84 Z Z Z Z Z A1n (begin_r (k:=true) (hws.le (A0b _ _)) hwl) (fun x β' hR=>?_)
 clear ho
 obtain⟨a,n,cap,rfl,hW⟩:=hR
 repeat refine st ?_
 refine A0t Z (fun h=>?_) (fun h=>?_)
 ·have h0:errB P F ws true≠0:=bne_iff_ne.1 h
  clear h
  have e:errA P F ws=errB P F ws true:=by
   unfold errA
   unfold errB at h0⊢
   by_cases hc:A2h P F ws=0
   ·rw [if_pos hc]at h0⊢
    rw [if_pos hc]
    cases hw:A0g P.toNat F.toNat ws with
    | nil=>rfl
    | cons y l=>rw [hw]at h0;exact absurd rfl h0
   ·rw [if_neg hc,if_neg hc]
  rw [show askV P F ws = .tuple #[.int .i64 0,.int .i64 0,.int .i64 (errB P F ws true)] by unfold askV;rw [e,if_neg h0]]
  repeat refine st ?_
  refine A0l tab (β':=[]) (xs:=[_,_,_]) (by exact .tmp rfl (.tmp rfl (.tmp rfl .nil))) (Back.here fun p=>Nat.zero_le _) ?_
  exact⟨Z,Z⟩
 have h0:errB P F ws true=0:=by simpa using h
 clear h
 obtain⟨hc0,_,e,hlen⟩:=wlsB_ne h0
 rw [e]at hW
 have eA:errA P F ws=if(askS (A0g P.toNat F.toNat ws) P.toNat).n<(A0g P.toNat F.toNat ws).length then 0 else 11:=by
  unfold errA askE
  rw [if_pos hc0,if_neg (by intro hz;rw [List.isEmpty_iff]at hz;rw [hz]at hlen;cases hlen)]
 generalize hV:askV P F ws=V
 unfold askV at hV
 rw [eA]at hV
 obtain⟨P,F,rfl,rfl,hv⟩:=A4w hc0
 have h4:=hv.p4
 have h1:=hv.p1
 simp only [Int.toNat_natCast]at hW hlen hV
 have hWl:=A4s (ws:=ws) h4 hv.f3
 clear e h0 hc0 eA
 refine XC_retire (β1:=β') cntA (fun hb=>?_)
 obtain⟨rfl,ks,hrow,hWR⟩:=hW.row hb
 repeat refine st ?_
 refine A1o (α:=Nat×Int×Int) (fun z=>⟨[],[(9,.int .i64 z.1),(8,.int .i64 z.2.2),(7,.int .i64 z.2.1),(5,.slice a (A0g P F ws).length cap),(1,.pointer (some ⟨b1,0,none⟩))],[(b1,#[.int .i64 P,.int .i64 F,.slice wa ws.length wc],24)]⟩)
  (fun z u=>v.union (A0e β')=u∧z.1≤P∧AskI (A0g P F ws).length z.1 (askS (A0g P F ws) z.1) z.2.1 z.2.2) (fun z=>P-z.1) (0,-1,(A0g P F ws).length) ⟨Z,rg,cntL⟩ (Le.refl _) ⟨Z,Nat.zero_le _,.inl ⟨Z,Z,Z,Z⟩⟩ ?_
 rintro⟨p,bb,m⟩ u ⟨rfl,hp,hI⟩
 dsimp only at hp hI⊢
 repeat refine st ?_
 refine A0t Z (fun h=>?_) (fun h=>?_)
 ·have hpP:p<P:=by have:=of_decide_eq_true h;omega
  clear h
  repeat refine st ?_
  refine A1o (α:=Nat) (fun i=>⟨[],[(11,.int .i64 i),(10,.int .i64 ((((A0g P F ws).take i).countP fun w=>bit w.1 p:Nat):Int)),(9,.int .i64 p),(8,.int .i64 m),(7,.int .i64 bb),(5,.slice a (A0g P F ws).length cap),(1,.pointer (some ⟨b1,0,none⟩))],[(b1,#[.int .i64 P,.int .i64 F,.slice wa ws.length wc],24)]⟩)
   (fun i u=>v.union (A0e β')=u∧i≤(A0g P F ws).length) (fun i=>(A0g P F ws).length-i) 0 ⟨Z,rg,cntL⟩ (Le.refl _) ⟨Z,Nat.zero_le _⟩ ?_
  rintro i u ⟨rfl,hi⟩
  have hcl:=countP_le (p:=fun w:Wl=>bit w.1 p) (l:=(A0g P F ws)) (i:=i)
  repeat refine st ?_
  refine A0t Z (fun h=>?_) (fun h=>?_)
  ·have hlt:i<(A0g P F ws).length:=by have:=of_decide_eq_true h;omega
   clear h
   obtain⟨b,off,q,c,ec,f,rfl,hvb,hc⟩:=WRows.at hrow hWR hlt
   obtain⟨a1,c1,a2,c2,m1,m2,m3,m4⟩:=hc i hlt
   have hsucc:=countP_take (p:=fun w:Wl=>bit w.1 p) hlt
   repeat refine st ?_
   refine A2t tab i Z Z Z Z Z Z Z hlt ?_
   repeat refine st ?_
   refine A2p tab Z Z Z hvb (A1b tab Z Z Z m1) ?_
   repeat refine st ?_
   refine q1 bod93 Z Z Z Z Z (B5d m3 (show p<8 by omega)) ?_
   cases hbit:bit (A0g P F ws)[i].1 p with
   | true=>
    rw [hbit,if_pos rfl]at hsucc
    repeat refine st ?_
    refine A0c ⟨i+1,_,oM,⟨Z,?_,cntL⟩,Le.refl _,Z,hlt⟩
    rw [hsucc,Int.natCast_add]
    exact rg
   | false=>
    rw [hbit,if_neg dM,Nat.add_zero]at hsucc
    repeat refine st ?_
    refine A0c ⟨i+1,_,oM,⟨Z,?_,cntL⟩,Le.refl _,Z,hlt⟩
    rw [hsucc]
    exact rg
  ·have hie:i=(A0g P F ws).length:=by have:=of_decide_eq_false h;omega
   clear h
   subst hie
   rw [List.take_length]
   have hcnt:(A0g P F ws).countP (fun w=>bit w.1 p)≤(A0g P F ws).length:=List.countP_le_length
   obtain⟨hs1,hs2⟩:=hI.step (most (A0g P F ws) p)
   rw [←B4v]at hs1 hs2
   have hmx:most (A0g P F ws) p=if((A0g P F ws).countP fun w=>bit w.1 p:Nat)<((A0g P F ws).length:Int)-((A0g P F ws).countP fun w=>bit w.1 p:Nat)then((A0g P F ws).length:Int)-((A0g P F ws).countP fun w=>bit w.1 p:Nat)else(((A0g P F ws).countP fun w=>bit w.1 p:Nat):Int):=rfl
   repeat refine st ?_
   refine A0t Z (fun h=>?_) (fun h=>?_)
   ·have hy:most (A0g P F ws) p<m:=by
     have:=of_decide_eq_true h
     rw [hmx]
     split<;>(split at this<;>omega)
    repeat refine st ?_
    refine A0c ⟨(p+1,p,most (A0g P F ws) p),_,by dsimp only;omega,⟨Z,?_,cntL⟩,Le.refl _,Z,hpP,hs1 hy⟩
    dsimp only
    rw [hmx]
    exact rg
   ·have hy:¬most (A0g P F ws) p<m:=by
     have:=of_decide_eq_false h
     rw [hmx]
     split<;>(split at this<;>omega)
    repeat refine st ?_
    exact A0c ⟨(p+1,bb,m),_,by dsimp only;omega,⟨Z,rg,cntL⟩,Le.refl _,Z,hpP,hs2 hy⟩
 ·have hpe:p=P:=by have:=of_decide_eq_false h;omega
  clear h
  subst hpe
  have hI':((askS (A0g p F ws) p).n<(A0g p F ws).length∧bb=(askS (A0g p F ws) p).v∧m=(askS (A0g p F ws) p).n∧0≤(askS (A0g p F ws) p).v)∨(((A0g p F ws).length:Int)≤(askS (A0g p F ws) p).n∧bb = -1∧m=(A0g p F ws).length):=by
   rcases hI with ⟨h,_⟩|⟨_,_,h⟩
   ·omega
   ·exact h
  repeat refine st ?_
  refine A0t Z (fun h=>?_) (fun h=>?_)
  ·have hb0:bb<0:=of_decide_eq_true h
   have hc:¬(askS (A0g p F ws) p).n<((A0g p F ws).length:Int):=oM
   rw [if_neg hc,if_neg dM]at hV
   subst hV
   repeat refine st ?_
   refine A0l tab (β':=[]) (xs:=[_,_,_]) (by exact .tmp rfl (.tmp rfl (.tmp rfl .nil))) (Back.forget hb (Back.here fun p=>Nat.zero_le _)) ?_
   exact⟨Z,Z⟩
  ·have hb0:¬bb<0:=of_decide_eq_false h
   have hc:(askS (A0g p F ws) p).n<((A0g p F ws).length:Int):=oM
   rw [if_pos hc,if_pos rfl]at hV
   subst hV
   have e1:bb=(askS (A0g p F ws) p).v:=oM
   have e2:m=(askS (A0g p F ws) p).n:=oM
   subst e1
   subst e2
   repeat refine st ?_
   refine A0l tab (β':=[]) (xs:=[_,_,_]) (by exact .tmp rfl (.tmp rfl (.tmp rfl .nil))) (Back.forget hb (Back.here fun p=>Nat.zero_le _)) ?_
   exact⟨Z,Z⟩
end
theorem proof_len{P F:Int}{ws:List Wd}{x:Int}:(B4n P F ws x).length≤8:=by
 unfold B4n
 by_cases h:B4r P F ws x=0
 ·rw [if_pos h]
  by_cases hc:A2h P F ws=0
  ·obtain⟨P,F,rfl,rfl,hv⟩:=A4w hc
   have h4:=hv.p4
   cases ho:B4t (P:Int).toNat (A0g (P:Int).toNat (F:Int).toNat ws) x.toNat with
   | none=>exact Nat.zero_le _
   | some l=>exact(A7y (show(P:Int).toNat≤8 by omega) (List.mem_of_find?_eq_some ho)).1
  ·exfalso
   unfold B4r at h
   rw [if_neg hc]at h
   exact hc h
 ·rw [if_neg h];exact Nat.zero_le _
section
variable{v:View}
theorem asks_run{y:Vc}{xw:Wd}{a0:Option Addr}{cap0:Nat}{ns:List Int}{wh:Int}(hy:WdsAt v y.a y.ws)(hns:RowAt v a0 (ns.map (.int .i64))):Run prog ⟨true,true⟩ (AtTop 5 8) v (G (Frame.enter prog 5 (List.toArray [vcV y,wdV xw,.int .i64 wh,.slice a0 ns.length cap0]) .normal) []):=by
 refine top_run func5 Z nB ?_
 repeat (first|refine st ?_|refine qb fun bx=>?_)
 rename_i b3
 obtain⟨b4,rfl⟩:∃b:Nat,b=bx:=⟨bx,rfl⟩
 refine A0t Z (fun h=>?_) (fun h=>?_)
 ·clear h
  repeat (first|refine st ?_|refine qb fun bx=>?_)
  refine q1 bod21 Z Z Z Z Z A9k ?_
  repeat (first|refine st ?_|refine qb fun bx=>?_)
  exact⟨Z,Z,Z⟩
 have hl20:y.ws.length≤20:=by have:=of_decide_eq_false h;omega
 clear h
 repeat (first|refine st ?_|refine qb fun bx=>?_)
 refine A2u [3,4] [0,1,2,3,4,5] A1w Z kR ?_
 repeat (first|refine st ?_|refine qb fun bx=>?_)
 refine S_do kR (A0i [] _ Z bod23 Z Z Z Z Z A1n (newBag_x) (fun x β' hR=>⟨Le.refl _,?_,?_⟩))
 ·exact kp
 obtain⟨b,rfl,hB⟩:=hR
 rename A0j=>β1
 repeat (first|refine st ?_|refine qb fun bx=>?_)
 refine S_do kR (A0i β1 _ Z bod22 Z Z Z Z Z A0k (several_x (g:=⟨b,a0,cap0,ns⟩) (x:=xw) (y:=y) (RowAt.le hns (A0b _ _)) hB dM (hy.le (A0b _ _))) (fun x β' hR=>⟨Le.refl _,?_,?_⟩))
 ·exact kp
 obtain⟨βV,β2,a,c,l,rfl,hl3,hcnt,hVc⟩:=hR.at (rest:=[(b4,(wdV xw).cells,26),(b3,(vcV y).cells,24)]) hy hl20 (fun _=>rfl)
 clear hR hB
 repeat (first|refine st ?_|refine qb fun bx=>?_)
 refine XC_retire (β1:=βV) (β2:=β2) hcnt (fun hb=>?_)
 have hV:=hVc hb
 clear hVc hcnt
 generalize v.union (A0e βV)=u at hV⊢
 clear hb hns hy
 repeat (first|refine st ?_|refine qb fun bx=>?_)
 refine A1o (α:=Nat) (fun i=>⟨[],[(10,.int .i64 i),(9,.slice a 3 c) ,(2,.int .i64 wh)],[]⟩) (fun i w=>VcAt w a l∧i≤3) (fun i=>3-i) 0 ⟨Z,rg,cntL⟩ (Le.refl _) ⟨hV,Nat.zero_le _⟩ ?_
 clear hV
 rintro i u ⟨hV,hi⟩
 repeat (first|refine st ?_|refine qb fun bx=>?_)
 refine A0t Z (fun h=>?_) (fun h=>?_)
 ·have hil:i<l.length:=by have:=of_decide_eq_true h;omega
  have hil3:i<3:=oM
  clear h
  obtain⟨bb,off,q,cc,e,f,rfl,hv,hc1⟩:=hV.get hil
  obtain⟨hw,hw20⟩:=hV.wd _ (List.getElem_mem hil)
  generalize l[i]=z at hc1 hw hw20
  obtain⟨P,F,ws,wa,wc⟩:=z
  dsimp only at hw hw20
  replace hc1:off+i*3+3≤cc.size∧cc.extract (off+i*3) (off+i*3+3)=List.toArray [.int .i64 P,.int .i64 F,.slice wa ws.length wc]:=hc1
  repeat (first|refine st ?_|refine qb fun bx=>?_)
  refine A2t tab i Z Z Z Z Z Z Z hil3 ?_
  refine A2p tab Z Z Z hv (A2d tab Z Z Z hc1) ?_
  refine Q_op fun ho=>A0i [] _ ho bod24 Z Z Z Z Z A1n (ownVouch_x (P:=P) (F:=F) (hw.le (A0b _ _)) oM) (fun x β' hR=>?_)
  clear ho
  obtain⟨aY,cY,rfl,hSY⟩:=hR
  have hcY:=own_capR hSY
  refine A0w (β1:=β') cntA (fun hb=>?_)
  have hwY:WdsAt (u.union (A0e β')) aY ws:=A2m hb hSY
  replace hV:=hV.le (A0b u (A0e β'))
  replace hw:=hw.le (A0b u (A0e β'))
  replace hv:=A0b u (A0e β') _ _ hv
  generalize u.union (A0e β')=u1 at hwY hV hw hv⊢
  clear hb hSY
  have kS:=fun {w:View} (h:Le u1 w)=>sameV_x (v:=w) (mn:=⟨true,true⟩) (P:=P) (F:=F) (c:=cY) (d:=wc) (hwY.le h) (hw.le h) oM
  obtain⟨x1,x2,x3,hav⟩:∃a b c:Int,askV P F ws = .tuple #[.int .i64 a,.int .i64 b,.int .i64 c]:=by
   unfold askV
   split<;>exact⟨_,_,_,rfl⟩
  have kA1:=fun {w:View} (h:Le u1 w)=>Ask_x (v:=w) (wc:=cY) (P:=P) (F:=F) (hwY.le h) oM
  have kA2:=fun {w:View} (h:Le u1 w)=>AskR (v:=w) (mn:=⟨true,true⟩) (wc:=wc) (P:=P) (F:=F) (hw.le h) oM
  rw [hav]at kA1 kA2
  have kR1:=fun {w:View} (h:Le u1 w) (x:Int)=>Proof_x (v:=w) (wc:=cY) (P:=P) (F:=F) (x:=x) (hwY.le h) oM
  have kR2:=fun {w:View} (h:Le u1 w) (x:Int)=>ProofR (v:=w) (mn:=⟨true,true⟩) (wc:=wc) (P:=P) (F:=F) (x:=x) (hw.le h) oM
  clear hw hwY hav
  repeat (first|refine st ?_|refine qb fun bx=>?_)
  obtain⟨b9,rfl⟩:∃b:Nat,b=bx:=⟨bx,rfl⟩
  refine A0w (β1:=[(b9,#[.int .i64 P,.int .i64 F,.slice aY ws.length cY],24)]) (β2:=[]) (fun _=>rfl) (fun hb9=>?_)
  have hv9:(u1.union (A0e [(b9,#[Value.int .i64 P,.int .i64 F,.slice aY ws.length cY],24)])) b9=some (true,.cells #[.int .i64 P,.int .i64 F,.slice aY ws.length cY] 24 (0,0)):=A9c hb9 .head
  have hle:=A0b u1 (A0e [(b9,#[Value.int .i64 P,.int .i64 F,.slice aY ws.length cY],24)])
  generalize u1.union (A0e [(b9,#[Value.int .i64 P,.int .i64 F,.slice aY ws.length cY],24)])=u2 at hv9 hle⊢
  replace hV:=hV.le hle
  replace hv:=hle _ _ hv
  clear hb9
  repeat (first|refine st ?_|refine qb fun bx=>?_)
  refine q1 bod36 Z Z Z Z Z (kA1 hle) ?_
  repeat (first|refine st ?_|refine qb fun bx=>?_)
  refine A2t tab i Z Z Z Z Z Z Z hil3 ?_
  refine A2p tab Z Z Z hv (A2d tab Z Z Z hc1) ?_
  refine q1 bod37 Z Z Z Z Z (kA2 hle) ?_
  repeat (first|refine st ?_|refine qb fun bx=>?_)
  rw [neI x1]
  repeat (first|refine st ?_|refine qb fun bx=>?_)
  rw [neI x2]
  repeat (first|refine st ?_|refine qb fun bx=>?_)
  rw [neI x3]
  repeat (first|refine st ?_|refine qb fun bx=>?_)
  refine A1o (α:=Nat) (fun k=>⟨[],[(18,.int .i64 ((k:Int)-1)),(11,.pointer (some ⟨b9,0,none⟩)),(10,.int .i64 i),(9,.slice (some ⟨bb,off,none⟩) 3 c),(2,.int .i64 wh)],[]⟩)
   (fun k z=>Le u2 z∧k≤4) (fun k=>4-k) 0 ⟨Z,rg,cntL⟩ (Le.refl _) ⟨Le.refl _,Nat.zero_le _⟩ ?_
  rintro k u3 ⟨hle3,hk⟩
  replace hV:=hV.le hle3
  replace hv:=hle3 _ _ hv
  replace hv9:=hle3 _ _ hv9
  replace hle:=hle.trans hle3
  repeat (first|refine st ?_|refine qb fun bx=>?_)
  refine A0t Z (fun h=>?_) (fun h=>?_)
  ·have hk4:k<4:=by have:=of_decide_eq_true h;omega
   clear h
   repeat (first|refine sr ?_|refine qb fun bx=>?_)
   refine A5o ?_
   repeat (first|refine sr ?_|refine qb fun bx=>?_)
   refine A6f (fun σ z=>u3=z∧∃x:Int,σ=⟨[],[(19,.int .i64 x),(18,.int .i64 ((k:Int)-1)),(11,.pointer (some ⟨b9,0,none⟩)),(10,.int .i64 i),(9,.slice (some ⟨bb,off,none⟩) 3 c),(2,.int .i64 wh)],[]⟩) ?_ ?_
   rotate_left
   ·repeat (first|refine st ?_|refine qb fun bx=>?_)
    refine A0t Z (fun h=>?_) (fun h=>?_)
    ·clear h
     repeat (first|refine st ?_|refine qb fun bx=>?_)
     exact A0c ⟨_,_,⟨Z,_,Z⟩,⟨Z,rg,cntL⟩,Le.refl _⟩
    ·clear h
     repeat (first|refine st ?_|refine qb fun bx=>?_)
     exact A0c ⟨_,_,⟨Z,_,Z⟩,⟨Z,rg,cntL⟩,Le.refl _⟩
   rintro σ z ⟨rfl,x,rfl⟩
   have r1:=fun {w:View} (h:Le u1 w)=>kR1 h x
   have r2:=fun {w:View} (h:Le u1 w)=>kR2 h x
   have hpl:=proof_len (P:=P) (F:=F) (ws:=ws) (x:=x)
   generalize B4r P F ws x=E at r1 r2
   generalize B4n P F ws x=L at r1 r2 hpl
   repeat (first|refine st ?_|refine qb fun bx=>?_)
   refine A2p tab Z Z Z hv9 (A2d tab Z Z Z (x:=[.int .i64 P,.int .i64 F,.slice aY ws.length cY]) ⟨Nat.le_refl 3,Z⟩) ?_
   repeat (first|refine st ?_|refine qb fun bx=>?_)
   refine Q_op fun ho=>A0i [] _ ho bod38 Z Z Z Z Z A1n (r1 (hle.trans (A0b _ _))) (fun x β' hR=>?_)
   clear ho
   obtain⟨t1,rfl,a1,c1,rfl,hr1⟩:=hR
   rename A0j=>β3
   rw [A2r]at hr1
   refine A0w (β1:=β3) (β2:=[]) (fun _=>rfl) (fun hb=>?_)
   have hle2:=A0b u3 (A0e β3)
   generalize u3.union (A0e β3)=u4 at hr1 hle2⊢
   replace hv:=hle2 _ _ hv
   replace hle:=hle.trans hle2
   replace hle3:=hle3.trans hle2
   clear hb hle2
   repeat (first|refine st ?_|refine qb fun bx=>?_)
   refine A2t tab i Z Z Z Z Z Z Z hil3 ?_
   refine A2p tab Z Z Z hv (A2d tab Z Z Z hc1) ?_
   repeat (first|refine st ?_|refine qb fun bx=>?_)
   refine Q_op fun ho=>A0i [] _ ho bod39 Z Z Z Z Z A1n (r2 (hle.trans (A0b _ _))) (fun x β' hR=>?_)
   clear ho
   obtain⟨t2,rfl,a2,c2,rfl,hr2⟩:=hR
   rename A0j=>β4
   rw [A2r]at hr2
   refine A0w (β1:=β4) (β2:=[]) (fun _=>rfl) (fun hb=>?_)
   have hle2:=A0b u4 (A0e β4)
   generalize u4.union (A0e β4)=u5 at hr2 hle2⊢
   replace hr1:=RowAt.le hr1 hle2
   replace hle3:=hle3.trans hle2
   clear hb hle2
   have kN:=A7c (mn:=⟨true,true⟩) (c1:=c1) (c2:=c2) hr1 hr2 oM oM
   rw [decide_eq_true rfl]at kN
   repeat (first|refine st ?_|refine qb fun bx=>?_)
   rw [neI E]
   repeat (first|refine st ?_|refine qb fun bx=>?_)
   refine q1 bod35 Z Z Z Z Z kN ?_
   repeat (first|refine st ?_|refine qb fun bx=>?_)
   refine A0c ⟨k+1,u5,oM,⟨Z,?_,cntL⟩,Le.refl _,hle3,hk4⟩
   rw [show(((k+1:Nat):Int)-1)=(k:Int)-1+1 by omega]
   exact rg
  ·clear h
   repeat (first|refine st ?_|refine qb fun bx=>?_)
   refine lexL A1w Z kR ?_
   repeat (first|refine st ?_|refine qb fun bx=>?_)
   refine A9d tab Z Z Z hv9 (A2d tab Z Z Z (x:=[.int .i64 P,.int .i64 F,.slice aY ws.length cY]) ⟨Nat.le_refl 3,Z⟩) ?_
   repeat (first|refine st ?_|refine qb fun bx=>?_)
   refine A2i tab i Z Z Z Z Z Z Z hil3 ?_
   refine A9d tab Z Z Z hv (A2d tab Z Z Z hc1) ?_
   refine A3r bod32 Z Z Z Z Z (kS hle) ?_
   repeat (first|refine st ?_|refine qb fun bx=>?_)
   exact A0c ⟨i+1,u3,oM,⟨Z,rg,cntL⟩,Le.refl _,hV,hil3⟩
 ·clear h
  repeat (first|refine st ?_|refine qb fun bx=>?_)
  refine q1 bod21 Z Z Z Z Z A9k ?_
  repeat (first|refine st ?_|refine qb fun bx=>?_)
  exact⟨Z,Z,Z⟩
end
end Go.Proofs.YtiolobmgibdfmaaGreat
end
section
namespace Go.Proofs.YtiolobmgibdfmaaGreat
open Go Go.ChangeShapes
theorem A1c{a b:Bool}(ha:a=true)(hb:b=true):(a&&b)=true:=by rw [ha,hb];rfl
theorem j5_0:(Rows.vouchAsksRow.wf (OpenSpec.ofChange Rows.vouchAsksSpec))=true:=by kernel_rfl
theorem j5_1:(laidOutB Tryz.prog)=true:=by kernel_rfl
theorem j5_2:(mapsRowed Tryz.prog)=true:=by kernel_rfl
theorem j5_3:(Tryz.f5.params.all (Tryz.prog.readableRec ·))=true:=by kernel_rfl
theorem j5_4:(namedTie Tryz.prog Rows.vouchAsksRow.named Rows.vouchAsksSpec.vars)=true:=by kernel_rfl
theorem j5_5:((Rows.vouchAsksRow.stops == []))=true:=by kernel_rfl
theorem j5_6:((Tryz.prog.stops == []))=true:=by kernel_rfl
theorem j5_7:((Rows.vouchAsksRow.knobs == []))=true:=by kernel_rfl
theorem j5_8:((Tryz.prog.stopKnobs == []))=true:=by kernel_rfl
theorem j5_9:((Rows.vouchAsksRow.inPlace==Tryz.prog.inPlace 5))=true:=by kernel_rfl
theorem j5_10:((Rows.vouchAsksRow.unfollowed==Tryz.prog.unfollowed 5))=true:=by kernel_rfl
theorem j5_11:((Rows.vouchAsksRow.recurses==Tryz.prog.recurses 5))=true:=by kernel_rfl
theorem j5_12:((Rows.vouchAsksRow.named==Tryz.prog.varsNamed 5))=true:=by kernel_rfl
theorem j5_13:((Rows.vouchAsksRow.maps==(Tryz.f5.params.toList++Rows.vouchAsksSpec.plain.varTypes Tryz.prog).any (Tryz.prog.mapsRec ·)))=true:=by kernel_rfl
theorem j5_14:((Rows.vouchAsksRow.ifaces==(Tryz.f5.params.toList++Rows.vouchAsksSpec.plain.varTypes Tryz.prog).any (Tryz.prog.ifacesRec ·)))=true:=by kernel_rfl
theorem j5_15:((Rows.vouchAsksRow.mapsOut==Tryz.prog.mapsAmong Tryz.f5.resultTypes.toList))=true:=by kernel_rfl
theorem j5_16:((Rows.vouchAsksRow.loops==(Tryz.f5.params.toList++Rows.vouchAsksSpec.plain.varTypes Tryz.prog).any (Tryz.prog.loopsFrom ·)))=true:=by kernel_rfl
theorem j5_17:((Rows.vouchAsksRow.wideKeys==(Tryz.f5.params.toList++Rows.vouchAsksSpec.plain.varTypes Tryz.prog++Tryz.f5.resultTypes.toList).any (Tryz.prog.wideKeysFrom ·)))=true:=by kernel_rfl
theorem j5_18:(Rows.vouchAsksSpec.vars.all (Tryz.prog.varReadable ·))=true:=by kernel_rfl
theorem j5_19:(Tryz.f5.resultTypes.all (fun t=>Tryz.prog.readableRec t&&decide (t<Tryz.prog.types.size)))=true:=by kernel_rfl
theorem j5_20:((Rows.vouchAsksRow.ifacesOut==Tryz.f5.resultTypes.toList.any (Tryz.prog.ifacesRec ·)))=true:=by kernel_rfl
theorem j5_21:((Rows.vouchAsksRow.loopsOut==Tryz.f5.resultTypes.toList.any (Tryz.prog.loopsFrom ·)))=true:=by kernel_rfl
theorem j5_22:((Rows.vouchAsksRow.plainKeys==Tryz.prog.plainKeys))=true:=by kernel_rfl
theorem j5_23:(Rows.vouchAsksRow.shortTexts.isNone)=true:=by kernel_rfl
theorem j5_24:(Tryz.prog.stopsHeard)=true:=by kernel_rfl
theorem j5_25:(Tryz.prog.mayEnter)=true:=by kernel_rfl
theorem j5_26:((Rows.vouchAsksRow.lifted==Tryz.prog.liftsFinal))=true:=by kernel_rfl
theorem j5_27:((Tryz.prog.make==some Rows.vouchAsksRow.make))=true:=by kernel_rfl
theorem j5_28:((Rows.vouchAsksRow.kinds==(if Rows.vouchAsksRow.domain.isEmpty then []else Tryz.f5.params.toList.map fun t=>match Tryz.prog.underlying t with|some (.int k)=>some k|_=>none)))=true:=by kernel_rfl
theorem j5_29:((Rows.vouchAsksRow.pinned==Rows.vouchAsksRow.pinnedBy))=true:=by kernel_rfl
theorem j5_30:((Rows.vouchAsksRow.veiled==(Tryz.f5.params.toList++Rows.vouchAsksSpec.plain.varTypes Tryz.prog++Tryz.f5.resultTypes.toList).any (Tryz.prog.veiledRec ·)))=true:=by kernel_rfl
theorem j5_31:(Rows.vouchAsksRow.veiledFits Tryz.prog Tryz.f5.params.toList (Tryz.f5.params.toList++Rows.vouchAsksSpec.plain.varTypes Tryz.prog++Tryz.f5.resultTypes.toList))=true:=by kernel_rfl
set_option maxRecDepth 100000 in
theorem j5:joinedFacts Tryz.prog 5 Tryz.f5 Rows.vouchAsksSpec Rows.vouchAsksRow=true:=A1c (A1c (A1c (A1c (A1c (A1c (A1c (A1c (A1c (A1c (A1c (A1c (A1c (A1c (A1c (A1c (A1c (A1c (A1c (A1c (A1c (A1c (A1c (A1c (A1c (A1c (A1c (A1c (A1c (A1c (A1c (j5_0) j5_1) j5_2) j5_3) j5_4) j5_5) j5_6) j5_7) j5_8) j5_9) j5_10) j5_11) j5_12) j5_13) j5_14) j5_15) j5_16) j5_17) j5_18) j5_19) j5_20) j5_21) j5_22) j5_23) j5_24) j5_25) j5_26) j5_27) j5_28) j5_29) j5_30) j5_31
end Go.Proofs.YtiolobmgibdfmaaGreat
end
section
namespace Go.Proofs.YtiolobmgibdfmaaGreat
open Go Go.Pal Go.Conc Go.ConcM Go.RowKit Go.ChangeShapes Go.WideShapes Go.ChangeAt
open View
theorem B0f:ownKnob Tryz.prog.godebug=none:=by kernel_rfl
set_option maxRecDepth 100000 in
set_option maxHeartbeats 4000000 in
theorem asks_lifted(os:Os)(started:os.Started)(H:Type)(enc:TypeId×Value→H)(F:Stop.Interp) :
  ReturnsInLeavingWide Rows.vouchAsksRow.assume Tryz.checked os 5 .any (Rows.vouchAsksSpec.pre6 enc Tryz.prog Tryz.f5 Rows.vouchAsksRow.domain false) ((OpenSpec.ofChange Rows.vouchAsksSpec).postWith enc Tryz.prog Tryz.f5 F (outsideKept [.timePasses]) false true false):=by
 refine returnsInLeavingWide_of_change_time (C:=Tryz.checked) B0f started Tryz.func5
  (ChangeSpec.witness6c (enc:=enc) (C:=Tryz.checked) ⟨#[],#[.agg #[.int .i64 0,.int .i64 0,.slice none 0 0],.agg #[.int .i64 0,.int .i64 0,.int .i64 0,.int .i64 0],.int .i64 0,.slice none 0 0],[]⟩ 8 kR kR kR kR) ?_
 intro W base args ds gs before hval0 hW _ _ hass
 have hval:∀(j:Nat) t v,Tryz.f5.params[j]?=some t→args[j]?=some v→Value.okWide Tryz.prog W .any base t v:=hval0
 have hW':=hW
 obtain⟨p,q,hA0,hV,rfl,_,_⟩:=hW
 have hA:DataW.TrodAll enc Tryz.prog W 0 (fun _=>true) true Tryz.f5.params.toList args.toList ds p:=hA0
 rw [Tryz.params5]at hA hval
 obtain⟨v0,v1,v2,v3,d0,d1,d2,d3,p0,p1,p2,p3,rfl,rfl,rfl,h0,h1,h2,h3⟩:=trodAll_four hA
 obtain⟨rfl,rfl⟩:=trodVars_none hV
 clear hA0 hval0
 simp only [List.append_nil,List.append_assoc]at hW'
 have hlt:∀x∈p0++(p1++(p2++(p3))),x.block<W.heap.size:=fun x hx=>by simpa using hW'.lt x hx
 obtain⟨P,F,a,ws,cap,u0,rfl,-,hu0,hws,hst0⟩:=openV (hval 0 24 v0 rfl rfl) h0 (fun x hx=>hlt x (by simp only [List.mem_append];simp [hx]))
 obtain⟨xw,rfl,hst1⟩:=openX (hval 1 26 v1 rfl rfl) h1 (fun x hx=>hlt x (by simp only [List.mem_append];simp [hx]))
 obtain⟨at_,rfl,hst2⟩:=openI (hval 2 3 v2 rfl rfl) h2 (fun x hx=>hlt x (by simp only [List.mem_append];simp [hx]))
 obtain⟨a0,cap0,ns,u3,rfl,hu3,hns,hst3⟩:=openL (hval 3 27 v3 rfl rfl) h3 (fun x hx=>hlt x (by simp only [List.mem_append];simp [hx]))
 obtain⟨hO0,la0,lb0⟩:=hu0.both hu3
 have hcalm:Calm W.tape:=hass.2.1 Z
 obtain⟨M,last,o,w',t',r1,r2,r3,v',e,hp,g1,g2,g3,g4⟩:=law_run (P:=Tryz.prog) (W:=W) (v:=(u0.union u3)) (args:=[boV P F a ws.length cap,wdV xw,.int .i64 at_,.slice a0 ns.length cap0]) Tryz.func5 rfl kR hO0.ag hO0.ro hcalm (asks_run (y:=⟨P,F,ws,a,cap⟩) (hws.le (la0)) (RowAt.le hns (lb0)))
 refine⟨M,last,o,w',t',r1,r2,r3,v',e,⟨?_,hp.2.2⟩,g1,g2,g3,g4⟩
 obtain⟨rfl,hbel,hos⟩:=hp
 exact⟨_,_,_,[],p0++(p1++(p2++(p3))),[],hW',trodAll_mk1 (shut_bool Tryz.underlying4 true),trodAll_mk4 (hst0 _ hbel) (hst1 _ hbel) (hst2 _ hbel) (hst3 _ hbel),Z,hbel.frame _,fun h=>by cases h⟩
theorem asks_said:Rows.VouchAsksSaid:=
 OpenClaim.holds_of_wide_leaving_time 5 Tryz.f5 rfl rfl rfl rfl rfl rfl rfl ⟨rfl,rfl,rfl,rfl,rfl⟩ rfl rfl rfl rfl rfl kR Tryz.func5 j5
  (of_decide_eq_true kR) (by unfold Func.isWrapper;first|(rw [if_pos (by decide +kernel)];kernel_rfl)|(rw [if_neg (by decide +kernel)];exact⟨Z,Z⟩))
  (fun os started H enc _ F=>asks_lifted os started H enc F)
end Go.Proofs.YtiolobmgibdfmaaGreat
end
#print axioms Go.Proofs.YtiolobmgibdfmaaGreat.asks_said
