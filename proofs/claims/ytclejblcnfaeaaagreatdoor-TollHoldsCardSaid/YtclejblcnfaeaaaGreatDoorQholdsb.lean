/- Part 44. -/
import Derived.Test.YtclejblcnfaeaaaGreatDoorQholdsa
set_option linter.all false
section
namespace Go.Pal
open Go Go.Conc View
section
variable{P:Program}{mn:Who}(T:Tab P){rd:Option Nat}{n:Nat}{Q:Exit→St→View→Prop}{ds:List Deferred}{ρ:Regs}{β:A0e}{v:View}{K:St→View→Prop}
 {ops:Array Oper}{i:Nat}{d:Nat}{ty:TypeId}{pos:String}{af:Array Edge}{gu:Option (Nat×Bool)}
 {S:List Rec}{done:List Nat}{ms:List Nat}{v0:View}{todo:List Nat}
theorem A_byteStr{t1 t2 e:TypeId}{y:Operand}{a:Option Addr}{cap:Nat}{c:UInt8}(ho:ops[i]?=some ⟨some d,.convert t1 t2 y,ty,pos,af,gu⟩)(hw:A0p ops gu ρ=some true)(hn:Nat.blt d n=true)
  (hy:ρ.val y=some (.slice a 1 cap))(h1:T.und t1=some (.slice e))(h2:T.und t2=some .string)(he:T.und e=some (.int .u8))(hr:Bok β v→RowAt (v.union (A0c β)) a [.int .u8 c.toNat])
  (h:K ⟨ds,(d,.string ⟨#[c]⟩)::ρ,β⟩ v):XOp P mn rd n ops i Q K ⟨ds,ρ,β⟩ v:=by
 refine A1w ho (A0j hw) (.inr Y) hn fun ev hev hbk=>?_
 rcases hr hbk with h0|⟨b,off,p,c',e',f,rfl,k2,k3,k4⟩
 ·cases h0
 have k5:=k4 0 _ Y
 have hc:(UInt8.ofNat ((c.toNat:Int)).toNat)=c:=by rw [Int.toNat_natCast];exact UInt8.ofNat_toNat
 have hlt:off<c'.size:=by simp only [List.length_cons,List.length_nil]at k3;omega
 simp only [execOp,A0a,hev _ _ hy,convert,A1k T h1,A1k T h2,A1k T he,Conv.bytesToString,loadCells]
 refine B0f k2 1 0 #[] (by simp only [List.length_cons,List.length_nil]at k3;omega) ?_
 have ex:(#[]++c'.extract (off+0) (off+0+1):Array Value)=#[.int .u8 c.toNat]:=by
  apply Array.ext_getElem?
  intro q
  simp only [Array.empty_append,Array.getElem?_extract,Nat.add_zero]
  rcases q with _|q
  ·simp only [Nat.add_zero]
   rw [Nat.add_zero]at k5
   rw [if_pos oM,k5];rfl
  ·rw [if_neg oM];rfl
 rw [ex,show(#[Value.int .u8 (c.toNat:Int)]:Array Value)=List.toArray [.int .u8 (c.toNat:Int)]from rfl]
 simp only [List.forIn_toArray,List.forIn_cons,List.forIn_nil,A0a,A0h,hc]
 exact⟨β,v,⟨hbk,Le.refl _⟩,h⟩
end
end Go.Pal
end
section
namespace Go.Pal.To
open Go
def dg(c:UInt8):Prop:=48≤c.toNat∧c.toNat≤57
instance (c:UInt8):Decidable (dg c):=inferInstanceAs (Decidable (_∧_))
end Go.Pal.To
end
section
namespace Go.Proofs.YtclejblcnfaeaaaGreatDoor
open Go Go.Pal Go.Pal.To Go.Conc View
open Go.Proofs.Tryz
open Go.Proofs.YtclejblcnfaeaaaGreatDoor.W (lexL)
set_option maxHeartbeats 4000000
set_option maxRecDepth 20000
section
variable{mn:Who}{v:View}
theorem wrapB{x:Int}(h0:0≤x)(h1:x<256):IntKind.u8.wrap x=x:=by
 show((x % 256:Int))=x
 omega
def chrC(n:Int):UInt8:=UInt8.ofNat (48+n).toNat
theorem chrC_nat{n:Int}(h:0≤n∧n≤9):((chrC n).toNat:Int)=48+n∧chrB n=⟨#[chrC n]⟩:=by
 rcases (by omega:n=0∨n=1∨n=2∨n=3∨n=4∨n=5∨n=6∨n=7∨n=8∨n=9)with rfl|rfl|rfl|rfl|rfl|rfl|rfl|rfl|rfl|rfl<;>exact⟨rfl,rfl⟩
theorem one_x{n:Int}(h:¬outZ n 0 9):Ret1 prog mn 123 [intV n] (.string (chrB n)) v:=by
 have h9:0≤n∧n≤9:=by unfold outZ at h;omega
 obtain⟨e1,e2⟩:=chrC_nat h9
 refine A0d tab func123 Y nB (args:=[_]) ?_
 refine su ?_
 rw [show IntKind.u8.wrap (48+n)=((chrC n).toNat:Int)from by rw [wrapB oM oM,e1]]
 refine Q_op fun ho=>A3w tab ho Y Y Y Y Y Y Y Y Y (fun b3 c3 hL=>?_)
 clear ho
 refine Q_op fun ho=>A_byteStr tab (c:=chrC n) ho Y Y Y Y Y Y (fun hb=>RowAt.own hb cntL hL) ?_
 clear ho
 refine su ?_
 refine A0f tab [] (by exact .tmp rfl .nil) (Back.here cntL) ?_
 exact⟨by rw [e2];rfl,Y⟩
end
end Go.Proofs.YtclejblcnfaeaaaGreatDoor
end
section
namespace Go.Proofs.YtclejblcnfaeaaaGreatDoor
open Go Go.Pal Go.Pal.To Go.Conc View
open Go.Proofs.Tryz
set_option maxHeartbeats 4000000
set_option maxRecDepth 20000
theorem setI{b n cap:Nat}{c:Array Value}{xs:List Value}(h:OwnS 3 1 [(b,c,3)] (some ⟨b,0,none⟩) n cap xs){i:Nat}(hi:i<n)(x:Int) :
  Nat.ble (0+i*1+1) c.size=true∧OwnS 3 1 [(b,A0z c (0+i*1) (intV x).cells.toList,3)] (some ⟨b,0,none⟩) n cap (xs.set i (intV x)):=by
 have:=ownS_set1 (intV x) h hi
 have e:0+i*1=i:=oM
 rw [e]
 exact⟨Nat.ble_eq_true_of_le this.2,this.1⟩
section
variable{mn:Who}{v:View}{aO:Option Addr}{cO:Nat}{os:List Int}{x:MA}
theorem refusedR_x(hro:RowAt v aO (os.map intV))(hx:x.k=0→0≤x.h∧x.h<os.length):Ret1 prog mn 124 [.slice aO os.length cO,x.val] (.bool (refd os x)) v:=by
 obtain⟨k,xa,xb,xh⟩:=x
 refine A0d tab func124 Y nB (args:=[_,_]) ?_
 refine sw fun bx=>?_
 by_cases h0:k=0
 ·subst h0
  obtain⟨h1,h2⟩:=hx rfl
  obtain⟨h,rfl⟩:=Int.eq_ofNat_of_zero_le h1
  have hlt:h<os.length:=by simp only at h2;omega
  obtain⟨bb,off,p,c,e,f,rfl,hv,hc⟩:=hro.get hlt
  refine su ?_
  refine A1m tab h Y Y Y Y Y Y Y hlt ?_
  refine su ?_
  refine A4l tab Y Y Y hv (A0l tab Y Y Y (by rw [Nat.mul_one];exact hc _ hlt)) ?_
  refine su ?_
  refine A0f tab [] (by exact .tmp rfl .nil) (Back.here cntL) ?_
  refine⟨?_,Y⟩
  unfold refd
  rw [show os[((h:Nat):Int).toNat]?=some os[h]from by rw [Int.toNat_natCast];exact List.getElem?_eq_getElem hlt]
  rfl
 ·have h0':(k==0)=false:=by simpa using h0
  rw [h0']
  refine su ?_
  refine A0f tab [] (by exact .tmp rfl .nil) (Back.here cntL) ?_
  refine⟨?_,Y⟩
  unfold refd
  rw [h0'];rfl
theorem afterR_x(hro:RowAt v aO (os.map intV))(hx:x.k=0→0≤x.h∧x.h<os.length)(hl:os.length<2^30) :
  CallsB prog mn 77 #[.slice aO os.length cO,x.val] (RetB fun r β'=>∃a c,r = .slice a os.length c∧OwnS 3 1 β' a os.length c ((doN os x).map intV)) [] v:=by
 have href:=refusedR_x (mn:=mn) (cO:=cO) hro hx
 obtain⟨k,xa,xb,xh⟩:=x
 refine A0d tab func77 Y nB (args:=[_,_]) ?_
 refine sw fun bx=>?_
 refine Q_op fun ho=>A3w tab ho Y Y Y Y Y Y Y Y Y (fun b2 c2 hS=>?_)
 refine su ?_
 refine Q_op fun ho2=>A3x tab (xs:=os.map intV) [(b2,c2,3)] [] [(bx,MA.cells ⟨k,xa,xb,xh⟩ |>.toArray,40)] ho2 Y Y Y Y Y Y Y Y Y Y cntA hS
  (fun _=>hro.le (A0g _ _)) sM (by simp [List.all_eq_true,A2k]) oM oM (fun seg a' cap' hS'=>?_)
 replace hS':OwnS 3 1 seg a' os.length cap' (os.map intV):=by rw [Nat.zero_add]at hS';exact hS'
 rw [Nat.zero_add os.length]
 clear ho ho2
 refine su ?_
 by_cases h0:k=0
 ·subst h0
  refine su ?_
  refine Q_op fun ho=>A0u ho bod124 Y Y Y Y Y href ?_
  have hsr:sold os ⟨0,xa,xb,xh⟩=!refd os ⟨0,xa,xb,xh⟩:=by
   unfold sold refd
   simp
  cases hr:refd os ⟨0,xa,xb,xh⟩with
  | true=>
   rw [hr]at hsr
   refine su ?_
   refine A0f tab seg (by exact .tmp rfl .nil) (Back.here cntL) ?_
   refine⟨a',cap',Y,?_⟩
   unfold doN
   rw [hsr];exact hS'
  | false=>
   rw [hr]at hsr
   obtain⟨h1,h2⟩:=hx rfl
   obtain⟨h,rfl⟩:=Int.eq_ofNat_of_zero_le h1
   have hlt:h<os.length:=by simp only at h2;omega
   obtain⟨b,c,rfl,rfl,hcap,hcs,hcc⟩:=own_box hS' oM
   obtain⟨w1,hS3⟩:=setI hS' hlt xb
   refine su ?_
   refine A6d tab h Y Y Y Y Y Y Y hlt ?_
   refine Q_storeA tab (x:=intV xb) Y Y Y Y Y Y ib w1 sb ?_
   refine su ?_
   refine A0f tab [(b,A0z c (0+h*1) (intV xb).cells.toList,3)] (by exact .tmp rfl .nil) (Back.here cntL) ?_
   refine⟨some ⟨b,0,none⟩,cap',Y,?_⟩
   unfold doN
   rw [hsr,if_pos (show(!false)=true from Y),Int.toNat_natCast,List.map_set]
   exact hS3
 ·have h0':(k==0)=false:=by simpa using h0
  rw [h0']
  refine su ?_
  refine A0f tab seg (by exact .tmp rfl .nil) (Back.here cntL) ?_
  refine⟨a',cap',Y,?_⟩
  unfold doN sold
  simp only [h0',Bool.false_and,Bool.false_eq_true,if_false]
  exact hS'
end
section
variable{mn:Who}{v:View}{P:Int}{aD aA:Option Addr}{cD cA:Nat}{d:List Int}{a:List MA}
theorem heldR_x(hd:RowAt v aD (d.map intV))(hdl:d.length<2^30)(ha:ActsAt v aA a)(hal:a.length<2^30) :
  Ret1 prog mn 75 [moV P aD d.length cD,.slice aA a.length cA] (intV (holdE P d a)) v:=by
 refine A0d tab func75 Y nB (args:=[_,_]) ?_
 refine sw fun bx=>?_
 refine Q_op fun ho=>A0u ho bod121 Y Y Y Y Y (checkR_x hd hdl) ?_
 clear ho
 unfold holdE chkBooks
 by_cases h1:A4b P d=0
 ·rw [h1,if_neg sM]
  have hm:=chkMorn_ok.1 h1
  refine su ?_
  refine Q_op fun ho=>A0u ho bod122 Y Y Y Y Y (checkBookR_x (most:=8) hm.p hdl ha hal) ?_
  clear ho
  rw [show chkBooks.go P d 8 [a]=(if A4z P d.length 8 a≠0 then A4z P d.length 8 a else 0)from rfl]
  refine su ?_
  refine A0f tab [] (by exact .tmp rfl .nil) (Back.here cntL) ?_
  refine⟨?_,Y⟩
  by_cases h3:A4z P d.length 8 a=0
  ·rw [h3,if_neg sM];rfl
  ·rw [if_pos h3];rfl
 ·rw [if_pos h1]
  refine su ?_
  rw [show(A4b P d != 0)=true from by simpa using h1]
  refine su ?_
  refine A0f tab [] (by exact .tmp rfl .nil) (Back.here cntL) ?_
  exact⟨Y,Y⟩
theorem enc_one{n:Int}(h0:0≤n)(h9:n≤9):Utf8.encode (IntKind.i32.wrap (IntKind.i64.wrap (48+n)))=chrB n:=by
 rcases (by omega:n=0∨n=1∨n=2∨n=3∨n=4∨n=5∨n=6∨n=7∨n=8∨n=9)with rfl|rfl|rfl|rfl|rfl|rfl|rfl|rfl|rfl|rfl<;>kernel_rfl
theorem replyR_x{aO:Option Addr}{cO:Nat}{os:List Int}{x:MA}(hro:RowAt v aO (os.map intV))(hk:x.k=0∨x.k=1∨x.k=2)(hx:0≤x.h∧x.h<os.length)(ho9:∀o∈os,0≤o∧o≤9) :
  Ret1 prog mn 76 [.slice aO os.length cO,x.val] (.string (B1q os x)) v:=by
 have href:=fun u (hu:v.Le u)=>refusedR_x (mn:=mn) (v:=u) (cO:=cO) (x:=x) (hro.le hu) fun _=>hx
 have hsr:refd os x=false→x.k=0→sold os x=true:=fun h1 h2=>by
  unfold refd at h1;unfold sold
  rw [h2]at h1⊢
  simpa using h1
 have hrs:refd os x=true→x.k=0∧sold os x=false:=fun h1=>by
  unfold refd at h1;unfold sold
  simp only [Bool.and_eq_true,beq_iff_eq]at h1
  rw [h1.1]
  simpa using h1.2
 obtain⟨k,xa,xb,xh⟩:=x
 simp only at hk hx hsr hrs
 obtain⟨h,rfl⟩:=Int.eq_ofNat_of_zero_le hx.1
 have hlt:h<os.length:=oM
 obtain⟨bb,off,p,c,e,f,rfl,hv,hc⟩:=hro.get hlt
 have hown:ownH os (h:Int)=os[h]:=by unfold ownH;rw [Int.toNat_natCast];exact ow_get hlt
 refine A0d tab func76 Y nB (args:=[_,_]) ?_
 rcases hk with rfl|rfl|rfl
 ·refine sw fun bx=>?_
  refine Q_op fun ho=>A0u ho bod124 Y Y Y Y Y (href _ (Le.refl _)) ?_
  clear ho
  cases hr:refd os ⟨0,xa,xb,h⟩with
  | true=>
   refine su ?_
   refine A0f tab [] (by exact .tmp rfl .nil) (Back.here cntL) ?_
   refine⟨?_,Y⟩
   unfold B1q;dsimp only;rw [if_pos rfl,(hrs hr).2];rfl
  | false=>
   refine su ?_
   refine A0f tab [] (by exact .tmp rfl .nil) (Back.here cntL) ?_
   refine⟨?_,Y⟩
   unfold B1q;dsimp only;rw [if_pos rfl,hsr hr rfl];rfl
 ·refine sw fun bx=>?_
  refine A6d tab h Y Y Y Y Y Y Y hlt ?_
  refine A2b tab Y Y Y hv (A0l tab Y Y Y (by rw [Nat.mul_one];exact hc _ hlt)) ?_
  have h9:=ho9 _ (List.getElem_mem hlt)
  refine Q_op fun ho=>A0u ho bod123 Y Y Y Y Y (one_x (n:=os[h]) (by unfold outZ;omega)) ?_
  clear ho
  refine su ?_
  refine A0f tab [] (by exact .tmp rfl .nil) (Back.here cntL) ?_
  refine⟨?_,Y⟩
  unfold B1q;dsimp only;rw [if_neg dM,if_neg dM,hown,enc_one h9.1 h9.2];rfl
 ·refine sw fun bx=>?_
  refine A1m tab h Y Y Y Y Y Y Y hlt ?_
  refine su ?_
  refine A4l tab Y Y Y hv (A0l tab Y Y Y (by rw [Nat.mul_one];exact hc _ hlt)) ?_
  refine su ?_
  by_cases hq:os[h]=xb
  ·rw [show(os[h]==xb)=true from by simpa using hq]
   refine su ?_
   refine A0f tab [] (by exact .tmp rfl .nil) (Back.here cntL) ?_
   refine⟨?_,Y⟩
   unfold B1q;dsimp only;rw [if_neg dM,if_pos rfl,hown,if_pos hq];rfl
  ·rw [show(os[h]==xb)=false from by simpa using hq]
   refine su ?_
   refine A0f tab [] (by exact .tmp rfl .nil) (Back.here cntL) ?_
   refine⟨?_,Y⟩
   unfold B1q;dsimp only;rw [if_neg dM,if_pos rfl,hown,if_neg hq];rfl
end
structure HrS where
 i:Nat
 sg:A0e
 a:Option Addr
 cap:Nat
 ax:Option Addr
 cx:Nat
section
variable{mn:Who}{v:View}{P:Int}{aD aA:Option Addr}{cD cA:Nat}{d:List Int}{a:List MA}
theorem holdF_x(hd:RowAt v aD (d.map intV))(hdl:d.length<2^30)(ha:ActsAt v aA a)(hal:a.length<2^30) :
  A6l prog mn 22 [moV P aD d.length cD,.slice aA a.length cA] (fun x u=>HoldAt u x (holdR P d a)) v:=by
 refine A3k tab func22 Y nB (args:=[_,_]) ?_
 refine sw fun bx=>?_
 obtain⟨b2,rfl⟩:∃x:Nat,x=bx:=⟨bx,rfl⟩
 refine Q_op fun ho=>A0u ho bod75 Y Y Y Y Y (heldR_x hd hdl ha hal) ?_
 clear ho
 unfold holdR
 by_cases h:holdE P d a=0
 ·rw [h,if_neg sM]
  have hok:=holdE_ok.1 h
  have hP4:=hok.m.p.2
  have hml:=hok.m.len
  have hal8:=hok.len
  refine su ?_
  refine A1q (α:=HrS) (fun z=>⟨[],[(10,.int .i64 z.i),(9,.slice z.ax d.length z.cx),(8,.slice z.a z.i z.cap),(1,.slice aA a.length cA)],z.sg⟩)
   (fun z w=>v.Le w∧z.i≤a.length∧OwnS 9 1 z.sg z.a z.i z.cap ((B0g d (a.take z.i)).map .string)∧RowAt w z.ax ((A3z d (a.take z.i)).map intV)) (fun z=>a.length-z.i) ⟨0,[],none,0,aD,cD⟩ ⟨Y,rg,cntL⟩ (Le.refl _) ⟨Le.refl _,Nat.zero_le _,.nil,hd⟩ ?_
  rintro⟨i,sg,a',cap,ax,cx⟩ w ⟨hvw,hi,hS,hx⟩
  simp only at hvw hi hS hx
  dsimp only
  refine su ?_
  refine A1i Y (fun h=>?_) (fun h=>?_)
  ·replace h:=fa h
   have hlt:i<a.length:=oM
   obtain⟨bb,off,p,c,e,f,rfl,hv,hc⟩:=(ha.le hvw).get hlt
   have hact:=hok.all _ (List.getElem_mem hlt)
   have hdl2:=A9w (a.take i) d
   have htk:a.take (i+1)=a.take i++[a[i]]:=List.take_succ_eq_append_getElem hlt
   have hrg:∀o∈A3z d (a.take i),0≤o∧o≤9:=fun o hm=>by
    have:=duskOf_in (P:=P) (N:=d.length) hok.m.all (fun x hx=>hok.all x (List.mem_of_mem_take hx)) o hm
    omega
   have hci:=hc i hlt
   have hnr:i+1=(B0g d (a.take (i+1))).length:=by rw [repsOf_len,List.length_take];omega
   generalize a[i]=y0 at hact htk hci
   have hR:Ret1 prog mn 76 [.slice ax d.length cx,y0.val] (.string (B1q (A3z d (a.take i)) y0)) w:=by
    have:=replyR_x (mn:=mn) (v:=w) (cO:=cx) hx hact.k ⟨hact.h.1,by rw [hdl2];exact hact.h.2⟩ hrg
    rw [hdl2]at this
    exact this
   have hA:∀u,w.Le u→CallsB prog mn 77 #[.slice ax d.length cx,y0.val] (RetB fun r β'=>∃q c,r = .slice q d.length c∧OwnS 3 1 β' q d.length c ((doN (A3z d (a.take i)) y0).map intV)) [] u:=fun u hu=>by
    have:=afterR_x (mn:=mn) (v:=u) (cO:=cx) (x:=y0) (hx.le hu) (fun _=>⟨hact.h.1,by rw [hdl2];exact hact.h.2⟩) (by rw [hdl2];exact hdl)
    rw [hdl2]at this
    exact this
   refine su ?_
   refine A6d tab i Y Y Y Y Y Y Y hlt ?_
   refine A2b tab Y Y Y hv (A1g tab Y Y Y hci) ?_
   refine Q_op fun ho=>A0u ho bod76 Y Y Y Y Y hR ?_
   clear ho
   refine Q_op fun ho=>A3w tab ho Y Y Y Y Y Y Y Y Y (fun b3 c3 hL3=>?_)
   clear ho
   refine Q_op fun ho=>A3x tab (xs:=[.string (B1q (A3z d (a.take i)) y0)]) sg [(b3,c3,9)] [] ho Y Y Y Y Y Y Y Y Y Y
    cntA hS (fun hb=>RowAt.own hb cntL hL3) rfl rfl (by show(2*(i+1)+768)*16≤2^48;omega) oM (fun sg' a'' cap' hS'=>?_)
   clear ho
   refine su ?_
   refine A6d tab i Y Y Y Y Y Y Y hlt ?_
   refine A2b tab Y Y Y hv (A1g tab Y Y Y hci) ?_
   refine Q_op fun ho=>A0o [] sg' ho bod77 Y Y Y Y Y cntA (hA _ (A0g _ _)) (fun y β2 hR=>?_)
   clear ho
   obtain⟨aN,cN,rfl,hN⟩:=hR
   refine A8x (β1:=β2) (β2:=sg') cntA (fun hbk=>?_)
   have hx2:=RowAt.own hbk (by exact cntL) hN
   refine su ?_
   refine A0b ⟨⟨i+1,sg',a'',cap',aN,cN⟩,_,by simp only;omega,⟨Y,rg,cntL⟩,Le.refl _,hvw.trans (A0g _ _),hlt,?_,?_⟩
   ·simp only
    rw [htk,B1p,List.map_append]
    exact hS'
   ·simp only
    rw [htk,duskOf_snoc]
    exact hx2
  ·replace h:=fa h
   have hin:i=a.length:=oM
   subst hin
   rw [List.take_length]at hS hx
   have hdl2:=A9w a d
   refine su ?_
   refine Q_op fun ho=>A3w tab ho Y Y Y Y Y Y Y Y Y (fun b3 c3 hL3=>?_)
   clear ho
   refine su ?_
   refine Q_op fun ho=>A3x tab (xs:=(A3z d a).map intV) [(b3,c3,3)] [] sg ho Y Y Y Y Y Y Y Y Y Y
    cntA hL3 (fun _=>hx.le (A0g _ _)) (by simp [hdl2]) (by simp [List.all_eq_true,A2k]) oM oM (fun seg a'' cap' hS'=>?_)
   clear ho
   refine su ?_
   refine A2m tab (by exact .tmp rfl (.tmp rfl (.tmp rfl .nil))) hvw fun hb2 hle=>?_
   refine⟨a',cap,a'',cap',?_,RowAt.own hb2 (by exact cntL) hS,RowAt.own hb2 (by exact cntL) hS'⟩
   dsimp only
   rw [repsOf_len,hdl2,Nat.zero_add]
   rfl
 ·refine su ?_
  rw [show(holdE P d a != 0)=true from by simpa using h]
  refine su ?_
  refine A2m tab (by exact .tmp rfl (.tmp rfl (.tmp rfl .nil))) (Le.refl _) fun hb2 hle=>?_
  rw [if_pos h]
  exact⟨none,0,none,0,Y,.inl Y,.inl Y⟩
end
end Go.Proofs.YtclejblcnfaeaaaGreatDoor
end
section
namespace Go.Pal.To
open Go
def notB:ByteArray:=⟨#[110,111,116]⟩
def lied(os:List Int)(x:MA)(p:Int):Bool:=x.k==2&&x.a==p && !(ownH os x.h==x.b)
def B2t:List Int→List MA→Int→Bool
 | _,[],_=>false
 | os,x::l,p=>lied os x p||B2t (doN os x) l p
theorem B2u:∀{l:List MA} {os:List Int} {x:MA} {p:Int},B2t os (l++[x]) p=(B2t os l p||lied (A3z os l) x p)
 | [],os,x,p=>by simp [B2t,A3z]
 | y::l,os,x,p=>by
  show(lied os y p||B2t (doN os y) (l++[x]) p)=((lied os y p||B2t (doN os y) l p)||lied (A3z (doN os y) l) x p)
  rw [B2u,Bool.or_assoc]
def B2v(n:Nat)(os:List Int)(l:List MA):List Int:=((List.range n).filter fun p:Nat=>B2t os l p).map fun p:Nat=>(p:Int)
def liarsR(P:Int)(d:List Int)(l:List MA):List Int×Int:=if holdE P d l≠0 then([],holdE P d l)else(B2v 4 d l,0)
theorem B2w(n:Nat)(os:List Int)(l:List MA):B2v (n+1) os l=if B2t os l n=true then B2v n os l++[(n:Int)]else B2v n os l:=by
 unfold B2v
 rw [List.range_succ,List.filter_append,List.map_append]
 by_cases h:B2t os l n=true
 ·rw [if_pos h];simp [h]
 ·rw [if_neg h];simp [h]
theorem liarsL_len(n:Nat)(os:List Int)(l:List MA):(B2v n os l).length≤n:=by
 unfold B2v
 rw [List.length_map]
 exact Nat.le_trans (List.length_filter_le _ _) sM
theorem liesL_no{P N:Int}:∀{l:List MA} {os:List Int} {p:Int},(∀x∈l,Ok P N x)→P≤p→B2t os l p=false
 | [],_,_,_,_=>rfl
 | x::l,os,p,h,hp=>by
  have hx:=h x sM
  unfold B2t
  rw [liesL_no (fun y hy=>h y (by simp [hy])) hp,Bool.or_false]
  unfold lied
  by_cases hk:x.k=2
  ·have:=(hx.ab oM).1
   have:¬x.a=p:=oM
   simp [this]
  ·simp [hk]
theorem liarsL_le{P N:Int}{l:List MA}{os:List Int}{n:Nat}(h:∀x∈l,Ok P N x)(hn:P≤n):∀k,B2v (n+k) os l=B2v n os l
 | 0=>rfl
 | k+1=>by
  rw [show n+(k+1)=n+k+1 from Y,B2w,liesL_no h oM,if_neg dM]
  exact liarsL_le h hn k
theorem reply_not{P:Int}{os:List Int}{x:MA}(hx:Ok P os.length x)(hk:x.k=2):B1q os x=notB↔¬ownH os x.h=x.b:=by
 unfold B1q
 rw [if_neg oM,if_pos hk]
 split
 ·rename_i h
  exact⟨fun e=>absurd e dM,fun e=>absurd h e⟩
 ·rename_i h
  exact⟨fun _=>h,fun _=>rfl⟩
end Go.Pal.To
end
section
namespace Go.Proofs.YtclejblcnfaeaaaGreatDoor
open Go Go.Pal Go.Pal.To Go.Conc View
open Go.Proofs.Tryz
set_option maxHeartbeats 4000000
set_option maxRecDepth 20000
def LiarsAt(u:View)(x:Value)(r:List Int×Int):Prop:=∃a c,x = .tuple (List.toArray [.slice a r.1.length c,intV r.2])∧RowAt u a (r.1.map intV)
def lvC(f:Int→Bool):Array Value:=List.toArray [.bool (f 0),.bool (f 1),.bool (f 2),.bool (f 3)]
theorem lvC_set{f:Int→Bool}{j:Nat}(h:j<4):lvC (fun p=>f p||(j:Int)==p)=(putV (lvC f).toList (0+j*1) (Value.bool true).cells.toList).toArray:=by
 show _=(putV (lvC f).toList (0+j*1) [Value.bool true]).toArray
 rcases (by omega:j=0∨j=1∨j=2∨j=3)with rfl|rfl|rfl|rfl<;>simp [lvC,putV]
theorem lvC_get{f:Int→Bool}{j:Nat}(h:j<4):partOf tab 4 (lvC f) (j*1)=some (.bool (f j)):=by
 rcases (by omega:j=0∨j=1∨j=2∨j=3)with rfl|rfl|rfl|rfl<;>rfl
theorem lied_not{os:List Int}{x:MA}(h:¬(x.k=2∧¬ownH os x.h=x.b))(p:Int):lied os x p=false:=by
 unfold lied
 by_cases hk:x.k=2
 ·have:ownH os x.h=x.b:=Classical.byContradiction fun e=>h ⟨hk,e⟩
  simp [this]
 ·simp [hk]
theorem lied_of{os:List Int}{x:MA}(hk:x.k=2)(h:¬ownH os x.h=x.b)(p:Int):lied os x p=(x.a==p):=by
 unfold lied
 simp [hk,h]
structure LiS where
 i:Nat
 sg:A0e
 a:Option Addr
 cap:Nat
section
variable{mn:Who}{v:View}{P:Int}{aD aA:Option Addr}{cD cA:Nat}{d:List Int}{a:List MA}
theorem liars_x(hd:RowAt v aD (d.map intV))(ha:ActsAt v aA a)(hok:HOk P d a) :
  A6l prog mn 25 [moV P aD d.length cD,.slice aA a.length cA] (fun x u=>LiarsAt u x (B2v 4 d a,0)) v:=by
 have hll:=hok.len
 have hdl:=hok.m.len
 refine A3k tab func25 Y nB (args:=[_,_]) ?_
 refine sw fun bx=>?_
 obtain⟨b2,rfl⟩:∃x:Nat,x=bx:=⟨bx,rfl⟩
 refine Q_op fun ho=>A1p ho bod10 Y Y Y Y Y (hold_ok (cD:=cD) (cA:=cA) hd ha hok) (fun x w hl hx=>?_)
 clear ho
 obtain⟨ar,cr,ad,cd,rfl,h2,h3⟩:=hx
 clear h3
 replace ha:=ha.le hl
 refine sw fun bx=>?_
 refine A1q (α:=Nat) (fun i=>⟨[],[(29,.int .i64 i),(28,.int .i64 a.length),(27,.slice ar a.length cr),(1,.slice aA a.length cA),(9,.pointer (some ⟨bx,0,none⟩))],[(bx,lvC (B2t d (a.take i)),137)]⟩)
  (fun i u=>u=w∧i≤a.length) (fun i=>a.length-i) 0 ⟨Y,rg,show Subm [(bx,lvC (B2t d []),137)] [(bx,lvC (B2t d []),137),(b2,(moV P aD d.length cD).cells,26)]from cntL⟩ (Le.refl _) ⟨Y,Nat.zero_le _⟩ ?_
 obtain⟨b9,rfl⟩:∃x:Nat,x=bx:=⟨bx,rfl⟩
 rintro i u ⟨rfl,hi⟩
 refine su ?_
 refine A1i Y (fun h=>?_) (fun h=>?_)
 ·replace h:=fa h
  have hlt:i<a.length:=oM
  have hri:i<(B0g d a).length:=by rw [repsOf_len];exact hlt
  obtain⟨bb,off,p,c,e,f,rfl,hv,hc⟩:=ha.get hlt
  obtain⟨b1,o1,p1,c1,e1,f1,rfl,hv1,hc1⟩:=h2.get hri
  have hg:(B0g d a)[i]=B1q (A3z d (a.take i)) a[i]:=by
   have:=repsOf_get (os:=d) hlt
   rw [List.getElem?_eq_some_iff]at this
   exact this.2
  have hact:=hok.all _ (List.getElem_mem hlt)
  have hdl2:=A9w (a.take i) d
  rw [←hdl2]at hact
  have htk:a.take (i+1)=a.take i++[a[i]]:=List.take_succ_eq_append_getElem hlt
  have hci:=hc i hlt
  have hci1:=hc1 i hri
  rw [hg]at hci1
  have hls:∀p,B2t d (a.take (i+1)) p=(B2t d (a.take i) p||lied (A3z d (a.take i)) a[i] p):=fun p=>by rw [htk,B2u]
  generalize a[i]=y at hact hci hci1 hls
  generalize A3z d (a.take i)=os at hact hci1 hls
  have hno:¬(y.k=2∧¬ownH os y.h=y.b)→lvC (B2t d (a.take (i+1)))=lvC (B2t d (a.take i)):=fun h=>by
   unfold lvC
   simp only [hls,lied_not h,Bool.or_false]
  refine su ?_
  refine A6d tab i Y Y Y Y Y Y Y hlt ?_
  refine A2b tab Y Y Y hv1 (A0l tab Y Y Y (by rw [Nat.mul_one];exact hci1)) ?_
  refine su ?_
  refine A6d tab i Y Y Y Y Y Y Y hlt ?_
  refine A2b tab Y Y Y hv (A1g tab Y Y Y hci) ?_
  refine Q_op fun ho=>A0u ho bod60 Y Y Y Y Y (deedOf_x (x:=y) hact.k) ?_
  clear ho
  by_cases hk:y.k=2
  ·have hab:=hact.ab oM
   have hP4:=hok.m.p
   obtain⟨j,hj,hj4⟩:∃j:Nat,y.a=j∧j<4:=⟨y.a.toNat,oM,oM⟩
   have hrn:=reply_not hact hk
   rw [show y.deed = .iface 139 (.agg (List.toArray [intV y.a,intV y.b,intV y.h]))from by unfold MA.deed;rw [if_neg oM,if_pos hk]]
   refine sw fun bx=>?_
   by_cases hw:ownH os y.h=y.b
   ·rw [string_ne ({data:=#[110,111,116] }:ByteArray) (fun e=>hrn.1 e hw)]
    refine su ?_
    refine A0b ⟨i+1,u,oM,⟨Y,rg,?_⟩,Le.refl _,Y,hlt⟩
    rw [hno (fun h=>h.2 hw)]
    exact cntL
   ·rw [hrn.2 hw]
    rw [show(notB.toList==({data:=#[110,111,116] }:ByteArray).toList)=true from beq_self_eq_true _]
    have hlv:lvC (B2t d (a.take (i+1)))=lvC (fun p=>B2t d (a.take i) p||(j:Int)==p):=by
     unfold lvC
     simp only [hls,lied_of hk hw,hj]
    rw [hj]
    refine su ?_
    refine Q_elemA tab j Y Y Y Y Y Y Y hj4 ?_
    refine Q_op fun ho=>A2q tab ho Y Y Y Y Y Y ib (by apply Nat.ble_eq_true_of_le;show 0+j*1+1≤4;omega) sb ?_
    refine su ?_
    refine A0b ⟨i+1,u,oM,⟨Y,rg,?_⟩,Le.refl _,Y,hlt⟩
    rw [hlv,lvC_set hj4]
    exact cntL
  ·have hnk:=hno (fun h=>hk h.1)
   rcases hact.k with h0|h0|h0
   ·rw [show y.deed = .iface 113 (.agg (List.toArray [intV y.a,intV y.b,intV y.h]))from by unfold MA.deed;rw [if_pos h0]]
    refine sw fun bx=>?_
    refine A0b ⟨i+1,u,oM,⟨Y,rg,?_⟩,Le.refl _,Y,hlt⟩
    rw [hnk]
    exact cntL
   ·rw [show y.deed = .iface 202 (.agg (List.toArray [intV y.h]))from by unfold MA.deed;rw [if_neg oM,if_neg hk]]
    refine sw fun bx=>?_
    refine A0b ⟨i+1,u,oM,⟨Y,rg,?_⟩,Le.refl _,Y,hlt⟩
    rw [hnk]
    exact cntL
   ·exact absurd h0 hk
 ·replace h:=fa h
  obtain rfl:i=a.length:=oM
  rw [List.take_length]
  refine su ?_
  refine A1q (α:=LiS) (fun z=>⟨[],[(53,.int .i64 z.i),(52,.agg (lvC (B2t d a))),(14,.slice z.a (B2v z.i d a).length z.cap)],z.sg⟩)
   (fun z w=>w=u∧z.i≤4∧OwnS 3 1 z.sg z.a (B2v z.i d a).length z.cap ((B2v z.i d a).map intV)) (fun z=>4-z.i) ⟨0,[],none,0⟩ ⟨Y,rg,cntL⟩ (Le.refl _) ⟨Y,Nat.zero_le _,.nil⟩ ?_
  rintro⟨i,sg,ag,cap⟩ w ⟨rfl,hi4,hS⟩
  simp only at hi4 hS
  dsimp only
  refine su ?_
  refine A1i Y (fun hlt=>?_) (fun hlt=>?_)
  ·simp only [decide_eq_true_eq]at hlt
   have hlt:i<4:=oM
   have hsu:=B2w i d a
   have hln:=liarsL_len i d a
   refine su ?_
   refine Q_op fun ho=>A_indexA tab (j:=i) ho Y Y Y Y Y Y Y hlt (lvC_get hlt) ?_
   clear ho
   cases hb:B2t d a i with
   | false=>
    rw [hb,if_neg dM]at hsu
    refine su ?_
    refine A0b ⟨⟨i+1,sg,ag,cap⟩,w,by simp only;omega,⟨Y,?_,cntL⟩,Le.refl _,Y,hlt,?_⟩
    ·simp only [hsu]
     exact rg
    ·simp only [hsu];exact hS
   | true=>
    rw [hb,if_pos rfl]at hsu
    refine su ?_
    refine Q_op fun ho=>A3w tab ho Y Y Y Y Y Y Y Y Y (fun b3 c3 hL=>?_)
    clear ho
    refine Q_op fun ho=>A3x tab (xs:=[intV i]) sg [(b3,c3,3)] [] ho Y Y Y Y Y Y Y Y Y Y (show ∀p,Pal.cnt p ((b3,c3,3)::sg)=Pal.cnt p (sg++([(b3,c3,3)]++[]))from cntA) hS
     (fun hb=>RowAt.own hb cntL hL) Y Y (by show(2*((B2v i d a).length+1)+768)*8≤2^48;omega) oM (fun sg' a' cap' hS'=>?_)
    clear ho
    refine su ?_
    refine A0b ⟨⟨i+1,sg',a',cap'⟩,w,by simp only;omega,⟨Y,?_,cntL⟩,Le.refl _,Y,hlt,?_⟩
    ·simp only [hsu,List.length_append]
     exact rg
    ·simp only [hsu,List.length_append,List.map_append];exact hS'
  ·obtain rfl:i=4:=by simp only [decide_eq_false_iff_not]at hlt;omega
   refine su ?_
   refine A2m tab (by exact .tmp rfl (.tmp rfl .nil)) hl fun hb hle'=>?_
   exact⟨ag,cap,Y,RowAt.own hb (by exact cntL) hS⟩
end
theorem ext_at{c:Array Value}{o n j:Nat}{l:List Value}(h:c.extract o (o+n)=l.toArray)(hs:o+n≤c.size)(hj:j<n):c[o+j]?=l[j]?:=by
 have:=congrArg (fun z:Array Value=>z[j]?) h
 simp only [Array.getElem?_extract,List.getElem?_toArray]at this
 rw [←this,if_pos oM]
structure LfS where
 i:Nat
 sg:A0e
 a:Option Addr
 cap:Nat
section
variable{mn:Who}{v:View}{P:Int}{aD aA:Option Addr}{cD cA:Nat}{d:List Int}{a:List MA}
theorem liarsP_x(hd:RowAt v aD (d.map intV))(hdl:d.length<2^30)(ha:ActsAt v aA a)(hal:a.length<2^30) :
  A6l prog mn 25 [moV P aD d.length cD,.slice aA a.length cA] (fun x u=>LiarsAt u x (liarsR P d a)) v:=by
 by_cases h:holdE P d a=0
 ·unfold liarsR
  rw [if_neg (by simpa using h)]
  exact liars_x hd ha (holdE_ok.1 h)
 ·refine A3k tab func25 Y nB (args:=[_,_]) ?_
  refine sw fun bx=>?_
  refine Q_op fun ho=>A1p ho bod10 Y Y Y Y Y (hold_x (cD:=cD) (cA:=cA) hd hdl ha hal) (fun x w hl hx=>?_)
  clear ho
  unfold holdR at hx
  unfold liarsR
  rw [if_pos h]at hx⊢
  obtain⟨ar,kr,ad,kd,rfl,h2,h3⟩:=hx
  refine su ?_
  rw [show(holdE P d a != 0)=true from by simpa using h]
  refine su ?_
  refine A2m tab (by exact .tmp rfl (.tmp rfl .nil)) hl fun hb2 hle=>?_
  exact⟨none,0,Y,.inl Y⟩
theorem liarsF_x(hd:RowAt v aD (d.map intV))(hdl:d.length<2^30)(ha:ActsAt v aA a)(hal:a.length<2^30) :
    A6l prog mn 26 [moV P aD d.length cD,.slice aA a.length cA] (fun x u=>LiarsAt u x (liarsR P d a)) v:=by
  refine A3k tab func26 Y nB (args:=[_,_]) ?_
  refine sw fun bx=>?_
  obtain⟨b2,rfl⟩:∃x:Nat,x=bx:=⟨bx,rfl⟩
  refine Q_op fun ho=>A1p ho bod22 Y Y Y Y Y (holdF_x (cD:=cD) (cA:=cA) hd hdl ha hal) (fun x w hl hx=>?_)
  clear ho
  unfold holdR at hx
  unfold liarsR
  by_cases h:holdE P d a=0
  · rw [if_neg (by simpa using h)]at hx⊢
    obtain⟨ar,kr,ad,kd,rfl,h2,h3⟩:=hx
    clear h3
    have hok:=holdE_ok.1 h
    obtain⟨Pn,hPn,hP1,hP4⟩:∃n:Nat,P=n∧1≤n∧n≤4:=by
      have:=hok.m.p
      exact⟨P.toNat,oM,oM,oM⟩
    have hl4:B2v 4 d a=B2v Pn d a:=by
      have:=liarsL_le (P:=P) (N:=d.length) (os:=d) (n:=Pn) hok.all oM (4-Pn)
      rw [show Pn+(4-Pn)=4 from by omega]at this
      exact this
    rw [hl4]
    have hal8:=hok.len
    replace ha:=ha.le hl
    have hrl:(B0g d a).length=a.length:=repsOf_len _ _
    refine su ?_
    refine A1q (α:=LfS) (fun z=>⟨[],[(10,.int .i64 z.i),(9,.slice z.a (B2v z.i d a).length z.cap),(1,.slice aA a.length cA),(6,.slice ar (B0g d a).length kr),(2,.pointer (some ⟨b2,0,none⟩))],z.sg++[(b2,(moV P aD d.length cD).cells,26)]⟩)
      (fun z u=>u=w∧z.i≤Pn∧OwnS 3 1 z.sg z.a (B2v z.i d a).length z.cap ((B2v z.i d a).map intV)) (fun z=>Pn-z.i) ⟨0,[],none,0⟩ ⟨Y,rg,cntL⟩ (Le.refl _) ⟨Y,Nat.zero_le _,.nil⟩ ?_
    rintro⟨q,sg,a',cap⟩ u ⟨rfl,hq,hS⟩
    simp only at hq hS
    dsimp only
    refine su ?_
    refine A1i Y (fun h=>?_) (fun h=>?_)
    · have hqP:q<Pn:=by have:=of_decide_eq_true h;omega
      rename_i h0
      clear h
      have hsucc:=B2w q d a
      have hql:=liarsL_len q d a
      refine ru ?_
      refine A4i ?_
      refine ru ?_
      refine A6q (fun σ w'=>w'=u∧σ=⟨[],[(11,.bool (B2t d a q)),(10,.int .i64 q),(9,.slice a' (B2v q d a).length cap),(1,.slice aA a.length cA),(6,.slice ar (B0g d a).length kr),(2,.pointer (some ⟨b2,0,none⟩))],sg++[(b2,(moV P aD d.length cD).cells,26)]⟩) ?_ ?_
      rotate_left
      · refine su ?_
        refine A1q (α:=Nat) (fun i=>⟨[],[(12,.int .i64 i),(11,.bool (B2t d (a.take i) q)),(10,.int .i64 q),(9,.slice a' (B2v q d a).length cap),(1,.slice aA a.length cA),(6,.slice ar (B0g d a).length kr),(2,.pointer (some ⟨b2,0,none⟩))],sg++[(b2,(moV P aD d.length cD).cells,26)]⟩)
          (fun i w'=>w'=u∧i≤a.length) (fun i=>a.length-i) 0 ⟨Y,rg,cntL⟩ (Le.refl _) ⟨Y,Nat.zero_le _⟩ ?_
        rintro i w' ⟨rfl,hi⟩
        refine su ?_
        refine A1i Y (fun h=>?_) (fun h=>?_)
        · have hlt:i<a.length:=by have:=of_decide_eq_true h;omega
          clear h
          have hri:i<(B0g d a).length:=by rw [hrl];exact hlt
          obtain⟨bb,off,p,c,e,f,rfl,hv,hc⟩:=ha.get hlt
          obtain⟨b1,o1,p1,c1,e1,f1,rfl,hv1,hc1⟩:=h2.get hri
          have hg:(B0g d a)[i]=B1q (A3z d (a.take i)) a[i]:=by
            have:=repsOf_get (os:=d) hlt
            rw [List.getElem?_eq_some_iff]at this
            exact this.2
          have hact:=hok.all _ (List.getElem_mem hlt)
          have hdl2:=A9w (a.take i) d
          rw [←hdl2]at hact
          have hci:=hc i hlt
          have hci1:=hc1 i hri
          rw [hg]at hci1
          have hls:B2t d (a.take (i+1)) q=(B2t d (a.take i) q||lied (A3z d (a.take i)) a[i] q):=by
            rw [List.take_succ_eq_append_getElem hlt,B2u]
          clear hg
          generalize a[i]=y at hact hci hci1 hls
          generalize A3z d (a.take i)=os at hact hci1 hls
          have hld:lied os y q=((y.k==2)&&(y.a==(q:Int)) && !(ownH os y.h==y.b)):=rfl
          cases hs0:B2t d (a.take i) q with
          | true=>
            rw [hs0,Bool.true_or]at hls
            refine su ?_
            refine A0b ⟨i+1,w',oM,⟨Y,?_,cntL⟩,Le.refl _,Y,hlt⟩
            rw [hls];exact rg
          | false=>
            rw [hs0,Bool.false_or,hld]at hls
            refine su ?_
            refine A6d tab i Y Y Y Y Y Y Y hlt ?_
            refine su ?_
            refine A2b tab Y Y Y hv (A0l tab Y Y Y (show c[off+i*4+0]?=some (intV y.k)from ext_at hci.2 hci.1 dM)) ?_
            refine su ?_
            by_cases hk:y.k=2
            · have hk':(y.k==2)=true:=by simpa using hk
              rw [hk']at hls⊢
              refine su ?_
              refine A6d tab i Y Y Y Y Y Y Y hlt ?_
              refine su ?_
              refine A2b tab Y Y Y hv (A0l tab Y Y Y (show c[off+i*4+1]?=some (intV y.a)from ext_at hci.2 hci.1 dM)) ?_
              refine su ?_
              by_cases hya:y.a=(q:Int)
              · have hya':(y.a==(q:Int))=true:=by simpa using hya
                rw [hya']at hls⊢
                refine su ?_
                refine A6d tab i Y Y Y Y Y Y Y hri ?_
                refine A2b tab Y Y Y hv1 (A0l tab Y Y Y (by rw [Nat.mul_one];exact hci1)) ?_
                refine su ?_
                have hrn:=reply_not hact hk
                by_cases hw:ownH os y.h=y.b
                · rw [string_ne ({data:=#[110,111,116] }:ByteArray) (fun e=>hrn.1 e hw)]
                  rw [show(ownH os y.h==y.b)=true from by simpa using hw]at hls
                  refine su ?_
                  refine A0b ⟨i+1,w',oM,⟨Y,?_,cntL⟩,Le.refl _,Y,hlt⟩
                  rw [hls];exact rg
                · rw [hrn.2 hw]
                  rw [show(notB.toList==({data:=#[110,111,116] }:ByteArray).toList)=true from beq_self_eq_true _]
                  rw [show(ownH os y.h==y.b)=false from by simpa using hw]at hls
                  refine su ?_
                  refine A0b ⟨i+1,w',oM,⟨Y,?_,cntL⟩,Le.refl _,Y,hlt⟩
                  rw [hls];exact rg
              · have hya':(y.a==(q:Int))=false:=by simpa using hya
                rw [hya']at hls⊢
                refine su ?_
                refine A0b ⟨i+1,w',oM,⟨Y,?_,cntL⟩,Le.refl _,Y,hlt⟩
                rw [hls];exact rg
            · have hk':(y.k==2)=false:=by simpa using hk
              rw [hk']at hls⊢
              refine su ?_
              refine A0b ⟨i+1,w',oM,⟨Y,?_,cntL⟩,Le.refl _,Y,hlt⟩
              rw [hls];exact rg
        · have hin:i=a.length:=by have:=of_decide_eq_false h;omega
          clear h
          rw [hin,List.take_length]
          refine su ?_
          exact A0b ⟨_,_,⟨Y,Y⟩,⟨Y,rg,cntL⟩,Le.refl _⟩
      rintro σ w' ⟨rfl,rfl⟩
      cases hs:B2t d a q with
      | true=>
        rw [hs,if_pos rfl]at hsucc
        refine su ?_
        refine Q_op fun ho=>A3w tab ho Y Y Y Y Y Y Y Y Y (fun b3 c3 hL3=>?_)
        clear ho
        refine Q_op fun ho=>A3x tab (xs:=[intV (q:Int)]) sg [(b3,c3,3)] [(b2,(moV P aD d.length cD).cells,26)] ho Y Y Y Y Y Y Y Y Y Y cntA hS
          (fun hb=>RowAt.own hb cntL hL3) Y Y oM oM (fun sg2 a2 cap2 hS2=>?_)
        clear ho
        refine su ?_
        refine A0b ⟨⟨q+1,sg2,a2,cap2⟩,w',by simp only;omega,⟨Y,?_,cntL⟩,Le.refl _,Y,hqP,?_⟩
        · simp only [hsucc,List.length_append]
          exact rg
        · simp only [hsucc,List.length_append,List.map_append]
          exact hS2
      | false=>
        rw [hs,if_neg dM]at hsucc
        refine su ?_
        refine A0b ⟨⟨q+1,sg,a',cap⟩,w',by simp only;omega,⟨Y,?_,cntL⟩,Le.refl _,Y,hqP,?_⟩
        · simp only [hsucc]
          exact rg
        · simp only [hsucc]
          exact hS
    · have hin:q=Pn:=by have:=of_decide_eq_false h;omega
      subst hin
      refine su ?_
      refine A2m tab (by exact .tmp rfl (.tmp rfl .nil)) hl fun hb2 hle=>?_
      exact⟨a',cap,Y,RowAt.own hb2 (by exact cntL) hS⟩
  · rw [if_pos h]at hx⊢
    obtain⟨ar,kr,ad,kd,rfl,h2,h3⟩:=hx
    refine su ?_
    rw [show(holdE P d a != 0)=true from by simpa using h]
    refine su ?_
    refine A2m tab (by exact .tmp rfl (.tmp rfl .nil)) hl fun hb2 hle=>?_
    exact⟨none,0,Y,.inl Y⟩
end
end Go.Proofs.YtclejblcnfaeaaaGreatDoor
end
section
namespace Go.Pal.To
open Go
def B2x:List Int→List MA→List MA
 | _,[]=>[]
 | os,x::l=>if sold os x then x::B2x (doN os x) l else B2x (doN os x) l
theorem B2y:∀{l:List MA} {os:List Int} {x:MA},B2x os (l++[x])=B2x os l++if sold (A3z os l) x then [x]else []
 | [],os,x=>by
  by_cases h:sold os x=true<;>simp [B2x,A3z,h]
 | y::l,os,x=>by
  show B2x os (y::(l++[x]))=_
  unfold B2x
  rw [B2y]
  by_cases h:sold os y=true
  ·rw [if_pos h,if_pos h];rfl
  ·rw [if_neg h,if_neg h];rfl
theorem dealsT_len:∀{l:List MA} {os:List Int},(B2x os l).length≤l.length
 | [],_=>Nat.le_refl _
 | x::l,os=>by
  have:=dealsT_len (l:=l) (os:=doN os x)
  unfold B2x
  split
  ·simp only [List.length_cons];omega
  ·simp only [List.length_cons];omega
def tradeR(P:Int)(d:List Int)(l:List MA):Int×List Int×List MA×Int:=
 if holdE P d l≠0 then(0,[],[],holdE P d l)else if(B2x d l).length > 6 then(0,[],[],6)else(P,d,B2x d l,0)
theorem reply_ok{P:Int}{os:List Int}{x:MA}(hP:P≤4)(h:∀o∈os,0≤o∧o<P)(hx:Ok P os.length x)(hk:x.k=0):B1q os x=⟨#[111,107]⟩↔sold os x=true:=by
 unfold B1q
 rw [if_pos hk]
 split
 ·rename_i e;exact⟨fun _=>e,fun _=>rfl⟩
 ·rename_i e;exact⟨fun q=>absurd q dM,fun q=>absurd q e⟩
end Go.Pal.To
end
section
namespace Go.Proofs.YtclejblcnfaeaaaGreatDoor
open Go Go.Pal Go.Pal.To Go.Conc View
open Go.Proofs.Tryz
set_option maxHeartbeats 4000000
set_option maxRecDepth 20000
def OwnI(e:TypeId)(k:Nat)(x:Value)(β:A0e)(len:Nat)(cs:List Value):Prop:=∃a c,x = .slice a len c∧OwnS e k β a len c cs
abbrev trC(P:Int)(ad:Option Addr)(nd cd:Nat)(aq:Option Addr)(n cq:Nat):Array Value:=List.toArray [intV P,.slice ad nd cd,.slice aq n cq]
abbrev trZ:Array Value:=List.toArray [intV 0,.slice none 0 0,.slice none 0 0]
def DealAt(u:View)(y:List Value)(x:MA):Prop:=∃ah ch,y=[intV x.a,intV x.b,.slice ah 1 ch]∧RowAt u ah [intV x.h]
def DlsAt(u:View)(ys:List (List Value))(l:List MA):Prop:=ys.length=l.length∧∀(i:Nat) (y:List Value) (x:MA),ys[i]?=some y→l[i]?=some x→DealAt u y x
theorem DlsAt.nil{u:View}:DlsAt u [] []:=⟨Y,fun i y x h=>by simp at h⟩
theorem DlsAt.le{u w:View}{ys:List (List Value)}{l:List MA}(h:DlsAt u ys l)(hl:u.Le w):DlsAt w ys l:=⟨h.1,fun i y x h1 h2=>by
 obtain⟨ah,ch,e,hr⟩:=h.2 i y x h1 h2
 exact⟨ah,ch,e,hr.le hl⟩⟩
theorem DlsAt.snoc{u:View}{ys:List (List Value)}{l:List MA}{y:List Value}{x:MA}(h:DlsAt u ys l)(hy:DealAt u y x):DlsAt u (ys++[y]) (l++[x]):=by
 refine⟨by simp [h.1],fun i y' x' h1 h2=>?_⟩
 rcases Nat.lt_trichotomy i ys.length with hlt|heq|hgt
 ·rw [List.getElem?_append_left hlt]at h1
  rw [List.getElem?_append_left (by rw [←h.1];exact hlt)]at h2
  exact h.2 i y' x' h1 h2
 ·subst heq
  rw [List.getElem?_append_right (Nat.le_refl _),Nat.sub_self]at h1
  rw [h.1,List.getElem?_append_right (Nat.le_refl _),Nat.sub_self]at h2
  cases h1;cases h2;exact hy
 ·rw [List.getElem?_eq_none (by simp;omega)]at h1
  cases h1
theorem DlsAt.three{u:View}{ys:List (List Value)}{l:List MA}(h:DlsAt u ys l):∀y∈ys,y.length=3:=fun y hy=>by
 obtain⟨i,hi,e⟩:=List.getElem_of_mem hy
 obtain⟨ah,ch,rfl,_⟩:=h.2 i y (l[i]'(by rw [←h.1];exact hi)) (by rw [List.getElem?_eq_getElem hi,e]) (List.getElem?_eq_getElem _)
 rfl
def TradeAt(u:View)(x:Value)(r:Int×List Int×List MA×Int):Prop:=∃ad cd aq cq ys,x = .tuple (List.toArray [.agg (trC r.1 ad r.2.1.length cd aq r.2.2.1.length cq),intV r.2.2.2])∧RowAt u ad (r.2.1.map intV)∧RowAt u aq ys.flatten∧DlsAt u ys r.2.2.1
theorem TradeAt.none{u:View}{e:Int}:TradeAt u (.tuple (List.toArray [.agg trZ,intV e])) (0,[],[],e):=⟨Option.none,0,Option.none,0,[],Y,.inl Y,.inl Y,DlsAt.nil⟩
theorem putV_tr{P:Int}{ad aq:Option Addr}{nd cd n cq:Nat}:(putV trZ.toList 0 (Value.agg (trC P ad nd cd aq n cq)).cells.toList).toArray=trC P ad nd cd aq n cq:=rfl
def spT(P:Int)(d:List Int):Nat→Value→A0e→Prop
 | 2,y,β=>∃b c,y = .slice (some ⟨b,0,none⟩) 0 0∧β=[(b,c,3)]∧OwnS 3 1 [(b,c,3)] (some ⟨b,0,none⟩) 0 0 []
 | 5,y,β=>OwnI 3 1 y β d.length (d.map intV)
 | 6,y,β=>∃ad cd,y = .agg (trC P ad d.length cd none 0 0)∧OwnS 3 1 β ad d.length cd (d.map intV)
 | _,y,β=>∃b,y = .pointer (some ⟨b,0,none⟩)∧β=[(b,trZ,36)]
def preT:Nat→List Nat|5=>[2]|6=>[5]|_=>[]
def dstT(i:Nat):Nat:=bif Nat.beq i 7 then 9 else i+22
structure TrS where
 i:Nat
 sg:A0e
 a:Option Addr
 cap:Nat
 ys:List (List Value)
section
variable{mn:Who}{v:View}{P:Int}{aD aA:Option Addr}{cD cA:Nat}{d:List Int}{a:List MA}
theorem tradeF_x(hd:RowAt v aD (d.map intV))(hdl:d.length<2^30)(ha:ActsAt v aA a)(hal:a.length<2^30) :
  A6l prog mn 27 [moV P aD d.length cD,.slice aA a.length cA] (fun x u=>TradeAt u x (tradeR P d a)) v:=by
 refine A3k tab func27 Y nB (args:=[_,_]) ?_
 refine sw fun bx=>?_;refine sw fun bx=>?_
 rename_i b2
 obtain⟨b4,rfl⟩:∃x:Nat,x=bx:=⟨bx,rfl⟩
 refine Q_op fun ho=>A1p ho bod22 Y Y Y Y Y (holdF_x (cD:=cD) (cA:=cA) hd hdl ha hal) (fun x w hl hx=>?_)
 clear ho
 unfold holdR at hx
 unfold tradeR
 by_cases h:holdE P d a=0
 ·rw [if_neg (by simpa using h)]at hx⊢
  obtain⟨ar,kr,ad,kd,rfl,h2,h3⟩:=hx
  clear h3
  have hok:=holdE_ok.1 h
  have hal8:=hok.len
  have hP4:=hok.m.p
  replace ha:=ha.le hl
  replace hd:=hd.le hl
  have hrl:(B0g d a).length=a.length:=repsOf_len _ _
  refine su ?_
  refine A1d [2,5,6,7,8] [0,1,3,4,2,5,6,7,8] A1e Y kR ?_
  refine su ?_
  refine S_tree (Sp:=spT P d) (pre:=preT) [2,5,6,7] dstT dM dM (fun j hj=>?_) dM dM (fun j hj=>?_) (by repeat (first|exact trivial|(refine⟨?_,?_⟩;focus exact ib))) kR (fun j hj c hc u' hu'=>?_) (fun c hc hz=>?_)
  ·simp only [List.mem_cons,List.not_mem_nil,or_false]at hj
   rcases hj with rfl|rfl|rfl|rfl<;>rfl
  ·simp only [List.mem_cons,List.not_mem_nil,or_false]at hj
   rcases hj with rfl|rfl|rfl|rfl<;>exact⟨fun o ho=>by cases ho;rfl,rfl⟩
  ·simp only [List.mem_cons,List.not_mem_nil,or_false]at hj
   rcases hj with rfl|rfl|rfl|rfl
   ·exact A3w tab Y Y Y Y Y Y Y Y Y Y (fun b c hL=>⟨Y,_,_,⟨b,c,Y,Y,hL⟩,Y⟩)
   ·obtain⟨bE,cE,h1,h2',hE⟩:spT P d 2 (c 2).1 (c 2).2:=hc 2 dM
    simp only [show preT 5=[2]from Y,netR,netβ,h1,h2']
    refine A3x tab (xs:=d.map intV) [(bE,cE,3)] [] [(b4,trZ,36),(b2,(moV P aD d.length cD).cells,26)] Y Y Y Y Y Y Y Y Y Y Y cntA hE
     (fun _=>(hd.le hu').le (A0g _ _)) sM (by simp [List.all_eq_true,A2k]) oM oM (fun seg a'' cap' hS'=>⟨Y,_,seg,⟨a'',cap',by rw [Nat.zero_add],by rw [Nat.zero_add]at hS';exact hS'⟩,Y⟩)
   ·obtain⟨aE,kE,h1,hE⟩:spT P d 5 (c 5).1 (c 5).2:=hc 5 dM
    simp only [show preT 6=[5]from Y,netR,netβ,h1]
    exact A_mk tab Y Y Y Y ⟨Y,.agg (trC P aE d.length kE none 0 0),(c 5).2,⟨aE,kE,Y,hE⟩,Y⟩
   ·exact A8z tab Y Y Y Y (fun b=>⟨Y,_,_,⟨b,Y,Y⟩,Y⟩)
  obtain⟨a6,k6,e6,hS6⟩:spT P d 6 (c 6).1 (c 6).2:=hc 6 dM dM
  obtain⟨b9,e7,f7⟩:spT P d 7 (c 7).1 (c 7).2:=hc 7 dM dM
  have f2:(c 2).2=[]:=hz 2 dM dM
  have f5:(c 5).2=[]:=hz 5 dM dM
  simp only [netR,netβ,e6,e7,f7,f2,f5]
  generalize (c 6).2=sgA at hS6⊢
  clear hc hz e6 e7 f7 f2 f5
  refine su ?_
  rw [putV_tr]
  refine XC_retire (β1:=sgA) (β2:=[(b9,trC P a6 d.length k6 none 0 0,36),(b4,trZ,36),(b2,(moV P aD d.length cD).cells,26)]) cntA (fun hbk=>?_)
  have hd6:=RowAt.own hbk (by exact cntL) hS6
  have hlw:=A0g w (A0c sgA)
  replace hl:=hl.trans hlw
  replace ha:=ha.le hlw
  replace h2:=h2.le hlw
  clear hbk hd hlw
  generalize w.union (A0c sgA)=w1 at *
  clear hS6
  refine A1q (α:=TrS) (fun z=>⟨[],[(10,.int .i64 z.i),(9,.pointer (some ⟨b9,0,none⟩)),(1,.slice aA a.length cA),(6,.slice ar (B0g d a).length kr),(4,.pointer (some ⟨b4,0,none⟩))],z.sg++[(b9,trC P a6 d.length k6 z.a (B2x d (a.take z.i)).length z.cap,36),(b4,trZ,36)]⟩)
   (fun z u=>w1.Le u∧z.i≤a.length∧OwnS 43 3 z.sg z.a (B2x d (a.take z.i)).length z.cap z.ys.flatten∧DlsAt u z.ys (B2x d (a.take z.i))) (fun z=>a.length-z.i) ⟨0,[],none,0,[]⟩ ⟨Y,rg,show Subm [(b9,trC P a6 d.length k6 none 0 0,36),(b4,trZ,36)] [(b9,trC P a6 d.length k6 none 0 0,36),(b4,trZ,36),(b2,(moV P aD d.length cD).cells,26)]from cntL⟩ (Le.refl _) ⟨Le.refl _,Nat.zero_le _,.nil,DlsAt.nil⟩ ?_
  rintro⟨i,sg,aq,cap,ys⟩ u ⟨hwu,hi,hS,hY⟩
  simp only at hwu hi hS hY
  dsimp only
  refine su ?_
  refine A1i Y (fun h=>?_) (fun h=>?_)
  ·have hlt:i<a.length:=by have:=of_decide_eq_true h;omega
   rename_i hh0
   clear h
   have hri:i<(B0g d a).length:=by rw [hrl];exact hlt
   obtain⟨bb,off,p,c',e,f,rfl,hv,hc⟩:=(ha.le hwu).get hlt
   obtain⟨b1,o1,p1,c1,e1,f1,rfl,hv1,hc1⟩:=(h2.le hwu).get hri
   have hg:(B0g d a)[i]=B1q (A3z d (a.take i)) a[i]:=by
    have:=repsOf_get (os:=d) hlt
    rw [List.getElem?_eq_some_iff]at this
    exact this.2
   have hact:=hok.all _ (List.getElem_mem hlt)
   have hdl2:=A9w (a.take i) d
   have hrg:∀o∈A3z d (a.take i),0≤o∧o<P:=duskOf_in (P:=P) (N:=d.length) hok.m.all (fun x hx=>hok.all x (List.mem_of_mem_take hx))
   rw [←hdl2]at hact
   have hci:=hc i hlt
   have hci1:=hc1 i hri
   rw [hg]at hci1
   have hsn:B2x d (a.take (i+1))=B2x d (a.take i)++if sold (A3z d (a.take i)) a[i]then [a[i]]else []:=by
    rw [List.take_succ_eq_append_getElem hlt,B2y]
   have hdn:(B2x d (a.take i)).length≤8:=Nat.le_trans dealsT_len (by rw [List.length_take];omega)
   clear hg hc hc1
   generalize a[i]=y at hact hci hci1 hsn
   generalize A3z d (a.take i)=os at hact hci1 hsn hrg
   generalize B2x d (a.take i)=L at *
   refine su ?_
   refine A6d tab i Y Y Y Y Y Y Y hlt ?_
   refine su ?_
   refine A2b tab Y Y Y hv (A0l tab Y Y Y (show c'[off+i*4+0]?=some (intV y.k)from ext_at hci.2 hci.1 dM)) ?_
   refine su ?_
   by_cases hk:y.k=0
   ·have hk':(y.k==0)=true:=by simpa using hk
    rw [hk']
    refine su ?_
    refine A6d tab i Y Y Y Y Y Y Y hri ?_
    refine A2b tab Y Y Y hv1 (A0l tab Y Y Y (by rw [Nat.mul_one];exact hci1)) ?_
    refine su ?_
    have hrn:=reply_ok hP4.2 hrg hact hk
    by_cases hw:sold os y=true
    ·rw [if_pos hw]at hsn
     rw [hrn.2 hw,show(({data:=#[111,107] }:ByteArray).toList==({data:=#[111,107] }:ByteArray).toList)=true from beq_self_eq_true _]
     refine su ?_
     refine A1d [17,19,20,22] [0,1,2,3,4,5,6,7,8,9,10,11,12,13,14,15,16,17,18,19,20,21,22] A1e Y kR ?_
     refine su ?_
     refine A0s tab i Y Y Y kR Y Y Y Y Y hlt ?_
     refine su ?_
     refine A8v tab Y Y Y kR Y hv (A0l tab Y Y Y (show c'[off+i*4+1]?=some (intV y.a)from ext_at hci.2 hci.1 dM)) ?_
     refine su ?_
     refine A0s tab i Y Y Y kR Y Y Y Y Y hlt ?_
     refine su ?_
     refine A8v tab Y Y Y kR Y hv (A0l tab Y Y Y (show c'[off+i*4+2]?=some (intV y.b)from ext_at hci.2 hci.1 dM)) ?_
     refine su ?_
     refine A0s tab i Y Y Y kR Y Y Y Y Y hlt ?_
     refine su ?_
     refine A8v tab Y Y Y kR Y hv (A0l tab Y Y Y (show c'[off+i*4+3]?=some (intV y.h)from ext_at hci.2 hci.1 dM)) ?_
     refine su ?_
     refine S_do kR (A3w tab Y Y Y Y Y Y Y Y Y Y (fun bH cH hH=>⟨Le.refl _,kp,?_⟩))
     refine su ?_
     refine S_do kR (A3w tab Y Y Y Y Y Y Y Y Y Y (fun bN cN hN=>⟨Le.refl _,kp,?_⟩))
     refine su ?_
     refine S_do kR (A3x tab (xs:=[intV y.a,intV y.b,.slice (some ⟨bH,0,none⟩) 1 1]) sg [(bN,cN,43)] [(bH,cH,3),(b9,trC P a6 d.length k6 aq L.length cap,36),(b4,trZ,36)] Y Y Y Y Y Y Y Y Y Y Y cntA hS
      (fun hb=>RowAt.own hb cntL hN) Y Y (by show(2*(L.length+1)+768)*40≤2^48;omega) oM (fun sg2 a2 cap2 hS2=>⟨Le.refl _,kp,?_⟩))
     repeat (refine ss ?_)
     refine S_do kR (A2q tab Y Y Y Y Y Y Y ib (by exact Y) sb ⟨Le.refl _,kp,?_⟩)
     repeat (refine ss ?_)
     refine A5r (A4d ?_)
     show XC _ _ _ _ _ _ ⟨[],_,sg2++[(bH,cH,3),(b9,trC P a6 d.length k6 a2 (L.length+1) cap2,36),(b4,trZ,36)]⟩ u
     refine XC_retire (β1:=[(bH,cH,3)]) (β2:=sg2++[(b9,trC P a6 d.length k6 a2 (L.length+1) cap2,36),(b4,trZ,36)]) cntA (fun hbk=>?_)
     have hHr:=RowAt.own hbk (by exact cntL) hH
     refine su ?_
     have hln:(L++[y]).length=L.length+1:=by simp
     refine A0b ⟨⟨i+1,sg2,a2,cap2,ys++[[intV y.a,intV y.b,.slice (some ⟨bH,0,none⟩) 1 1]]⟩,_,by simp only;omega,⟨Y,rg,?_⟩,Le.refl _,hwu.trans (A0g _ _),hlt,?_,?_⟩
     ·simp only [hsn,hln];exact cntL
     ·simp only [hsn,hln,List.flatten_append,List.flatten_cons,List.flatten_nil,List.append_nil];exact hS2
     ·simp only [hsn];exact(hY.le (A0g _ _)).snoc ⟨_,_,Y,hHr⟩
    ·rw [if_neg hw,List.append_nil]at hsn
     rw [string_ne ({data:=#[111,107] }:ByteArray) (fun e=>hw (hrn.1 e))]
     refine su ?_
     refine A0b ⟨⟨i+1,sg,aq,cap,ys⟩,u,by simp only;omega,⟨Y,rg,?_⟩,Le.refl _,hwu,hlt,?_,?_⟩
     ·simp only [hsn];exact cntL
     ·simp only [hsn];exact hS
     ·simp only [hsn];exact hY
   ·have hk':(y.k==0)=false:=by simpa using hk
    rw [hk']
    have hns:¬sold os y=true:=by unfold sold;rw [hk'];simp
    rw [if_neg hns,List.append_nil]at hsn
    refine su ?_
    refine A0b ⟨⟨i+1,sg,aq,cap,ys⟩,u,by simp only;omega,⟨Y,rg,?_⟩,Le.refl _,hwu,hlt,?_,?_⟩
    ·simp only [hsn];exact cntL
    ·simp only [hsn];exact hS
    ·simp only [hsn];exact hY
  ·have hin:i=a.length:=by have:=of_decide_eq_false h;omega
   subst hin
   rw [List.take_length]at hS hY⊢
   refine su ?_
   by_cases h6:(B2x d a).length > 6
   ·rw [show decide (((B2x d a).length:Int) > 6)=true from decide_eq_true oM,if_pos h6]
    refine su ?_
    refine A2m tab (by exact .cell rfl ib rfl (.tmp rfl .nil)) (hl.trans hwu) fun hb2 hle=>?_
    exact TradeAt.none
   ·rw [show decide (((B2x d a).length:Int) > 6)=false from decide_eq_false oM,if_neg h6]
    refine su ?_
    refine A2m tab (by exact .cell rfl ib rfl (.tmp rfl .nil)) (hl.trans hwu) fun hb2 hle=>?_
    exact⟨a6,k6,aq,cap,ys,Y,hd6.le (hwu.trans hle),RowAt.own hb2 (by exact cntL) hS,hY.le hle⟩
 ·rw [if_pos h]at hx⊢
  obtain⟨ar,kr,ad,kd,rfl,h2,h3⟩:=hx
  refine su ?_
  rw [show(holdE P d a != 0)=true from by simpa using h]
  refine su ?_
  refine A2m tab (by exact .cell rfl ib rfl (.tmp rfl .nil)) hl fun hb2 hle=>?_
  exact TradeAt.none
end
end Go.Proofs.YtclejblcnfaeaaaGreatDoor
end
section
namespace Go.Pal
open Go Go.Conc View
section
variable{P:Program}{mn:Who}(T:Tab P){rd:Option Nat}{n:Nat}{Q:Exit→St→View→Prop}{ds:List Deferred}{ρ:Regs}{β:A0e}{v:View}{K:St→View→Prop}
 {ops:Array Oper}{i:Nat}{d:Nat}{ty:TypeId}{pos:String}{af:Array Edge}{gu:Option (Nat×Bool)}
abbrev ExtTo(ds:List Deferred)(d:Nat)(ρ:Regs)(K:St→View→Prop)(y:Value)(w:View):Prop:=∃β' u,(Bok β' u∧(u.union (A0c β')).Le w)∧K ⟨ds,(d,y)::ρ,β'⟩ u
theorem A_extM{f:FuncId}{fn:Func}{aS:Array Operand}{ats:Array TypeId}{e:Array Value→Sem Value}{xs:List Value}(ho:ops[i]?=some ⟨some d,.call {callee:=.value (.func f),args:=aS,argTypes:=ats },ty,pos,af,gu⟩)(hw:A0p ops gu ρ=some true)(hn:Nat.blt d n=true)
  (E:Ext P f fn e)(hxs:A2s ρ.val aS.toList=some xs)(hp:Bok β v→∀E':Value→View→Prop,SemX P (e xs.toArray) (ExtTo ds d ρ K) E' (v.union (A0c β))):XOp P mn rd n ops i Q K ⟨ds,ρ,β⟩ v:=by
 refine A1w ho (A0j hw) (.inr Y) hn fun ev hev hbk=>?_
 have ha:aS.map ev=xs.toArray:=Array.toList_inj.1 (by simpa using A2c hev hxs)
 have hf:ev (.func f) = .func (.func f) #[] #[]:=hev _ _ Y
 unfold execOp
 simp only [resolve,Deferred.ofValue,hf,ha,A0a,A0h,invoke]
 unfold callFunc
 have hn2:(fn.name == "runtime.NumGoroutine")=false:=E.hname
 simp only [A0a,A1s,E.hf,hn2,E.hb,Bool.false_eq_true,if_false,if_true]
 refine⟨?_,?_⟩
 ·trivial
 ·simp only [E.hn,A0a,E.he]
  have e0:(#[]:Array Value)++xs.toArray++#[]=xs.toArray:=by simp
  first
   | exact hp hbk _
   | (rw [e0];exact hp hbk _)
theorem A_extI{recv:Operand}{name:String}{f:FuncId}{fn:Func}{aS:Array Operand}{ats:Array TypeId}{e:Array Value→Sem Value}{t:TypeId}{x z y:Value}{xs:List Value}(ho:ops[i]?=some ⟨some d,.call {callee:=.invoke recv name,args:=aS,argTypes:=ats },ty,pos,af,gu⟩)(hw:A0p ops gu ρ=some true)(hn:Nat.blt d n=true)
  (E:Ext P f fn e)(hx:ρ.val recv=some (.iface t x))(hxs:A2s ρ.val aS.toList=some xs)
  (hm:∀(KK:FuncId×Value→View→Prop) (E':Value→View→Prop) (w:View),SemX P (method (P.types.size+Made.depth) t x name) KK E' w=KK (f,z) w)
  (hp:∀(K:Value→View→Prop) (E:Value→View→Prop) (w:View),SemX P (e (z::xs).toArray) K E w=K y w)(h:K ⟨ds,(d,y)::ρ,β⟩ v):XOp P mn rd n ops i Q K ⟨ds,ρ,β⟩ v:=by
 refine A1w ho (A0j hw) (.inr Y) hn fun ev hev hbk=>?_
 have ha:aS.map ev=xs.toArray:=Array.toList_inj.1 (by simpa using A2c hev hxs)
 unfold execOp
 simp only [resolve,hev _ _ hx,ha,A0a,A0h,invoke]
 have h0:(#[.iface t x]++xs.toArray:Array Value)[0]?=some (.iface t x):=by simp
 have h1:(#[.iface t x]++xs.toArray:Array Value).extract 1 (#[.iface t x]++xs.toArray:Array Value).size=xs.toArray:=by
  apply Array.ext'
  simp
 simp only [h0,h1,callMethod,A0a,A1s]
 rw [hm]
 have h2:(#[z]++xs.toArray:Array Value)=(z::xs).toArray:=by apply Array.ext';simp
 simp only [h2]
 unfold callFunc
 have hn2:(fn.name == "runtime.NumGoroutine")=false:=E.hname
 simp only [A0a,A1s,E.hf,hn2,E.hb,Bool.false_eq_true,if_false,if_true]
 refine⟨?_,?_⟩
 ·trivial
 ·simp only [E.hn,A0a,E.he]
  exact(hp _ _ _).mpr ⟨β,v,⟨hbk,Le.refl _⟩,h⟩
theorem A_eqlNil{t t2:TypeId}{y:Operand}{x:Value}{ms:Array (String×TypeId)}{r:Bool}(ho:ops[i]?=some ⟨some d,.binOp .eql t y (.const .nilIface) t2,ty,pos,af,gu⟩)(hw:A0p ops gu ρ=some true)(hn:Nat.blt d n=true)(hy:ρ.val y=some x)(ht:T.und t=some (.interface ms))
  (hx:(r=true∧x = .nilIface)∨(r=false∧∃tx vx,x = .iface tx vx))(h:K ⟨ds,(d,.bool r)::ρ,β⟩ v):XOp P mn rd n ops i Q K ⟨ds,ρ,β⟩ v:=by
 refine A1w ho (A0j hw) (.inr Y) hn fun ev hev hbk=>?_
 have hc:ev (.const .nilIface) = .nilIface:=hev _ _ Y
 rcases hx with ⟨rfl,rfl⟩|⟨rfl,tx,vx,rfl⟩
 ·simp only [execOp,A0a,hev _ _ hy,hc,eqGuard,binOp,Op.equal]
  simp only [Bool.or_true,if_true,A0h,A0a]
  unfold Op.equalIn
  simp only [Op.maxDepth,A0a,A1k T ht,A0h]
  exact⟨β,v,⟨hbk,Le.refl _⟩,h⟩
 ·simp only [execOp,A0a,hev _ _ hy,hc,eqGuard,binOp,Op.equal]
  simp only [Bool.false_eq_true,if_false,A0h,A0a]
  unfold Op.equalIn
  simp only [Op.maxDepth,A0a,A1k T ht,A0h]
  exact⟨β,v,⟨hbk,Le.refl _⟩,h⟩
omit T in
theorem box_put{b:Nat}{c c':Array Value}{t:TypeId}{β':A0e}(hbk:Bok β v)(hin:InB b c t β)(hset:SetB b c' β β'):Bok β' v∧(v.union (A0c β')).Le ((v.union (A0c β)).set b true (.cells c' t (0,0))):=by
 obtain⟨hbk',c₀,t₀,hin',hv⟩:=A8g hbk hset
 have hcc:c₀=c∧t₀=t:=by
  have h1:=A0q (v:=v) hbk hin'
  have h2:=A0q (v:=v) hbk hin
  rw [h1]at h2
  simp only [Option.some.injEq,Prod.mk.injEq,Obj.cells.injEq]at h2
  exact⟨h2.2.1,h2.2.2.1⟩
 obtain⟨rfl,rfl⟩:=hcc
 refine⟨hbk',?_⟩
 rw [hv]
 exact Le.refl _
end
end Go.Pal
end
