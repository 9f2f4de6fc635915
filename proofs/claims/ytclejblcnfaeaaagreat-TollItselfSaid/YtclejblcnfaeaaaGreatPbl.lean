/- Part 38. -/
import Derived.Test.YtclejblcnfaeaaaGreatPbk
set_option linter.all false
section
namespace Go.Proofs.YtclejblcnfaeaaaGreat
open Go Go.Pal Go.Pal.To Go.Conc View
open Go.Proofs.Tryz
set_option maxHeartbeats 4000000
set_option maxRecDepth 20000
noncomputable def rdSc:Code:=match f54.body with|some (.seq _ (.scope c))=>c|_=>.skip
noncomputable def rdBody:Code:=match rdSc with | .seq _ (.seq _ (.seq _ c))=>c|_=>.skip
def RdAt(s:ByteArray)(r:Value)(β':A0g):Prop:=∃a' cap,r = .tuple (List.toArray [.slice a' (readL s.data.toList).1.length cap,intV (readL s.data.toList).2])∧OwnS 26 4 β' a' (readL s.data.toList).1.length cap ((readL s.data.toList).1.map MA.cells).flatten
section
variable{mn:Who}{v:View}{s:ByteArray}
theorem rdLoop_x{Stop:View→Goroutine→Prop}{bb:Frame}{k:List Item}{fs:List Frame}(hbk:bb.kind≠.early)(hbr:bb.roundOf=none)
  (hret:∀{ds':List Deferred} {ρ':Regs} {β':A0g} {v':View} (its:List Item),FnB tab f54 (RetB (RdAt s)) v .ret ⟨ds',ρ',β'⟩ v'→Bok β' v'→XG (Run prog mn Stop (v'.union (A0c β'))) f54.ntmps bb (.code .ret::its) fs ds' ρ') :
  ∀ (m:Nat) (t:ByteArray) (many:Nat) (out:List MA) (sg:A0g) (a':Option Addr) (cap:Nat),t.size=m→t.size<2^40→many+t.size<2^41→Bok sg v→OwnS 26 4 sg a' out.length cap (out.map MA.cells).flatten→out.length=min many 8→readL s.data.toList=B2b many out (A3v [] t.data.toList)→
   XG (Run prog mn Stop (v.union (A0c sg))) f54.ntmps bb (.code rdBody::.inScope rdSc::k) fs [] [(0,.string t),(4,.slice a' out.length cap),(5,natV many)]:=by
 intro m
 induction m using Nat.strongRecOn with
 | ind m ih=>
 intro t many out sg a' cap hm ht hmt hB hS hol hr
 refine A4a ?_
 refine A4a ?_
 refine R_co hbk hB ?_
 repeat (first|refine st ?_|refine qb fun bx=>?_)
 refine A1m fun hB1=>?_
 clear hB1
 cases hq:(t.toList==({data:=#[] }:ByteArray).toList)with
 | true=>
  have he:t.data.toList=[]:=by
   have h1:=eq_of_beq hq
   rw [ByteArray.toList_eq,ByteArray.toList_eq]at h1
   exact h1
  rw [he,readR_end]at hr
  refine A9j Y ?_
  refine A4a ?_
  refine A4a ?_
  refine R_co hbk hB ?_
  repeat (first|refine st ?_|refine qb fun bx=>?_)
  refine A1m fun hB1=>?_
  clear hB1
  by_cases h8:many > 8
  ·rw [if_pos h8]at hr
   rw [show decide ((many:Int) > 8)=true from decide_eq_true oM]
   refine A9j Y ?_
   refine A4a ?_
   refine R_co hbk hB ?_
   repeat (first|refine st ?_|refine qb fun bx=>?_)
   refine A1m fun hB1=>?_
   refine hret _ (A0f tab [] (by exact .tmp rfl (.tmp rfl .nil)) (Back.here fun p=>Nat.zero_le _) ⟨none,0,?_,?_⟩) hB1
   ·rw [hr];rfl
   ·rw [hr];exact .nil
  ·rw [if_neg h8]at hr
   rw [show decide ((many:Int) > 8)=false from decide_eq_false oM]
   refine B1l Y ?_
   refine B4g ?_
   refine A4a ?_
   refine R_co hbk hB ?_
   repeat (first|refine st ?_|refine qb fun bx=>?_)
   refine A1m fun hB1=>?_
   refine hret _ (A0f tab sg (by exact .tmp rfl (.tmp rfl .nil)) (Back.here fun p=>Nat.le_refl _) ⟨a',cap,?_,?_⟩) hB1
   ·rw [hr];rfl
   ·rw [hr];exact hS
 | false=>
  have hne:t.data.toList≠[]:=fun e=>by
   rw [ByteArray.toList_eq,ByteArray.toList_eq,e]at hq
   cases hq
  refine B1l Y ?_
  refine B4g ?_
  refine A4a ?_
  refine R_co hbk hB ?_
  repeat (first|refine st ?_|refine qb fun bx=>?_)
  cases hc:cutL t.data.toList with
  | none=>
   rw [readR_none hne hc]at hr
   have hcx:∀{u:View},Ret1 prog mn 109 [.string t,.string ⟨#[10]⟩] (.tuple (List.toArray [.string t,.string ⟨#[]⟩,.bool false])) u:=fun {u}=>by
    have h1:=cut_x (mn:=mn) (v:=u) ht
    unfold cuV cutN at h1
    rw [hc]at h1
    exact h1
   refine Q_op fun ho=>A0y ho bod109 Y Y Y Y Y hcx ?_
   clear ho
   repeat (first|refine st ?_|refine qb fun bx=>?_)
   refine A1m fun hB1=>?_
   refine A4a ?_
   refine R_co hbk hB1 ?_
   repeat (first|refine st ?_|refine qb fun bx=>?_)
   refine Q_op fun ho=>A0y ho bod27 Y Y Y Y Y (parse_x (s:=t)) ?_
   clear ho
   repeat (first|refine st ?_|refine qb fun bx=>?_)
   refine A1m fun hB2=>?_
   refine A4a ?_
   refine A4a ?_
   refine R_co hbk hB2 ?_
   repeat (first|refine st ?_|refine qb fun bx=>?_)
   refine A1m fun hB3=>?_
   refine A9j Y ?_
   refine A4a ?_
   refine R_co hbk hB3 ?_
   repeat (first|refine st ?_|refine qb fun bx=>?_)
   refine A1m fun hB4=>?_
   refine hret _ (A0f tab [] (by exact .tmp rfl (.tmp rfl .nil)) (Back.here fun p=>Nat.zero_le _) ⟨none,0,?_,?_⟩) hB4
   ·rw [hr];rfl
   ·rw [hr];exact .nil
  | some p=>
   obtain⟨al,rl⟩:=p
   have hlen:=congrArg List.length (cutL_len hc)
   simp only [List.length_append,List.length_cons]at hlen
   have hts:t.data.toList.length=t.size:=by simp
   have hcx:∀{u:View},Ret1 prog mn 109 [.string t,.string ⟨#[10]⟩] (.tuple (List.toArray [.string ⟨al.toArray⟩,.string ⟨rl.toArray⟩,.bool true])) u:=fun {u}=>by
    have h1:=cut_x (mn:=mn) (v:=u) ht
    unfold cuV cutN at h1
    rw [hc]at h1
    exact h1
   have hpx:∀{u:View},Ret1 prog mn 27 [.string ⟨al.toArray⟩] (.tuple (List.toArray [(A5r al).1.val,intV (A5r al).2])) u:=fun {u}=>by
    have h1:=parse_x (mn:=mn) (v:=u) (s:=⟨al.toArray⟩)
    unfold paV at h1
    simp only [List.toList_toArray]at h1
    exact h1
   obtain⟨y0,hy0⟩:∃y,y=(A5r al).1:=⟨_,rfl⟩
   obtain⟨e0,he0⟩:∃y,y=(A5r al).2:=⟨_,rfl⟩
   rw [←hy0,←he0]at hpx
   have hrs:(⟨rl.toArray⟩:ByteArray).size=rl.length:=by simp [ByteArray.size]
   refine Q_op fun ho=>A0y ho bod109 Y Y Y Y Y hcx ?_
   clear ho
   repeat (first|refine st ?_|refine qb fun bx=>?_)
   refine A1m fun hB1=>?_
   refine A4a ?_
   refine R_co hbk hB1 ?_
   repeat (first|refine st ?_|refine qb fun bx=>?_)
   refine Q_op fun ho=>A0y ho bod27 Y Y Y Y Y hpx ?_
   clear ho
   repeat (first|refine st ?_|refine qb fun bx=>?_)
   refine A1m fun hB2=>?_
   refine A4a ?_
   refine A4a ?_
   refine R_co hbk hB2 ?_
   repeat (first|refine st ?_|refine qb fun bx=>?_)
   refine A1m fun hB3=>?_
   by_cases hp:e0=0
   ·subst hp
    rw [readR_more hc he0.symm hol,←hy0]at hr
    refine B1l Y ?_
    refine B4g ?_
    refine A4a ?_
    refine A4a ?_
    refine R_co hbk hB3 ?_
    repeat (first|refine st ?_|refine qb fun bx=>?_)
    refine A1m fun hB4=>?_
    have hgo:∀{ρ:Regs} {β' sg':A0g} {a'':Option Addr} {cap':Nat} {out':List MA},ρ.get 5=some (natV many)→ρ.get 7=some (.string ⟨rl.toArray⟩)→ρ.get 4=some (.slice a'' out'.length cap')→Bok β' v→Subm sg' β'→OwnS 26 4 sg' a'' out'.length cap' (out'.map MA.cells).flatten→out'.length=min (many+1) 8→readL s.data.toList=B2b (many+1) out' (A3v [] rl)→
      XG (Run prog mn Stop (v.union (A0c β'))) f54.ntmps bb (.code (match rdBody with | .seq _ (.seq _ (.seq _ (.seq _ (.seq _ c))))=>c|_=>.skip)::.inScope rdSc::k) fs [] ρ:=by
     intro ρ β' sg' a'' cap' out' g5 g7 g4 hB' hsub hS' hol' hr'
     obtain⟨hB'',_⟩:=A6h hsub hB'
     refine fun ac hf=>Abs.drop hsub hB' ?_
     refine(?_:XG (Run prog mn Stop (v.union (A0c sg'))) f54.ntmps bb _ fs [] [(5,natV many),(7,.string ⟨rl.toArray⟩),(4,.slice a'' out'.length cap')]) ac ⟨hf.size,hf.defers,fun t x hx=>hf.get t x (Mu.rin_get (by exact⟨g5,g7,g4,trivial⟩) t x hx)⟩
     refine A4a ?_
     refine R_co hbk hB'' ?_
     repeat (first|refine st ?_|refine qb fun bx=>?_)
     refine A1m fun _=>?_
     refine A4a ?_
     refine R_co hbk hB'' ?_
     repeat (first|refine st ?_|refine qb fun bx=>?_)
     refine A1m fun _=>?_
     refine F_goto Y ?_
     refine A4a ?_
     refine B4g ?_
     refine Mu.F_in _ (ih _ (by rw [hrs];omega) ⟨rl.toArray⟩ (many+1) out' sg' a'' cap' Y (by rw [hrs];omega) (by rw [hrs];omega) hB'' hS' hol' (by simpa using hr')) rg
    by_cases h8:many<8
    ·rw [if_pos h8]at hr
     rw [show decide ((many:Int)<8)=true from decide_eq_true oM]
     refine A9j Y ?_
     refine R_co hbk hB4 ?_
     repeat (first|refine st ?_|refine qb fun bx=>?_)
     refine Q_op fun ho=>A4b tab ho Y Y Y Y Y Y Y Y Y (fun b3 c3 hL=>?_)
     clear ho
     refine Q_op fun ho=>A3u tab (xs:=y0.cells) sg [(b3,c3,26)] [(bx,y0.cells.toArray,26)] ho Y Y Y Y Y Y Y Y Y Y (show ∀p,Pal.cnt p ((b3,c3,26)::(bx,y0.cells.toArray,26)::sg)=Pal.cnt p (sg++([(b3,c3,26)]++[(bx,y0.cells.toArray,26)]))from cntA) hS
      (fun hb=>RowAt.own hb cntL hL) Y Y (by show(2*(out.length+1)+768)*32≤2^48;omega) oM (fun sg' a'' cap' hS'=>?_)
     clear ho
     repeat (first|refine st ?_|refine qb fun bx=>?_)
     refine A1m fun hB5=>?_
     have hB5:Bok (sg'++[(bx,y0.cells.toArray,26)]) v:=hB5
     refine hgo (sg':=sg') (out':=out++[y0]) (a'':=a'') (cap':=cap') Y Y (by rw [List.length_append];rfl) hB5 (show Subm sg' (sg'++[(bx,y0.cells.toArray,26)])from cntL) ?_ (by rw [List.length_append,hol,List.length_singleton];omega) hr
     rw [List.length_append,List.map_append,List.flatten_append]
     simpa using hS'
    ·rw [if_neg h8]at hr
     rw [show decide ((many:Int)<8)=false from decide_eq_false oM]
     refine B1l Y ?_
     refine B4g ?_
     have hB5:Bok ((bx,y0.cells.toArray,26)::sg) v:=hB4
     exact hgo (sg':=sg) (out':=out) (a'':=a') (cap':=cap) Y Y Y hB5 (show Subm sg ((bx,y0.cells.toArray,26)::sg)from cntL) hS (by rw [hol];omega) hr
   ·rw [readR_bad hc (by rw [←he0];exact hp)]at hr
    rw [show(e0 != 0)=true from by simpa using hp]
    refine A9j Y ?_
    refine A4a ?_
    refine R_co hbk hB3 ?_
    repeat (first|refine st ?_|refine qb fun bx=>?_)
    refine A1m fun hB4=>?_
    refine hret _ (A0f tab [] (by exact .tmp rfl (.tmp rfl .nil)) (Back.here fun p=>Nat.zero_le _) ⟨none,0,?_,?_⟩) hB4
    ·rw [hr];rfl
    ·rw [hr];exact .nil
end
theorem read_x{mn:Who}{v:View}{s:ByteArray}(hs:s.size<2^40):CallsB prog mn 54 #[.string s] (RetB (RdAt s)) [] v:=by
 refine A0d tab func54 Y nB (args:=[_]) ?_
 refine A2z ?_
 refine A8x ?_
 refine B4e tab Y Y Y ?_
 refine B4e tab Y Y Y ?_
 refine Q_nil ?_
 refine A4s ?_
 refine XC_runA fun Stop bb k fs hbk hbr hret hnor=>?_
 refine F_scope ?_
 refine A4a ?_
 refine R_co hbk (A4o _) ?_
 repeat (first|refine st ?_|refine qb fun bx=>?_)
 refine A1m fun _=>?_
 refine A4a ?_
 refine R_co hbk (A4o _) ?_
 repeat (first|refine st ?_|refine qb fun bx=>?_)
 refine A1m fun _=>?_
 refine A4a ?_
 refine F_label ?_
 exact Mu.F_in _ (rdLoop_x hbk hbr hret _ s 0 [] [] none 0 Y hs oM (A4o _) .nil Y Y) rg
theorem A8r{α:Type}[DecidableEq α]{a b:List α}{i:Nat}(h:a.take i=b.take i)(hi:¬(i<a.length∧i<b.length)):(decide (a=b))=((a.length:Int)==(b.length:Int)):=by
 by_cases e:a.length=b.length
 ·have h1:a.length≤i:=oM
  rw [List.take_of_length_le h1,List.take_of_length_le oM]at h
  rw [h];simp
 ·rw [decide_eq_false (fun e'=>e (by rw [e'])),eq_comm,beq_eq_false_iff_ne]
  omega
theorem same_no{α:Type}{a b:List α}{i:Nat}(h1:i<a.length)(h2:i<b.length)(h:a[i]≠b[i]):a≠b:=fun e=>by
 subst e;exact h rfl
theorem same_go{α:Type}{a b:List α}{i:Nat}(h:a.take i=b.take i)(h1:i<a.length)(h2:i<b.length)(he:a[i]=b[i]):a.take (i+1)=b.take (i+1):=by
 rw [List.take_succ_eq_append_getElem h1,List.take_succ_eq_append_getElem h2,h,he]
section
variable{mn:Who}{rd:Option Nat}{n:Nat}{Q:Exit→St→View→Prop}{ds:List Deferred}{ρ:Regs}{β:A0g}{v:View}
 {ops:Array Oper}{l:List Oper}{d:Nat}{ty:TypeId}{pos:String}{af:Array Edge}{gu:Option (Nat×Bool)}
theorem sx_neqlA{ev:Operand→Value}{y z:Operand}{t2:TypeId}{a b:MA}(hy:ev y=a.val)(hz:ev z=b.val){K:Next→View→Prop}{E:Value→View→Prop}{w:View}(h:K (.value (.bool (!decide (a=b)))) w):SemX prog (execOp ev ⟨some d,.binOp .neq 26 y z t2,ty,pos,af,gu⟩) K E w:=by
 have hg:prog.eqGuardType prog.depth 26=false:=by kernel_rfl
 simp only [execOp,A0b,hy,hz,eqGuard,binOp,A2b,hg]
 simp only [Bool.not_true,Bool.false_eq_true,if_false,A0b]
 rw [A2b,A2b,hg]
 simp only [Bool.not_true,Bool.not_false,Bool.false_eq_true,if_false,if_true,A0i,A0b]
 obtain⟨k,a,b',x⟩:=a
 obtain⟨k',a',b'',x'⟩:=b
 refine act_eq ?_
 rw [show decide (k=k'∧a=a'∧b'=b''∧x=x')=decide ((⟨k,a,b',x⟩:MA)=⟨k',a',b'',x'⟩)from by simp]
 exact h
theorem L_neqlA{y z:Operand}{t2:TypeId}{a b:MA}(hw:A0v ops gu ρ=some true)(hn:Nat.blt d n=true)(hy:ρ.val y=some a.val)(hz:ρ.val z=some b.val)
  (h:XL prog mn n ops Q l ⟨ds,(d,.bool (!decide (a=b)))::ρ,β⟩ v):XL prog mn n ops Q (⟨some d,.binOp .neq 26 y z t2,ty,pos,af,gu⟩::l) ⟨ds,ρ,β⟩ v:=
 A4t (o:=⟨some d,.binOp .neq 26 y z t2,ty,pos,af,gu⟩) (A0m hw) hn (fun _ hev _ _ _=>sx_neqlA (hev _ _ hy) (hev _ _ hz) ⟨Le.refl _,rfl⟩) h
end
section
variable{mn:Who}{v:View}{aA aB:Option Addr}{cA cB:Nat}
theorem B0x{xs ys:List Int}(ha:RowAt v aA (xs.map intV))(hb:RowAt v aB (ys.map intV))(hl:xs.length<2^62)(hl2:ys.length<2^62):Ret1 prog mn 39 [.slice aA xs.length cA,.slice aB ys.length cB] (.bool (decide (xs=ys))) v:=by
 refine A0d tab func39 Y nB (args:=[_,_]) ?_
 repeat (first|refine st ?_|refine qb fun bx=>?_)
 refine A1l (α:=Nat) (fun i=>⟨[],[(5,.int .i64 i),(0,.slice aA xs.length cA),(1,.slice aB ys.length cB)],[]⟩)
  (fun i w=>w=v∧i≤xs.length∧xs.take i=ys.take i) (fun i=>xs.length-i) 0 ⟨Y,rg,cntL⟩ (Le.refl _) ⟨Y,Nat.zero_le _,Y⟩ ?_
 rintro i w ⟨rfl,hi,ht⟩
 repeat (first|refine st ?_|refine qb fun bx=>?_)
 by_cases h1:i<xs.length
 ·rw [show decide ((i:Int)<(xs.length:Int))=true from decide_eq_true oM]
  repeat (first|refine st ?_|refine qb fun bx=>?_)
  by_cases h2:i<ys.length
  ·rw [show decide ((i:Int)<(ys.length:Int))=true from decide_eq_true oM]
   obtain⟨b1,off1,p1,c1,e1,f1,rfl,hv1,hc1⟩:=ha.get h1
   obtain⟨b2,off2,p2,c2,e2,f2,rfl,hv2,hc2⟩:=hb.get h2
   repeat (first|refine st ?_|refine qb fun bx=>?_)
   refine A1a tab i Y Y Y Y Y Y Y h1 ?_
   refine A5c tab Y Y Y hv1 (A0n tab Y Y Y (by rw [Nat.mul_one];exact hc1 _ h1)) ?_
   repeat (first|refine st ?_|refine qb fun bx=>?_)
   refine A1a tab i Y Y Y Y Y Y Y h2 ?_
   refine A5c tab Y Y Y hv2 (A0n tab Y Y Y (by rw [Nat.mul_one];exact hc2 _ h2)) ?_
   repeat (first|refine st ?_|refine qb fun bx=>?_)
   by_cases he:xs[i]=ys[i]
   ·rw [show(xs[i] != ys[i])=false from by simpa using he]
    repeat (first|refine st ?_|refine qb fun bx=>?_)
    exact A0a ⟨i+1,w,oM,⟨Y,rg,cntL⟩,Le.refl _,Y,h1,same_go ht h1 h2 he⟩
   ·rw [show(xs[i] != ys[i])=true from by simpa using he]
    repeat (first|refine st ?_|refine qb fun bx=>?_)
    refine A0f tab [] (by exact .tmp rfl .nil) (Back.here cntL) ?_
    exact⟨by rw [decide_eq_false (same_no h1 h2 he)];rfl,Y⟩
  ·rw [show decide ((i:Int)<(ys.length:Int))=false from decide_eq_false oM]
   repeat (first|refine st ?_|refine qb fun bx=>?_)
   refine A0f tab [] (by exact .tmp rfl .nil) (Back.here cntL) ?_
   exact⟨by rw [A8r ht oM];rfl,Y⟩
 ·rw [show decide ((i:Int)<(xs.length:Int))=false from decide_eq_false oM]
  repeat (first|refine st ?_|refine qb fun bx=>?_)
  refine A0f tab [] (by exact .tmp rfl .nil) (Back.here cntL) ?_
  exact⟨by rw [A8r ht oM];rfl,Y⟩
theorem A6x{xs ys:List MA}(ha:ActsAt v aA xs)(hb:ActsAt v aB ys)(hl:xs.length<2^62)(hl2:ys.length<2^62):Ret1 prog mn 38 [.slice aA xs.length cA,.slice aB ys.length cB] (.bool (decide (xs=ys))) v:=by
 refine A0d tab func38 Y nB (args:=[_,_]) ?_
 repeat (first|refine st ?_|refine qb fun bx=>?_)
 refine A1l (α:=Nat) (fun i=>⟨[],[(5,.int .i64 i),(0,.slice aA xs.length cA),(1,.slice aB ys.length cB)],[]⟩)
  (fun i w=>w=v∧i≤xs.length∧xs.take i=ys.take i) (fun i=>xs.length-i) 0 ⟨Y,rg,cntL⟩ (Le.refl _) ⟨Y,Nat.zero_le _,Y⟩ ?_
 rintro i w ⟨rfl,hi,ht⟩
 repeat (first|refine st ?_|refine qb fun bx=>?_)
 by_cases h1:i<xs.length
 ·rw [show decide ((i:Int)<(xs.length:Int))=true from decide_eq_true oM]
  repeat (first|refine st ?_|refine qb fun bx=>?_)
  by_cases h2:i<ys.length
  ·rw [show decide ((i:Int)<(ys.length:Int))=true from decide_eq_true oM]
   obtain⟨b1,off1,p1,c1,e1,f1,rfl,hv1,hc1⟩:=ha.get h1
   obtain⟨b2,off2,p2,c2,e2,f2,rfl,hv2,hc2⟩:=hb.get h2
   repeat (first|refine st ?_|refine qb fun bx=>?_)
   refine A1a tab i Y Y Y Y Y Y Y h1 ?_
   refine A5c tab Y Y Y hv1 (A1r tab Y Y Y (hc1 _ h1)) ?_
   repeat (first|refine st ?_|refine qb fun bx=>?_)
   refine A1a tab i Y Y Y Y Y Y Y h2 ?_
   refine A5c tab Y Y Y hv2 (A1r tab Y Y Y (hc2 _ h2)) ?_
   refine L_neqlA (a:=xs[i]) (b:=ys[i]) Y Y Y Y ?_
   by_cases he:xs[i]=ys[i]
   ·rw [show decide (xs[i]=ys[i])=true from decide_eq_true he]
    repeat (first|refine st ?_|refine qb fun bx=>?_)
    exact A0a ⟨i+1,w,oM,⟨Y,rg,cntL⟩,Le.refl _,Y,h1,same_go ht h1 h2 he⟩
   ·rw [show decide (xs[i]=ys[i])=false from decide_eq_false he]
    repeat (first|refine st ?_|refine qb fun bx=>?_)
    refine A0f tab [] (by exact .tmp rfl .nil) (Back.here cntL) ?_
    exact⟨by rw [decide_eq_false (same_no h1 h2 he)];rfl,Y⟩
  ·rw [show decide ((i:Int)<(ys.length:Int))=false from decide_eq_false oM]
   repeat (first|refine st ?_|refine qb fun bx=>?_)
   refine A0f tab [] (by exact .tmp rfl .nil) (Back.here cntL) ?_
   exact⟨by rw [A8r ht oM];rfl,Y⟩
 ·rw [show decide ((i:Int)<(xs.length:Int))=false from decide_eq_false oM]
  repeat (first|refine st ?_|refine qb fun bx=>?_)
  refine A0f tab [] (by exact .tmp rfl .nil) (Back.here cntL) ?_
  exact⟨by rw [A8r ht oM];rfl,Y⟩
theorem sameWords_x{xs ys:List ByteArray}(ha:RowAt v aA (xs.map .string))(hb:RowAt v aB (ys.map .string))(hl:xs.length<2^62)(hl2:ys.length<2^62):Ret1 prog mn 76 [.slice aA xs.length cA,.slice aB ys.length cB] (.bool (decide (xs=ys))) v:=by
 refine A0d tab func76 Y nB (args:=[_,_]) ?_
 repeat (first|refine st ?_|refine qb fun bx=>?_)
 refine A1l (α:=Nat) (fun i=>⟨[],[(5,.int .i64 i),(0,.slice aA xs.length cA),(1,.slice aB ys.length cB)],[]⟩)
  (fun i w=>w=v∧i≤xs.length∧xs.take i=ys.take i) (fun i=>xs.length-i) 0 ⟨Y,rg,cntL⟩ (Le.refl _) ⟨Y,Nat.zero_le _,Y⟩ ?_
 rintro i w ⟨rfl,hi,ht⟩
 repeat (first|refine st ?_|refine qb fun bx=>?_)
 by_cases h1:i<xs.length
 ·rw [show decide ((i:Int)<(xs.length:Int))=true from decide_eq_true oM]
  repeat (first|refine st ?_|refine qb fun bx=>?_)
  by_cases h2:i<ys.length
  ·rw [show decide ((i:Int)<(ys.length:Int))=true from decide_eq_true oM]
   obtain⟨b1,off1,p1,c1,e1,f1,rfl,hv1,hc1⟩:=ha.get h1
   obtain⟨b2,off2,p2,c2,e2,f2,rfl,hv2,hc2⟩:=hb.get h2
   repeat (first|refine st ?_|refine qb fun bx=>?_)
   refine A1a tab i Y Y Y Y Y Y Y h1 ?_
   refine A5c tab Y Y Y hv1 (A0n tab Y Y Y (by rw [Nat.mul_one];exact hc1 _ h1)) ?_
   repeat (first|refine st ?_|refine qb fun bx=>?_)
   refine A1a tab i Y Y Y Y Y Y Y h2 ?_
   refine A5c tab Y Y Y hv2 (A0n tab Y Y Y (by rw [Nat.mul_one];exact hc2 _ h2)) ?_
   repeat (first|refine st ?_|refine qb fun bx=>?_)
   by_cases he:xs[i]=ys[i]
   ·rw [show(xs[i].toList==ys[i].toList)=true from by rw [he];simp]
    repeat (first|refine st ?_|refine qb fun bx=>?_)
    exact A0a ⟨i+1,w,oM,⟨Y,rg,cntL⟩,Le.refl _,Y,h1,same_go ht h1 h2 he⟩
   ·rw [show(xs[i].toList==ys[i].toList)=false from by
     rw [beq_eq_false_iff_ne]
     intro e
     rw [ByteArray.toList_eq,ByteArray.toList_eq]at e
     exact he (B2h e)]
    repeat (first|refine st ?_|refine qb fun bx=>?_)
    refine A0f tab [] (by exact .tmp rfl .nil) (Back.here cntL) ?_
    exact⟨by rw [decide_eq_false (same_no h1 h2 he)];rfl,Y⟩
  ·rw [show decide ((i:Int)<(ys.length:Int))=false from decide_eq_false oM]
   repeat (first|refine st ?_|refine qb fun bx=>?_)
   refine A0f tab [] (by exact .tmp rfl .nil) (Back.here cntL) ?_
   exact⟨by rw [A8r ht oM];rfl,Y⟩
 ·rw [show decide ((i:Int)<(xs.length:Int))=false from decide_eq_false oM]
  repeat (first|refine st ?_|refine qb fun bx=>?_)
  refine A0f tab [] (by exact .tmp rfl .nil) (Back.here cntL) ?_
  exact⟨by rw [A8r ht oM];rfl,Y⟩
end
section
variable{mn:Who}{v:View}
theorem A4w{a b h:Int}:Ret1 prog mn 77 [intV a,intV b,intV h] (MA.val ⟨0,a,b,h⟩) v:=by
 refine A0d tab func77 Y nB (args:=[_,_,_]) ?_
 repeat (first|refine st ?_|refine qb fun bx=>?_)
 refine A0f tab [] (by exact .cell rfl ib rfl .nil) (Back.here cntL) ?_
 exact⟨Y,Y⟩
theorem asks_x{h:Int}:Ret1 prog mn 67 [intV h] (MA.val ⟨1,0,0,h⟩) v:=by
 refine A0d tab func67 Y nB (args:=[_]) ?_
 repeat (first|refine st ?_|refine qb fun bx=>?_)
 refine A0f tab [] (by exact .cell rfl ib rfl .nil) (Back.here cntL) ?_
 exact⟨Y,Y⟩
theorem claims_x{a b h:Int}:Ret1 prog mn 75 [intV a,intV b,intV h] (MA.val ⟨2,a,b,h⟩) v:=by
 refine A0d tab func75 Y nB (args:=[_,_,_]) ?_
 repeat (first|refine st ?_|refine qb fun bx=>?_)
 refine A0f tab [] (by exact .cell rfl ib rfl .nil) (Back.here cntL) ?_
 exact⟨Y,Y⟩
def MornAt(P:Int)(d:List Int)(x:Value)(u:View):Prop:=∃a c,x=moV P a d.length c∧RowAt u a (d.map intV)
def BookAt(l:List MA)(x:Value)(u:View):Prop:=∃a c,x = .slice a l.length c∧ActsAt u a l
def firstL:List MA:=[⟨0,0,1,0⟩,⟨0,1,2,1⟩,⟨1,0,0,0⟩]
def secondL:List MA:=[⟨0,0,1,0⟩,⟨0,1,0,0⟩,⟨2,0,2,1⟩]
def awayL:List MA:=[⟨0,0,2,0⟩]
def overL:List MA:=[⟨0,0,1,0⟩]
def roundL:List MA:=[⟨0,0,1,0⟩,⟨0,1,0,0⟩,⟨0,0,1,0⟩]
theorem fair_x:CallV prog mn 68 [] (MornAt 3 [0,1]) v:=by
 refine A3t tab func68 Y nB (args:=[]) ?_
 repeat (first|refine st ?_|refine qb fun bx=>?_)
 refine Q_op fun ho=>A4b tab ho Y Y Y Y Y Y Y Y Y (fun bL cL hL=>?_)
 clear ho
 repeat (first|refine st ?_|refine qb fun bx=>?_)
 refine A2o tab (.cell rfl ib rfl .nil) (Le.refl _) fun hbk _=>?_
 exact⟨_,_,Y,RowAt.own hbk (by exact cntL) hL⟩
theorem quiet_x:CallV prog mn 71 [] (MornAt 2 [0]) v:=by
 refine A3t tab func71 Y nB (args:=[]) ?_
 repeat (first|refine st ?_|refine qb fun bx=>?_)
 refine Q_op fun ho=>A4b tab ho Y Y Y Y Y Y Y Y Y (fun bL cL hL=>?_)
 clear ho
 repeat (first|refine st ?_|refine qb fun bx=>?_)
 refine A2o tab (.cell rfl ib rfl .nil) (Le.refl _) fun hbk _=>?_
 exact⟨_,_,Y,RowAt.own hbk (by exact cntL) hL⟩
theorem bkFirst_x:CallV prog mn 69 [] (BookAt firstL) v:=by
 refine A3t tab func69 Y nB (args:=[]) ?_
 repeat (first|refine st ?_|refine qb fun bx=>?_)
 refine Q_op fun ho=>A0y ho B2c Y Y Y Y Y A4w ?_
 clear ho
 repeat (first|refine st ?_|refine qb fun bx=>?_)
 refine Q_op fun ho=>A0y ho B2c Y Y Y Y Y A4w ?_
 clear ho
 repeat (first|refine st ?_|refine qb fun bx=>?_)
 refine Q_op fun ho=>A0y ho bod67 Y Y Y Y Y asks_x ?_
 clear ho
 refine Q_op fun ho=>A4b tab ho Y Y Y Y Y Y Y Y Y (fun bL cL hL=>?_)
 clear ho
 repeat (first|refine st ?_|refine qb fun bx=>?_)
 refine A2o tab (.tmp rfl .nil) (Le.refl _) fun hbk _=>?_
 exact⟨_,_,Y,RowAt.own hbk (by exact cntL) hL⟩
theorem bkSecond_x:CallV prog mn 70 [] (BookAt secondL) v:=by
 refine A3t tab func70 Y nB (args:=[]) ?_
 repeat (first|refine st ?_|refine qb fun bx=>?_)
 refine Q_op fun ho=>A0y ho B2c Y Y Y Y Y A4w ?_
 clear ho
 repeat (first|refine st ?_|refine qb fun bx=>?_)
 refine Q_op fun ho=>A0y ho B2c Y Y Y Y Y A4w ?_
 clear ho
 repeat (first|refine st ?_|refine qb fun bx=>?_)
 refine Q_op fun ho=>A0y ho bod75 Y Y Y Y Y claims_x ?_
 clear ho
 refine Q_op fun ho=>A4b tab ho Y Y Y Y Y Y Y Y Y (fun bL cL hL=>?_)
 clear ho
 repeat (first|refine st ?_|refine qb fun bx=>?_)
 refine A2o tab (.tmp rfl .nil) (Le.refl _) fun hbk _=>?_
 exact⟨_,_,Y,RowAt.own hbk (by exact cntL) hL⟩
theorem bkRound_x:CallV prog mn 72 [] (BookAt roundL) v:=by
 refine A3t tab func72 Y nB (args:=[]) ?_
 repeat (first|refine st ?_|refine qb fun bx=>?_)
 refine Q_op fun ho=>A0y ho B2c Y Y Y Y Y A4w ?_
 clear ho
 repeat (first|refine st ?_|refine qb fun bx=>?_)
 refine Q_op fun ho=>A0y ho B2c Y Y Y Y Y A4w ?_
 clear ho
 repeat (first|refine st ?_|refine qb fun bx=>?_)
 refine Q_op fun ho=>A0y ho B2c Y Y Y Y Y A4w ?_
 clear ho
 refine Q_op fun ho=>A4b tab ho Y Y Y Y Y Y Y Y Y (fun bL cL hL=>?_)
 clear ho
 repeat (first|refine st ?_|refine qb fun bx=>?_)
 refine A2o tab (.tmp rfl .nil) (Le.refl _) fun hbk _=>?_
 exact⟨_,_,Y,RowAt.own hbk (by exact cntL) hL⟩
theorem bkOver_x:CallV prog mn 73 [] (BookAt overL) v:=by
 refine A3t tab func73 Y nB (args:=[]) ?_
 repeat (first|refine st ?_|refine qb fun bx=>?_)
 refine Q_op fun ho=>A0y ho B2c Y Y Y Y Y A4w ?_
 clear ho
 refine Q_op fun ho=>A4b tab ho Y Y Y Y Y Y Y Y Y (fun bL cL hL=>?_)
 clear ho
 repeat (first|refine st ?_|refine qb fun bx=>?_)
 refine A2o tab (.tmp rfl .nil) (Le.refl _) fun hbk _=>?_
 exact⟨_,_,Y,RowAt.own hbk (by exact cntL) hL⟩
theorem bkAway_x:CallV prog mn 74 [] (BookAt awayL) v:=by
 refine A3t tab func74 Y nB (args:=[]) ?_
 repeat (first|refine st ?_|refine qb fun bx=>?_)
 refine Q_op fun ho=>A0y ho B2c Y Y Y Y Y A4w ?_
 clear ho
 refine Q_op fun ho=>A4b tab ho Y Y Y Y Y Y Y Y Y (fun bL cL hL=>?_)
 clear ho
 repeat (first|refine st ?_|refine qb fun bx=>?_)
 refine A2o tab (.tmp rfl .nil) (Le.refl _) fun hbk _=>?_
 exact⟨_,_,Y,RowAt.own hbk (by exact cntL) hL⟩
end
end Go.Proofs.YtclejblcnfaeaaaGreat
end
