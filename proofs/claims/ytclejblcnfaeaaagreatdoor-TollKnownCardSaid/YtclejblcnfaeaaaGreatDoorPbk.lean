/- Part 37. -/
import Derived.Laws.Strings
import Derived.Test.YtclejblcnfaeaaaGreatDoorPbj
set_option linter.all false
section
namespace Go.Pal
open Go Go.Conc View
section
variable{P:Program}{mn:Who}(T:Tab P){rd:Option Nat}{n:Nat}{Q:Exit→St→View→Prop}{ds:List Deferred}{ρ:Regs}{β:A0e}{v:View}{K:St→View→Prop}
 {ops:Array Oper}{i:Nat}{d:Nat}{ty:TypeId}{pos:String}{af:Array Edge}{gu:Option (Nat×Bool)}
theorem A_rangeS{xt:TypeId}{x:Operand}{s:ByteArray}(ho:ops[i]?=some ⟨some d,.range xt x,ty,pos,af,gu⟩)(hw:A0p ops gu ρ=some true)(hn:Nat.blt d n=true)(hx:ρ.val x=some (.string s))(hm:T.und xt=some .string)
  (h:∀it,v it=none→K ⟨ds,(d,.pointer (some ⟨it,0,none⟩))::ρ,β⟩ (v.set it true (.stringIter s 0))):XOp P mn rd n ops i Q K ⟨ds,ρ,β⟩ v:=by
 refine A1w ho (A0j hw) (.inr Y) hn fun ev hev hbk=>?_
 simp only [execOp,A0a,hev _ _ hx]
 unfold Instr.range
 simp only [A0a,A1k T hm,A0h]
 intro it hit
 have hr':=(show v it=none∧A0c β it=none by
  unfold View.union at hit
  cases e:v it with
  | none=>rw [e]at hit;exact⟨rfl,hit⟩
  | some x=>rw [e]at hit;cases hit)
 obtain⟨h1,h2⟩:=B2f (p:=true) (o:=.stringIter s 0) hbk hr'.2
 exact⟨β,_,⟨h1,h2 ▸ Le.refl _⟩,h it hr'.1⟩
omit T in
theorem A_nextS{x:Operand}{s:ByteArray}{it k:Nat}(ho:ops[i]?=some ⟨some d,.next x true,ty,pos,af,gu⟩)(hw:A0p ops gu ρ=some true)(hn:Nat.blt d n=true)(hx:ρ.val x=some (.pointer (some ⟨it,0,none⟩)))
  (hi:v it=some (true,.stringIter s k))
  (h1:k<s.size→K ⟨ds,(d,.tuple (List.toArray [.bool true,.int .i64 k,.int .i32 (Utf8.decode s k).1]))::ρ,β⟩ (v.set it true (.stringIter s (k+(Utf8.decode s k).2))))
  (h2:¬k<s.size→K ⟨ds,(d,.tuple (List.toArray [.bool false]))::ρ,β⟩ v):XOp P mn rd n ops i Q K ⟨ds,ρ,β⟩ v:=by
 refine A1w ho (A0j hw) (.inr Y) hn fun ev hev hbk=>?_
 simp only [execOp,A0a,hev _ _ hx]
 unfold Instr.next
 simp only [A0a]
 refine A9h (A2t hi) Y Y ?_
 dsimp only
 by_cases hlt:k<s.size
 ·rw [if_pos hlt]
  simp only [A0a]
  refine A6t (A2t hi) Y Y ?_
  obtain⟨h3,h4⟩:=B2f (p:=true) (o:=.stringIter s (k+(Utf8.decode s k).2)) hbk (box_none hbk hi)
  exact⟨β,_,⟨h3,h4 ▸ Le.refl _⟩,h1 hlt⟩
 ·rw [if_neg hlt]
  exact⟨β,v,⟨hbk,Le.refl _⟩,h2 hlt⟩
omit T in
theorem sx_sadd{ev:Operand→Value}{t t':TypeId}{y z:Operand}{a b:ByteArray}{dst:Option Tmp}{tt:TypeId}{ps:String}{aa:Array Edge}{g:Option (Nat×Bool)}{KK:Next→View→Prop}{E:Value→View→Prop}{w:View}(hy:ev y = .string a)(hz:ev z = .string b)(hs:a.size+b.size<2^62)(h:KK (.value (.string (a++b))) w) :
  SemX P (execOp ev ⟨dst,.binOp .add t y z t',tt,ps,aa,g⟩) KK E w:=by
 have heq:eqGuard .add t y z (.string a) (.string b)=pure ():=by unfold eqGuard;rfl
 have hm:IntKind.i64.max=9223372036854775807:=rfl
 simp only [execOp,hy,hz,heq,A0a,A0h,binOp,Op.stringOp]
 rw [if_neg (by rw [hm];omega)]
 exact h
omit T in
theorem A_sadd{t t':TypeId}{y z:Operand}{a b:ByteArray}(ho:ops[i]?=some ⟨some d,.binOp .add t y z t',ty,pos,af,gu⟩)(hw:A0p ops gu ρ=some true)(hn:Nat.blt d n=true)(hy:ρ.val y=some (.string a))(hz:ρ.val z=some (.string b))(hs:a.size+b.size<2^62)
  (h:K ⟨ds,(d,.string (a++b))::ρ,β⟩ v):XOp P mn rd n ops i Q K ⟨ds,ρ,β⟩ v:=by
 refine A1w ho (A0j hw) (.inr Y) hn fun ev hev hbk=>?_
 exact sx_sadd (hev _ _ hy) (hev _ _ hz) hs ⟨β,v,⟨hbk,Le.refl _⟩,h⟩
omit T in
theorem B0o{l:List Oper}{t t':TypeId}{y z:Operand}{a b:ByteArray}(hw:A0p ops gu ρ=some true)(hn:Nat.blt d n=true)(hy:ρ.val y=some (.string a))(hz:ρ.val z=some (.string b))(hs:a.size+b.size<2^62)
  (h:XL P mn n ops Q l ⟨ds,(d,.string (a++b))::ρ,β⟩ v):XL P mn n ops Q (⟨some d,.binOp .add t y z t',ty,pos,af,gu⟩::l) ⟨ds,ρ,β⟩ v:=by
 refine A4e (o:=⟨some d,.binOp .add t y z t',ty,pos,af,gu⟩) (x:=.string (a++b)) (A0j hw) hn (fun ev hev hbk w hle=>?_) h
 exact sx_sadd (hev _ _ hy) (hev _ _ hz) hs ⟨Le.refl _,Y⟩
omit T in
theorem A_ext{f:FuncId}{fn:Func}{aS:Array Operand}{ats:Array TypeId}{e:Array Value→Sem Value}{xs:List Value}{y:Value}(ho:ops[i]?=some ⟨some d,.call {callee:=.value (.func f),args:=aS,argTypes:=ats },ty,pos,af,gu⟩)(hw:A0p ops gu ρ=some true)(hn:Nat.blt d n=true)
  (E:Ext P f fn e)(hxs:A2s ρ.val aS.toList=some xs)(hp:∀(K:Value→View→Prop) (E:Value→View→Prop) (w:View),K y w→SemX P (e xs.toArray) K E w)(h:K ⟨ds,(d,y)::ρ,β⟩ v):XOp P mn rd n ops i Q K ⟨ds,ρ,β⟩ v:=by
 refine A1w ho (A0j hw) (.inr Y) hn fun ev hev hbk=>?_
 have ha:aS.map ev=xs.toArray:=Array.toList_inj.1 (by simpa using A2c hev hxs)
 have hf:ev (.func f) = .func (.func f) #[] #[]:=hev _ _ Y
 unfold execOp
 simp only [resolve,Deferred.ofValue,hf,ha,A0a,A0h,invoke]
 unfold callFunc
 have hn2:(fn.name == "runtime.NumGoroutine")=false:=E.hname
 simp only [A0a,A1s,E.hf,hn2,E.hb,Bool.false_eq_true,if_false,if_true]
 refine⟨?_,?_⟩
 ·trivial
 ·simp only [E.hn,A0a,E.he]
  have e0:(#[]:Array Value)++xs.toArray++#[]=xs.toArray:=by simp
  first
   | exact hp _ _ _ ⟨β,v,⟨hbk,Le.refl _⟩,h⟩
   | (rw [e0];exact hp _ _ _ ⟨β,v,⟨hbk,Le.refl _⟩,h⟩)
end
structure Caught3(P:Program)(mn:Who)(kc:FuncId)(X:Value→Prop)(s1 s2:Nat)(t1 t2:TypeId)(y1 y2:Array Value):Prop where
 fn:∃fn,P.funcs[kc]?=some fn∧fn.name≠ "runtime.NumGoroutine"∧¬fn.body=none
 ok:∀{Stop:View→Goroutine→Prop} {v:View} {c:Frame} {cs:List Frame} {p1 p2:Addr},c.mode = .returning→Run P mn Stop v (G c cs)→Run P mn Stop v (G (Frame.enter P kc #[.pointer (some p1),.pointer (some p2)] .deferred) (c::cs))
 pan:∀{Stop:View→Goroutine→Prop} {u:View} {c:Frame} {cs:List Frame} {b1 b2:Nat} {c1 c2:Array Value} {xp:Value},X xp→c.mode = .panicking [⟨xp,false,false⟩]→c1.size=s1→c2.size=s2→Bok [(b1,c1,t1),(b2,c2,t2)] u→
  Run P mn Stop (u.union (A0c [(b1,y1,t1),(b2,y2,t2)])) (G {c with mode:=.returning } cs)→Run P mn Stop (u.union (A0c [(b1,c1,t1),(b2,c2,t2)])) (G (Frame.enter P kc #[.pointer (some ⟨b1,0,none⟩),.pointer (some ⟨b2,0,none⟩)] .deferred) (c::cs))
section
variable{P:Program}{mn:Who}(T:Tab P){v:View}
def FnS3(fn:Func)(kc:FuncId)(X:Value→Prop)(s1 s2:Nat)(t1 t2:TypeId)(y1 y2:Array Value)(R:End→A0e→Prop)(v:View):Exit→St→View→Prop
 | .ret,σ,u=>∃p1 p2,σ.ds=[dcall kc #[.pointer (some p1),.pointer (some p2)]]∧∃xs β',ResL T σ.ρ σ.β fn.results.toList xs∧R (.ret (A3t xs)) β'∧Back v β' u σ.β
 | .panic ch,σ,u=>∃b1 b2 c1 c2 rest xs β' xp,σ.ds=[dcall kc #[.pointer (some ⟨b1,0,none⟩),.pointer (some ⟨b2,0,none⟩)]]∧ch=[⟨xp,false,false⟩]∧X xp∧c1.size=s1∧c2.size=s2∧(∀p,cnt p σ.β=cnt p ([(b1,c1,t1),(b2,c2,t2)]++rest))∧
   ResL T σ.ρ ([(b1,y1,t1),(b2,y2,t2)]++rest) fn.results.toList xs∧R (.ret (A3t xs)) β'∧Back v β' u ([(b1,y1,t1),(b2,y2,t2)]++rest)
 | _,_,_=>False
theorem callsB_fnS3{f kc:FuncId}{X:Value→Prop}{s1 s2:Nat}{t1 t2:TypeId}{y1 y2:Array Value}(C:Caught3 P mn kc X s1 s2 t1 t2 y1 y2){fn:Func}{c:Code}{args:List Value}{R:End→A0e→Prop}{β:A0e}(hf:P.funcs[f]?=some fn)(hb:fn.body=some c)(hn:args.length≤fn.ntmps)
  (h:XC P mn none fn.ntmps c (FnS3 T fn kc X s1 s2 t1 t2 y1 y2 R v) ⟨[],A2l 0 args,β⟩ v):CallsB P mn f args.toArray R β v:=fun hbk=>by
 intro Stop cf cs hc hR
 let b:Frame:={fn:=f,tmps:=#[],todo:=[],defers:=[],mode:=.run,kind:=.normal }
 have henter:Frame.enter P f args.toArray .normal=b.on {tmps:=args.toArray++Array.replicate (fn.ntmps-args.toArray.size) undef,defers:=[] } [.code c]:=by
  simp [Frame.enter,Frame.on,hf,hb,b]
 rw [henter]
 obtain⟨fc,hfc,hnm,hbd⟩:=C.fn
 refine(h _ (B1y hn) hbk) Stop b [] (cf::cs) (by simp [b]) Y fun e a' w hQ=>?_
 obtain⟨⟨ds',ρ',β'⟩,u,hq,hf',hb',hl⟩:=hQ
 cases e with
 | ret=>
  obtain⟨p1,p2,h1,xs,β'',h6,h7,h8⟩:=hq
  intro todo
  refine Run.ctl Y (g':=G {b.on a' (.code .ret::todo)with mode:=.returning } (cf::cs)) (fun w=>by simp [G,stepG,stepG.exec,Frame.on,b]) ?_
  refine run_defer (.inl Y) (hf'.defers.trans h1) hfc hnm hbd (C.ok Y ?_)
  refine A6x (fn:=fn) (R:=fun e w'=>∃β',R e β'∧Bok β' v∧(v.union (A0c β')).Le w') Y Y Y hf ?_ hR
  exact B1j T hf' hb' hl h6 h7 h8
 | panic ch=>
  obtain⟨b1,b2,c1,c2,rest,xs,β'',xp,h1,rfl,hX,h3,h4,h5,h6,h7,h8⟩:=hq
  intro todo
  refine run_defer (fr:={b.on a' todo with mode:=_ }) (.inr ⟨_,rfl⟩) (hf'.defers.trans h1) hfc hnm hbd ?_
  simp only at hb' hl
  obtain⟨hb2,he2⟩:=A3v (A2e h5) hb'
  obtain⟨hr1,hr2⟩:=bok_append.1 hb2
  have hl2:((u.union (A0c rest)).union (A0c [(b1,c1,t1),(b2,c2,t2)])).Le w:=by rw [←A0v hb2,he2];exact hl
  have hr3:Bok [(b1,y1,t1),(b2,y2,t2)] (u.union (A0c rest)):=A8r hr2 Y
  have hb3:Bok ([(b1,y1,t1),(b2,y2,t2)]++rest) u:=bok_append.2 ⟨hr1,hr3⟩
  refine Run.weaken ?_ hl2
  refine C.pan hX Y h3 h4 hr2 ?_
  refine A6x (fn:=fn) (R:=fun e w'=>∃β',R e β'∧Bok β' v∧(v.union (A0c β')).Le w') Y Y Y hf ?_ hR
  exact B1j T (n:=fn.ntmps) (ds:=ds') (ρ:=ρ') (β:=[(b1,y1,t1),(b2,y2,t2)]++rest) (u:=u) ⟨hf'.size,hf'.defers,hf'.get⟩ hb3 (by rw [A0v hb3];exact Le.refl _) h6 h7 h8
 | normal=>exact hq.elim
 | exit id=>exact hq.elim
 | goto l=>exact hq.elim
 | outgrown=>exact hq.elim
theorem FnS3_ret{fn:Func}{kc:FuncId}{X:Value→Prop}{s1 s2:Nat}{t1 t2:TypeId}{y1 y2:Array Value}{R:End→A0e→Prop}{u:View}{ds:List Deferred}{ρ:Regs}{β:A0e}{p1 p2:Addr}{xs:List Value}(β':A0e)(hds:ds=[dcall kc #[.pointer (some p1),.pointer (some p2)]])(hr:ResL T ρ β fn.results.toList xs)(hB:Back v β' u β)(hR:R (.ret (A3t xs)) β'):FnS3 T fn kc X s1 s2 t1 t2 y1 y2 R v .ret ⟨ds,ρ,β⟩ u:=⟨p1,p2,hds,xs,β',hr,hR,hB⟩
theorem FnS3_pan{fn:Func}{kc:FuncId}{X:Value→Prop}{s1 s2:Nat}{t1 t2:TypeId}{y1 y2:Array Value}{R:End→A0e→Prop}{u:View}{ds:List Deferred}{ρ:Regs}{β:A0e}{b1 b2:Nat}{c1 c2:Array Value}{xs:List Value}{xp:Value}(rest β':A0e)(hds:ds=[dcall kc #[.pointer (some ⟨b1,0,none⟩),.pointer (some ⟨b2,0,none⟩)]])(hX:X xp)(h1:c1.size=s1)(h2:c2.size=s2)
  (hs:∀p,cnt p β=cnt p ([(b1,c1,t1),(b2,c2,t2)]++rest))(hr:ResL T ρ ([(b1,y1,t1),(b2,y2,t2)]++rest) fn.results.toList xs)(hB:Back v β' u ([(b1,y1,t1),(b2,y2,t2)]++rest))(hR:R (.ret (A3t xs)) β'):FnS3 T fn kc X s1 s2 t1 t2 y1 y2 R v (.panic [⟨xp,false,false⟩]) ⟨ds,ρ,β⟩ u:=⟨b1,b2,c1,c2,rest,xs,β',xp,hds,Y,hX,h1,h2,hs,hr,hR,hB⟩
end
attribute [irreducible] FnS3
end Go.Pal
end
section
namespace Go.Proofs.YtclejblcnfaeaaaGreatDoor
open Go Go.Pal Go.Pal.To Go.Conc View
open Go.Proofs.Tryz
open Go.Proofs.YtclejblcnfaeaaaGreatDoor.W (lexL)
set_option maxHeartbeats 4000000
set_option maxRecDepth 20000
section
variable{mn:Who}{v:View}
theorem chr_x{n:Int}(h:¬outZ n 0 9):Ret1 prog mn 85 [intV n] (.string (chrB n)) v:=by
 have h9:0≤n∧n≤9:=by unfold outZ at h;omega
 refine A0d tab func85 Y nB (args:=[_]) ?_
 refine su ?_
 refine A0f tab [] (by exact .tmp rfl .nil) (Back.here cntL) ?_
 refine⟨?_,Y⟩
 unfold chrB
 rw [A2d oM oM]
 rfl
abbrev wrV(x:MA):Value:=.tuple (List.toArray [.string (B1c x).2,intV (B1c x).1])
theorem write_x{x:MA}:Ret1 prog mn 37 [x.val] (wrV x) v:=by
  refine A0d tab func37 Y nB (args:=[_]) ?_
  refine sw fun bx=>?_
  refine Q_op fun ho=>A0u ho bod84 Y Y Y Y Y (persons_x (k:=x.k)) ?_
  clear ho
  refine su ?_
  by_cases h0:A4o x.k<0
  · rw [show decide (A4o x.k<0)=true from decide_eq_true h0]
    refine su ?_
    refine A0f tab [] (by exact .tmp rfl (.tmp rfl .nil)) (Back.here cntL) ⟨?_,Y⟩
    show _=wrV x
    unfold wrV B1c
    rw [if_pos h0];rfl
  rw [show decide (A4o x.k<0)=false from decide_eq_false h0]
  have hw1:badFig x→wrV x = .tuple (List.toArray [.string ⟨#[]⟩,intV 1]):=fun h=>by unfold wrV B1c;rw [if_neg h0,if_pos h]
  refine su ?_
  refine Q_op fun ho=>A0u ho bod81 Y Y Y Y Y (A3g (n:=x.a) (lo:=0) (hi:=9)) ?_
  clear ho
  refine su ?_
  by_cases h1:outZ x.a 0 9
  · rw [show decide (outZ x.a 0 9)=true from decide_eq_true h1,hw1 (.inl h1)]
    refine su ?_
    exact A0f tab [] (by exact .tmp rfl (.tmp rfl .nil)) (Back.here cntL) ⟨Y,Y⟩
  rw [show decide (outZ x.a 0 9)=false from decide_eq_false h1]
  refine su ?_
  refine Q_op fun ho=>A0u ho bod81 Y Y Y Y Y (A3g (n:=x.b) (lo:=0) (hi:=9)) ?_
  clear ho
  refine su ?_
  by_cases h2:outZ x.b 0 9
  · rw [show decide (outZ x.b 0 9)=true from decide_eq_true h2,hw1 (.inr (.inl h2))]
    refine su ?_
    exact A0f tab [] (by exact .tmp rfl (.tmp rfl .nil)) (Back.here cntL) ⟨Y,Y⟩
  rw [show decide (outZ x.b 0 9)=false from decide_eq_false h2]
  refine su ?_
  refine Q_op fun ho=>A0u ho bod81 Y Y Y Y Y (A3g (n:=x.h) (lo:=0) (hi:=9)) ?_
  clear ho
  refine su ?_
  by_cases h3:outZ x.h 0 9
  · rw [show decide (outZ x.h 0 9)=true from decide_eq_true h3,hw1 (.inr (.inr (.inl h3)))]
    refine su ?_
    exact A0f tab [] (by exact .tmp rfl (.tmp rfl .nil)) (Back.here cntL) ⟨Y,Y⟩
  rw [show decide (outZ x.h 0 9)=false from decide_eq_false h3]
  refine su ?_
  have hk:=persN_of h0
  obtain⟨k,a,b,n⟩:=x
  simp only at hk h0 h1 h2 h3 hw1
  rcases hk with rfl|rfl|rfl
  · have hw2:wrV ⟨0,a,b,n⟩ = .tuple (List.toArray [.string (lineB ⟨0,a,b,n⟩),intV 0]):=by
      unfold wrV B1c
      rw [if_neg h0,if_neg (by unfold badFig;simp only [h1,h2,h3,false_or];rintro⟨h,_⟩;cases h)]
    rw [hw2]
    refine su ?_
    refine lexL A1e Y kR ?_
    refine su ?_
    refine A2w bod85 Y Y Y Y Y (chr_x h1) ?_
    refine B0o Y Y Y Y (by simp only [ByteArray.size_append,sz1];have:=A1b a;have:=A1b b;have:=A1b n;omega) ?_
    refine su ?_
    refine A2w bod85 Y Y Y Y Y (chr_x h2) ?_
    refine B0o Y Y Y Y (by simp only [ByteArray.size_append,sz1];have:=A1b a;have:=A1b b;have:=A1b n;omega) ?_
    refine B0o Y Y Y Y (by simp only [ByteArray.size_append,sz1];have:=A1b a;have:=A1b b;have:=A1b n;omega) ?_
    refine su ?_
    refine A2w bod85 Y Y Y Y Y (chr_x h3) ?_
    refine B0o Y Y Y Y (by simp only [ByteArray.size_append,sz1];have:=A1b a;have:=A1b b;have:=A1b n;omega) ?_
    refine su ?_
    exact A0f tab [] (by exact .tmp rfl (.tmp rfl .nil)) (Back.here cntL) ⟨Y,Y⟩
  · by_cases h4:a=0
    · subst h4
      by_cases h5:b=0
      · subst h5
        have hw2:wrV ⟨1,0,0,n⟩ = .tuple (List.toArray [.string (lineB ⟨1,0,0,n⟩),intV 0]):=by
          unfold wrV B1c
          rw [if_neg h0,if_neg (by unfold badFig;simp only [h1,h2,h3,false_or];rintro⟨_,h|h⟩<;>exact h Y)]
        rw [hw2]
        refine su ?_
        refine Q_op fun ho=>A0u ho bod85 Y Y Y Y Y (chr_x h3) ?_
        clear ho
        refine Q_op fun ho=>A_sadd ho Y Y Y Y (by simp only [sz1];have:=A1b n;omega) ?_
        clear ho
        refine su ?_
        exact A0f tab [] (by exact .tmp rfl (.tmp rfl .nil)) (Back.here cntL) ⟨Y,Y⟩
      · rw [hw1 (.inr (.inr (.inr ⟨Y,.inr h5⟩)))]
        refine su ?_
        rw [show(b != 0)=true from by simpa using h5]
        refine su ?_
        exact A0f tab [] (by exact .tmp rfl (.tmp rfl .nil)) (Back.here cntL) ⟨Y,Y⟩
    · rw [hw1 (.inr (.inr (.inr ⟨Y,.inl h4⟩)))]
      refine su ?_
      rw [show(a != 0)=true from by simpa using h4]
      refine su ?_
      exact A0f tab [] (by exact .tmp rfl (.tmp rfl .nil)) (Back.here cntL) ⟨Y,Y⟩
  · have hw2:wrV ⟨2,a,b,n⟩ = .tuple (List.toArray [.string (lineB ⟨2,a,b,n⟩),intV 0]):=by
      unfold wrV B1c
      rw [if_neg h0,if_neg (by unfold badFig;simp only [h1,h2,h3,false_or];rintro⟨h,_⟩;cases h)]
    rw [hw2]
    refine su ?_
    refine lexL A1e Y kR ?_
    refine su ?_
    refine A2w bod85 Y Y Y Y Y (chr_x h1) ?_
    refine B0o Y Y Y Y (by simp only [ByteArray.size_append,sz1];have:=A1b a;have:=A1b b;have:=A1b n;omega) ?_
    refine su ?_
    refine A2w bod85 Y Y Y Y Y (chr_x h2) ?_
    refine B0o Y Y Y Y (by simp only [ByteArray.size_append,sz1];have:=A1b a;have:=A1b b;have:=A1b n;omega) ?_
    refine B0o Y Y Y Y (by simp only [ByteArray.size_append,sz1];have:=A1b a;have:=A1b b;have:=A1b n;omega) ?_
    refine su ?_
    refine A2w bod85 Y Y Y Y Y (chr_x h3) ?_
    refine B0o Y Y Y Y (by simp only [ByteArray.size_append,sz1];have:=A1b a;have:=A1b b;have:=A1b n;omega) ?_
    refine su ?_
    exact A0f tab [] (by exact .tmp rfl (.tmp rfl .nil)) (Back.here cntL) ⟨Y,Y⟩
end
end Go.Proofs.YtclejblcnfaeaaaGreatDoor
end
section
namespace Go.Proofs.YtclejblcnfaeaaaGreatDoor
open Go Go.Pal Go.Pal.To Go.Conc View
open Go.Proofs.Tryz
set_option maxHeartbeats 4000000
set_option maxRecDepth 20000
def nxF:Nat→Nat
 | 0=>83|1=>131|2=>155|3=>194|4=>129|_=>154
abbrev nxV(b sT:Nat):Value:=.func (.func (nxF sT)) (List.toArray [.pointer (some ⟨b,0,none⟩)]) #[]
abbrev rdG(sT:Nat)(x:MA)(f:Value):Array Value:=List.toArray [natV sT,intV x.k,intV x.a,intV x.b,intV x.h,f]
abbrev badV(n:Nat):Value:=.iface 157 (.agg (List.toArray [natV n]))
def IsBad(x:Value):Prop:=∃n,x=badV n
def RdR(R:Value→A0e→Prop)(bad:Prop):Pal.End→A0e→Prop
 | .ret r,β'=>¬bad∧R r β'
 | .pan ch,β'=>bad∧β'=[]∧∃xp,IsBad xp∧ch=[⟨xp,false,false⟩]
theorem wrap32{x:Int}(h1:-2147483648≤x)(h2:x≤2147483647):IntKind.i32.wrap x=x:=by
 simp only [IntKind.wrap,IntKind.signed,IntKind.bits]
 simp
 omega
section
variable{mn:Who}{v:View}{b:Nat}{x:MA}{f:Value}
theorem to_x{sT sT' m:Nat}:CallsB prog mn 128 #[.pointer (some ⟨b,0,none⟩),natV sT',.func (.func m) (List.toArray [.pointer (some ⟨b,0,none⟩)]) #[]] (RetB fun r β'=>r = .tuple #[]∧β'=[(b,rdG sT' x (.func (.func m) (List.toArray [.pointer (some ⟨b,0,none⟩)]) #[]),155)]) [(b,rdG sT x f,155)] v:=by
 refine A0d tab func128 Y nB (args:=[_,_,_]) ?_
 refine su ?_
 refine A1o tab [(b,rdG sT' x (.func (.func m) (List.toArray [.pointer (some ⟨b,0,none⟩)]) #[]),155)] .nil (Back.here ?_) ⟨Y,Y⟩
 exact fun p=>Nat.le_refl _
theorem digit_x{sT c:Nat}(hc:c<2^31):CallsB prog mn 130 #[.pointer (some ⟨b,0,none⟩),.int .i32 c] (RdR (fun r β'=>r=intV ((c:Int)-48)∧β'=[(b,rdG sT x f,155)]) (c<48∨57<c)) [(b,rdG sT x f,155)] v:=by
 refine A0d tab func130 Y nB (args:=[_,_]) ?_
 refine su ?_
 by_cases h1:c<48
 ·rw [show decide ((c:Int)<48)=true from decide_eq_true oM]
  refine su ?_
  refine Q_op fun ho=>B0d ho Y Y ?_
  clear ho
  refine pn ?_
  exact A5p tab [] (Back.here fun p=>Nat.zero_le _) ⟨.inl h1,Y,_,⟨sT,Y⟩,Y⟩
 rw [show decide ((c:Int)<48)=false from decide_eq_false oM]
 by_cases h2:57<c
 ·refine su ?_
  rw [show decide ((c:Int) > 57)=true from decide_eq_true oM]
  refine su ?_
  refine Q_op fun ho=>B0d ho Y Y ?_
  clear ho
  refine pn ?_
  exact A5p tab [] (Back.here fun p=>Nat.zero_le _) ⟨.inr h2,Y,_,⟨sT,Y⟩,Y⟩
 refine su ?_
 rw [show decide ((c:Int) > 57)=false from decide_eq_false oM]
 refine su ?_
 rw [wrap32 (x:=(c:Int)-48) oM oM,A2d (x:=(c:Int)-48) oM oM]
 exact A0f tab [(b,rdG sT x f,155)] (by exact .tmp rfl .nil) (Back.here cntL) ⟨oM,Y,Y⟩
def StR(b sT:Nat)(x:MA)(c:Nat):Pal.End→A0e→Prop
 | .ret r,β'=>r = .tuple #[]∧∃sT' x',A6u sT x c=some (sT',x')∧β'=[(b,rdG sT' x' (nxV b sT'),155)]
 | .pan ch,β'=>A6u sT x c=none∧β'=[]∧∃xp,IsBad xp∧ch=[⟨xp,false,false⟩]
theorem first_x{c:Nat}(hc:c<2^31):CallsB prog mn 83 #[.pointer (some ⟨b,0,none⟩),.int .i32 c] (StR b 0 x c) [(b,rdG 0 x f,155)] v:=by
 refine A0d tab func83 Y nB (args:=[_,_]) ?_
 refine su ?_
 by_cases h:c=63
 ·subst h
  refine su ?_
  refine Q_op fun ho=>A0o [(b,rdG 0 {x with k:=1 } f,155)] [] ho B2g rfl rfl rfl rfl rfl cntA (to_x (x:={x with k:=1 })) (fun x β' hR=>?_)
  clear ho
  obtain⟨rfl,rfl⟩:=hR
  refine su ?_
  exact A0f tab [(b,rdG 4 {x with k:=1 } (nxV b 4),155)] .nil (Back.here cntL) ⟨rfl,4,_,rfl,rfl⟩
 ·rw [show((c:Int)==63)=false from by simp;omega]
  refine su ?_
  refine Q_op fun ho=>A_callP [(b,rdG 0 x f,155)] [] ho bod130 Y Y Y Y Y A6v (digit_x hc) (fun y β' hR=>?_) (fun ch β' hR=>?_)
  ·clear ho
   obtain⟨hbad,rfl,rfl⟩:=hR
   refine su ?_
   refine Q_op fun ho=>A0o [(b,rdG 0 {x with a:=(c:Int)-48 } f,155)] [] ho B2g rfl rfl rfl rfl rfl cntA (to_x (x:={x with a:=(c:Int)-48 })) (fun x β' hR=>?_)
   clear ho
   obtain⟨rfl,rfl⟩:=hR
   refine su ?_
   refine A1o tab [(b,rdG 1 {x with a:=(c:Int)-48 } (nxV b 1),155)] .nil (Back.here cntL) ⟨rfl,1,_,?_,rfl⟩
   simp only [A6u]
   rw [if_neg h,if_neg hbad]
  ·clear ho
   obtain⟨hbad,rfl,xp,hxp,rfl⟩:=hR
   refine pn ?_
   refine A5p tab [] (Back.here fun p=>Nat.zero_le _) ⟨?_,Y,xp,hxp,Y⟩
   simp only [A6u]
   rw [if_neg h,if_pos hbad]
theorem other_x{c:Nat}(hc:c<2^31):CallsB prog mn 155 #[.pointer (some ⟨b,0,none⟩),.int .i32 c] (StR b 2 x c) [(b,rdG 2 x f,155)] v:=by
 refine A0d tab func155 Y nB (args:=[_,_]) ?_
 refine su ?_
 refine Q_op fun ho=>A_callP [(b,rdG 2 x f,155)] [] ho bod130 Y Y Y Y Y A6v (digit_x hc) (fun y β' hR=>?_) (fun ch β' hR=>?_)
 ·clear ho
  obtain⟨hbad,rfl,rfl⟩:=hR
  refine su ?_
  refine Q_op fun ho=>A0o [(b,rdG 2 {x with b:=(c:Int)-48 } f,155)] [] ho B2g rfl rfl rfl rfl rfl cntA (to_x (x:={x with b:=(c:Int)-48 })) (fun x β' hR=>?_)
  clear ho
  obtain⟨rfl,rfl⟩:=hR
  refine su ?_
  refine A1o tab [(b,rdG 3 {x with b:=(c:Int)-48 } (nxV b 3),155)] .nil (Back.here cntL) ⟨rfl,3,_,?_,rfl⟩
  simp only [A6u]
  rw [if_neg hbad]
 ·clear ho
  obtain⟨hbad,rfl,xp,hxp,rfl⟩:=hR
  refine pn ?_
  refine A5p tab [] (Back.here fun p=>Nat.zero_le _) ⟨?_,Y,xp,hxp,Y⟩
  simp only [A6u]
  rw [if_pos hbad]
theorem horse_x{c:Nat}(hc:c<2^31):CallsB prog mn 129 #[.pointer (some ⟨b,0,none⟩),.int .i32 c] (StR b 4 x c) [(b,rdG 4 x f,155)] v:=by
 refine A0d tab func129 Y nB (args:=[_,_]) ?_
 refine su ?_
 refine Q_op fun ho=>A_callP [(b,rdG 4 x f,155)] [] ho bod130 Y Y Y Y Y A6v (digit_x hc) (fun y β' hR=>?_) (fun ch β' hR=>?_)
 ·clear ho
  obtain⟨hbad,rfl,rfl⟩:=hR
  refine su ?_
  refine Q_op fun ho=>A0o [(b,rdG 4 {x with h:=(c:Int)-48 } f,155)] [] ho B2g rfl rfl rfl rfl rfl cntA (to_x (x:={x with h:=(c:Int)-48 })) (fun x β' hR=>?_)
  clear ho
  obtain⟨rfl,rfl⟩:=hR
  refine su ?_
  refine A1o tab [(b,rdG 5 {x with h:=(c:Int)-48 } (nxV b 5),155)] .nil (Back.here cntL) ⟨rfl,5,_,?_,rfl⟩
  simp only [A6u]
  rw [if_neg hbad]
 ·clear ho
  obtain⟨hbad,rfl,xp,hxp,rfl⟩:=hR
  refine pn ?_
  refine A5p tab [] (Back.here fun p=>Nat.zero_le _) ⟨?_,Y,xp,hxp,Y⟩
  simp only [A6u]
  rw [if_pos hbad]
theorem colon_x{c:Nat}(hc:c<2^31):CallsB prog mn 194 #[.pointer (some ⟨b,0,none⟩),.int .i32 c] (StR b 3 x c) [(b,rdG 3 x f,155)] v:=by
 refine A0d tab func194 Y nB (args:=[_,_]) ?_
 refine su ?_
 by_cases h:c=58
 ·subst h
  refine su ?_
  refine Q_op fun ho=>A0o [(b,rdG 3 x f,155)] [] ho B2g Y Y Y Y Y cntA (to_x (x:=x)) (fun x β' hR=>?_)
  clear ho
  obtain⟨rfl,rfl⟩:=hR
  refine su ?_
  exact A1o tab [(b,rdG 4 x (nxV b 4),155)] .nil (Back.here cntL) ⟨Y,4,_,Y,Y⟩
 ·rw [show((c:Int) != 58)=true from by simp;omega]
  refine su ?_
  refine Q_op fun ho=>B0d ho Y Y ?_
  clear ho
  refine pn ?_
  refine A5p tab [] (Back.here fun p=>Nat.zero_le _) ⟨?_,Y,_,⟨3,Y⟩,Y⟩
  simp only [A6u]
  rw [if_neg h]
theorem more_x{c:Nat}(hc:c<2^31):CallsB prog mn 154 #[.pointer (some ⟨b,0,none⟩),.int .i32 c] (StR b 5 x c) [(b,rdG 5 x f,155)] v:=by
 refine A0d tab func154 Y nB (args:=[_,_]) ?_
 refine su ?_
 refine Q_op fun ho=>B0d ho Y Y ?_
 clear ho
 refine pn ?_
 exact A5p tab [] (Back.here fun p=>Nat.zero_le _) ⟨Y,Y,_,⟨5,Y⟩,Y⟩
theorem markR_x{c:Nat}(hc:c<2^31):CallsB prog mn 131 #[.pointer (some ⟨b,0,none⟩),.int .i32 c] (StR b 1 x c) [(b,rdG 1 x f,155)] v:=by
 refine A0d tab func131 Y nB (args:=[_,_]) ?_
 refine su ?_
 by_cases h:c=62
 ·subst h
  refine su ?_
  refine Q_op fun ho=>A0o [(b,rdG 1 {x with k:=0 } f,155)] [] ho B2g rfl rfl rfl rfl rfl cntA (to_x (x:={x with k:=0 })) (fun x β' hR=>?_)
  clear ho
  obtain⟨rfl,rfl⟩:=hR
  refine su ?_
  exact A1o tab [(b,rdG 2 {x with k:=0 } (nxV b 2),155)] .nil (Back.here cntL) ⟨rfl,2,_,rfl,rfl⟩
 ·rw [show((c:Int)==62)=false from by simp;omega]
  refine su ?_
  by_cases h2:c=33
  ·subst h2
   refine su ?_
   refine Q_op fun ho=>A0o [(b,rdG 1 {x with k:=2 } f,155)] [] ho B2g rfl rfl rfl rfl rfl cntA (to_x (x:={x with k:=2 })) (fun x β' hR=>?_)
   clear ho
   obtain⟨rfl,rfl⟩:=hR
   refine su ?_
   exact A1o tab [(b,rdG 2 {x with k:=2 } (nxV b 2),155)] .nil (Back.here cntL) ⟨rfl,2,_,rfl,rfl⟩
  ·rw [show((c:Int)==33)=false from by simp;omega]
   refine su ?_
   refine Q_op fun ho=>B0d ho Y Y ?_
   clear ho
   refine pn ?_
   refine A5p tab [] (Back.here fun p=>Nat.zero_le _) ⟨?_,Y,_,⟨1,Y⟩,Y⟩
   simp only [A6u]
   rw [if_neg h,if_neg h2]
theorem bodNx(sT:Nat):A0i prog (nxF sT):=by
 unfold nxF
 split
 ·exact bod83
 ·exact bod131
 ·exact bod155
 ·exact bod194
 ·exact bod129
 ·exact bod154
theorem step_r{sT c:Nat}(hs:sT≤5)(hc:c<2^31):CallsB prog mn (nxF sT) #[.pointer (some ⟨b,0,none⟩),.int .i32 c] (StR b sT x c) [(b,rdG sT x f,155)] v:=by
 rcases (by omega:sT=0∨sT=1∨sT=2∨sT=3∨sT=4∨sT=5)with rfl|rfl|rfl|rfl|rfl|rfl
 ·exact first_x hc
 ·exact markR_x hc
 ·exact other_x hc
 ·exact colon_x hc
 ·exact horse_x hc
 ·exact more_x hc
end
abbrev mB0:Array Value:=List.toArray [intV 0,intV 0,intV 0,intV 0]
theorem caught_x{mn:Who}:Caught3 prog mn 82 IsBad 4 1 40 31 mB0 (List.toArray [intV 2]) where
  fn:=by
    obtain⟨fn,c,h1,h2,h3⟩:=bod82
    exact⟨fn,h1,h3,by rw [h2];simp⟩
  ok:=by
    intro Stop v c fs p1 p2 hm hrun
    refine A2y (R:=Run prog mn Stop v) (ys:=[_,_]) func82 Y nB fun bf hbn hbr hbf=>?_
    have hbk:bf.kind≠.early:=by rw [hbn];simp
    refine A3i ?_
    refine A0r (l:=[0,1,2,3,4,5,6,7]) Y ?_
    intro a hf
    refine run_recN hbn hbr Y (A0m (o:=⟨some 7,.call {callee:=.builtin .recover,args:=#[],argTypes:=#[] },_,_,_,none⟩) hf Y) hm ?_
    refine run_tail (R:=fun σ u=>σ.ds=[]∧u=v) (σ:=⟨[],(7,.nilIface)::A2l 0 [.pointer (some p1),.pointer (some p2)],[]⟩) (u:=v) hbk hbr ?_ (A0x (d:=some 7) hf Y) (A4c v) (by rw [A1r];exact Le.refl _) (fun σ' u' a' hR hf' hb'=>?_)
    · refine XR_at (i:=1) (l:=[_,_,_,_,_,_,_]) Y Y ?_
      refine sw fun bx=>?_
      exact⟨Y,Y,Y⟩
    · obtain⟨h1,rfl⟩:=hR
      refine run_end (fn:=f82) hbr (hf'.defers.trans h1) hbn (by rw [hbf];exact func82) Y (.inl hm) ?_
      have:({c with mode:=.returning }:Frame)=c:=by cases c;simp only at hm;subst hm;rfl
      rw [this];exact Run.weaken hrun (A0g _ _)
  pan:=by
    intro Stop u c fs b1 b2 c1 c2 xp hX hm hs1 hs2 hbok hrun
    obtain⟨n,rfl⟩:=hX
    obtain⟨x0,x1,x2,x3,rfl⟩:∃x0 x1 x2 x3,c1=List.toArray [x0,x1,x2,x3]:=by
      obtain⟨l⟩:=c1
      match l,hs1 with
      | [x0,x1,x2,x3],_=>exact⟨x0,x1,x2,x3,rfl⟩
    obtain⟨x4,rfl⟩:∃x,c2=List.toArray [x]:=Array.size_eq_one_iff.1 hs2
    refine A2y (R:=Run prog mn Stop _) (ys:=[_,_]) func82 Y nB fun bf hbn hbr hbf=>?_
    have hbk:bf.kind≠.early:=by rw [hbn];simp
    refine A3i ?_
    refine A0r (l:=[0,1,2,3,4,5,6,7]) Y ?_
    intro a hf
    refine run_recP hbn hbr Y (A0m (o:=⟨some 7,.call {callee:=.builtin .recover,args:=#[],argTypes:=#[] },_,_,_,none⟩) hf Y) hm ?_
    refine run_tail (R:=fun σ u'=>σ.ds=[]∧u'=u∧∃rest,σ.β=rest++[(b1,mB0,40),(b2,List.toArray [intV 2],31)]) (σ:=⟨[],(7,badV n)::A2l 0 [.pointer (some ⟨b1,0,none⟩),.pointer (some ⟨b2,0,none⟩)],[(b1,List.toArray [x0,x1,x2,x3],40),(b2,List.toArray [x4],31)]⟩) (u:=u) hbk hbr ?_ (by have hp:=A0x (d:=some 7) (x:=badV n) hf rfl;exact⟨hp.size,hp.defers,hp.get⟩) hbok (Le.refl _) (fun σ' u' a' hR hf' hb'=>?_)
    · refine XR_at (i:=1) (l:=[_,_,_,_,_,_,_]) Y Y ?_
      refine sw fun bx=>?_
      exact⟨Y,Y,Y,[_],Y⟩
    · obtain⟨h1,rfl,rest,h2⟩:=hR
      refine run_end (fn:=f82) hbr (hf'.defers.trans h1) hbn (by rw [hbf];exact func82) Y (.inr ⟨_,Y⟩) ?_
      refine Run.weaken hrun ?_
      rw [h2]at hb'⊢
      exact(A5k (cntL) hb').2
structure PaS where
 i:Nat
 sT:Nat
 x:MA
section
variable{mn:Who}{v:View}{s:ByteArray}
abbrev paV(s:ByteArray):Value:=.tuple (List.toArray [(A4v s.data.toList).1.val,intV (A4v s.data.toList).2])
theorem parse_x:Ret1 prog mn 34 [.string s] (paV s) v:=by
 refine callsB_fnS3 tab caught_x func34 Y nB (args:=[_]) ?_
 refine sw fun bx=>?_;refine sw fun bx=>?_
 rename_i b2
 obtain⟨b3,rfl⟩:∃x:Nat,x=bx:=⟨bx,rfl⟩
 refine Q_op fun ho=>A_defer Y ho Y Y ?_
 clear ho
 refine sw fun bx=>?_
 obtain⟨b4,rfl⟩:∃x:Nat,x=bx:=⟨bx,rfl⟩
 refine Q_op fun ho=>A_rangeS tab ho Y Y Y Y (fun it hit=>?_)
 clear ho
 refine su ?_
 have hl0:v.Le (v.set it true (.stringIter s 0)):=fun b x hx=>A2r hx (fun e=>by subst e;rw [hit]at hx;cases hx)
 have hi0:(v.set it true (.stringIter s 0)) it=some (true,.stringIter s 0):=by unfold View.set;rw [if_pos rfl]
 refine A1q (α:=PaS) (fun z=>⟨[dcall 82 (List.toArray [.pointer (some ⟨b2,0,none⟩),.pointer (some ⟨b3,0,none⟩)])],[(15,.pointer (some ⟨it,0,none⟩)),(4,.pointer (some ⟨b4,0,none⟩)),(2,.pointer (some ⟨b2,0,none⟩)),(3,.pointer (some ⟨b3,0,none⟩))],
   [(b2,mB0,40),(b3,List.toArray [intV 0],31),(b4,rdG z.sT z.x (nxV b4 z.sT),155)]⟩)
  (fun z w=>v.Le w∧w it=some (true,.stringIter s z.i)∧z.sT≤5∧z.i≤s.size∧runR z.sT z.x (s.data.toList.drop z.i)=runR 0 ⟨0,0,0,0⟩ s.data.toList) (fun z=>s.size-z.i) ⟨0,0,⟨0,0,0,0⟩⟩ ⟨Y,rg,?_⟩ (Le.refl _) ⟨hl0,hi0,Nat.zero_le _,Nat.zero_le _,Y⟩ ?_
 ·exact(show Subm [(b2,mB0,40),(b3,List.toArray [intV 0],31),(b4,rdG 0 ⟨0,0,0,0⟩ (nxV b4 0),155)] [(b4,rdG 0 ⟨0,0,0,0⟩ (nxV b4 0),155),(b3,List.toArray [intV 0],31),(b2,mB0,40)]from cntL)
 rintro⟨i,sT,x⟩ w ⟨hw,hiw,hst,hi,hr⟩
 simp only at hiw hst hi hr
 dsimp only
 have hpan:A4v s.data.toList=(⟨0,0,0,0⟩,2)→∀{ρ:Regs} {β:A0e} {w':View} {xp:Value} {rest:A0e},ρ.get 2=some (.pointer (some ⟨b2,0,none⟩))→ρ.get 3=some (.pointer (some ⟨b3,0,none⟩))→v.Le w'→IsBad xp→(∀p,Pal.cnt p β=Pal.cnt p ([(b2,mB0,40),(b3,List.toArray [intV 0],31)]++rest))→
   FnS3 tab f34 82 IsBad 4 1 40 31 mB0 (List.toArray [intV 2]) (RetB fun r β'=>r=paV s∧β'=[]) v (.panic [⟨xp,false,false⟩]) ⟨[dcall 82 (List.toArray [.pointer (some ⟨b2,0,none⟩),.pointer (some ⟨b3,0,none⟩)])],ρ,β⟩ w':=by
  intro hp ρ β w' xp rest h2 h3 hlw hxp hs
  refine FnS3_pan tab rest [] Y hxp Y Y hs (by exact .cell h2 ib Y (.cell h3 ib Y .nil)) (Back.le hlw (fun p=>Nat.zero_le _)) ?_
  refine⟨?_,Y⟩
  unfold paV
  rw [hp];rfl
 refine su ?_
 refine Q_op fun ho=>A_nextS ho Y Y Y hiw (fun hlt=>?_) (fun hge=>?_)
 ·clear ho
  have hdr:=get_at hlt
  rw [hdr,show runR sT x (s.get! i::s.data.toList.drop (i+1))=(match A6u sT x (s.get! i).toNat with|none=>none|some (sT',x')=>runR sT' x' (s.data.toList.drop (i+1)))from rfl]at hr
  have hw2:v.Le (w.set it true (.stringIter s (i+(Utf8.decode s i).2))):=fun b y hy=>A2r (hw _ _ hy) (fun e=>by subst e;rw [hit]at hy;cases hy)
  refine su ?_
  refine Q_op fun ho=>A_callP [(b4,rdG sT x (nxV b4 sT),155)] [(b2,mB0,40),(b3,List.toArray [intV 0],31)] ho (bodNx sT) Y Y Y Y Y cntA (step_r hst decode_lt) (fun y β' hR=>?_) (fun ch β' hR=>?_)
  ·clear ho
   obtain⟨rfl,sT',x',hs',rfl⟩:=hR
   have hb:(s.get! i).toNat<128:=by
    apply Classical.byContradiction
    intro hn
    rw [stepR_big (decode_big oM)]at hs'
    cases hs'
   rw [B0m hb]at hs'⊢
   rw [hs']at hr
   refine su ?_
   refine A0b ⟨⟨i+1,sT',x'⟩,_,by simp only;omega,⟨Y,rg,cntL⟩,Le.refl _,?_,by unfold View.set;rw [if_pos rfl],(stepR_st hs').2,hlt,hr⟩
   exact fun b y hy=>A2r (hw _ _ hy) (fun e=>by subst e;rw [hit]at hy;cases hy)
  ·clear ho
   obtain⟨hs',rfl,xp,hxp,rfl⟩:=hR
   refine pn ?_
   refine hpan ?_ Y Y hw2 hxp (fun _=>rfl)
   have hn:A6u sT x (s.get! i).toNat=none:=by
    by_cases hb:(s.get! i).toNat<128
    ·rw [B0m hb]at hs';exact hs'
    ·exact stepR_big oM
   rw [hn]at hr
   unfold A4v
   rw [←hr]
 ·clear ho
  rw [drop_end hge]at hr
  rw [show runR sT x []=some (sT,x)from rfl]at hr
  refine su ?_
  by_cases h5:sT=5
  ·subst h5
   refine su ?_
   refine FnS3_ret tab [] Y (by exact .cell rfl ib rfl (.cell rfl ib rfl .nil)) (Back.le hw (fun p=>Nat.zero_le _)) ⟨?_,Y⟩
   unfold paV A4v
   rw [←hr]
   rfl
  ·rw [show((sT:Int) != 5)=true from by simp;omega]
   refine su ?_
   refine Q_op fun ho=>B0d ho Y Y ?_
   clear ho
   refine pn ?_
   refine hpan ?_ Y Y hw ⟨sT,Y⟩ (show ∀p,Pal.cnt p [(b2,mB0,40),(b3,List.toArray [intV 0],31),(b4,rdG sT x (nxV b4 sT),155)]=Pal.cnt p ([(b2,mB0,40),(b3,List.toArray [intV 0],31)]++[(b4,rdG sT x (nxV b4 sT),155)])from cntA)
   unfold A4v
   rw [←hr]
   split
   ·rename_i e;cases e;exact absurd rfl h5
   ·rfl
end
end Go.Proofs.YtclejblcnfaeaaaGreatDoor
end
section
namespace Go.Pal.To
open Go
def A3c(cur:List UInt8):List UInt8→List (List UInt8)×List UInt8
 | []=>([],cur)
 | c::r=>if c=10 then(cur::(A3c [] r).1,(A3c [] r).2)else A3c (cur++[c]) r
def cutL:List UInt8→Option (List UInt8×List UInt8)
 | []=>none
 | c::r=>if c=10 then some ([],r)else(cutL r).map fun p=>(c::p.1,p.2)
theorem A7h:∀{l:List UInt8} {cur:List UInt8},A3c cur l=match cutL l with
  | some (a,r)=>((cur++a)::(A3c [] r).1,(A3c [] r).2)
  | none=>([],cur++l)
 | [],cur=>by simp [A3c,cutL]
 | c::l,cur=>by
  rw [show A3c cur (c::l)=(if c=10 then(cur::(A3c [] l).1,(A3c [] l).2)else A3c (cur++[c]) l)from Y,show cutL (c::l)=(if c=10 then some ([],l)else(cutL l).map fun p=>(c::p.1,p.2))from rfl]
  by_cases h:c=10
  ·rw [if_pos h,if_pos h];simp only [List.append_nil]
  ·rw [if_neg h,if_neg h,A7h (l:=l) (cur:=cur++[c])]
   cases hc:cutL l with
   | none=>simp
   | some p=>simp
def actsL:List (List UInt8)→Option (List MA)
 | []=>some []
 | x::r=>if(A4v x).2=0 then(actsL r).map fun l=>(A4v x).1::l else none
def B0q(many:Nat)(out:List MA)(t:List (List UInt8)×List UInt8):List MA×Int:=
 match actsL t.1 with
 | none=>([],2)
 | some l=>if t.2≠[]then([],2)else if many+l.length > 8 then([],10)else(out++l,0)
def readL(l:List UInt8):List MA×Int:=B0q 0 [] (A3c [] l)
theorem readR_end{many:Nat}{out:List MA}:B0q many out (A3c [] [])=if many > 8 then([],10)else(out,0):=by
 simp [B0q,A3c,actsL]
theorem readR_none{many:Nat}{out:List MA}{l:List UInt8}(hl:l≠[])(h:cutL l=none):B0q many out (A3c [] l)=([],2):=by
 rw [A7h,h]
 simp [B0q,actsL,hl]
theorem readR_bad{many:Nat}{out:List MA}{l a r:List UInt8}(h:cutL l=some (a,r))(hb:(A4v a).2≠0):B0q many out (A3c [] l)=([],2):=by
 rw [A7h,h]
 simp only [B0q,List.nil_append,actsL,if_neg hb]
theorem readR_more{many:Nat}{out:List MA}{l a r:List UInt8}(h:cutL l=some (a,r))(hb:(A4v a).2=0)(hm:out.length=min many 8) :
  B0q many out (A3c [] l)=B0q (many+1) (if many<8 then out++[(A4v a).1]else out) (A3c [] r):=by
 rw [A7h,h]
 simp only [B0q,List.nil_append,actsL,if_pos hb]
 cases ha:actsL (A3c [] r).1 with
 | none=>rfl
 | some l'=>
  simp only [Option.map_some,List.length_cons]
  by_cases h1:(A3c [] r).2≠[]
  ·rw [if_pos h1,if_pos h1]
  ·rw [if_neg h1,if_neg h1]
   by_cases h2:many+1+l'.length > 8
   ·rw [if_pos oM,if_pos h2]
   ·rw [if_neg oM,if_neg h2,if_pos oM]
    simp
theorem cutL_len{l a r:List UInt8}(h:cutL l=some (a,r)):l=a++10::r:=by
 induction l generalizing a r with
 | nil=>cases h
 | cons c l ih=>
  unfold cutL at h
  by_cases h1:c=10
  ·rw [if_pos h1]at h;cases h;rw [h1];rfl
  ·rw [if_neg h1]at h
   cases hc:cutL l with
   | none=>rw [hc]at h;cases h
   | some p=>
    rw [hc]at h
    simp only [Option.map_some,Option.some.injEq,Prod.mk.injEq]at h
    obtain⟨rfl,rfl⟩:=h
    rw [ih (a:=p.1) (r:=p.2) (by rw [hc])]
    rfl
theorem cutL_find{l:List UInt8}:∀(i:Nat),(∀j,j<i→l[j]?≠some 10)→l[i]?=some 10→cutL l=some (l.take i,l.drop (i+1)):=by
 induction l with
 | nil=>intro i _ h;cases h
 | cons c l ih=>
  intro i h1 h2
  cases i with
  | zero=>
   have hc:c=10:=by simpa using h2
   unfold cutL
   rw [if_pos hc];rfl
  | succ i=>
   have hc:c≠10:=fun e=>h1 0 oM (by rw [e];rfl)
   unfold cutL
   rw [if_neg hc,ih i (fun j hj=>by simpa using h1 (j+1) oM) (by simpa using h2)]
   rfl
theorem cutL_none{l:List UInt8}(h:∀j:Nat,l[j]?≠some 10):cutL l=none:=by
 induction l with
 | nil=>rfl
 | cons c l ih=>
  have hc:c≠10:=fun e=>h 0 (by rw [e];rfl)
  unfold cutL
  rw [if_neg hc,ih fun j=>by simpa using h (j+1)]
  rfl
end Go.Pal.To
end
section
namespace Go.Pal
open Go Go.Conc View
section
variable{P:Program}{mn:Who}(T:Tab P){rd:Option Nat}{n:Nat}{Q:Exit→St→View→Prop}{ds:List Deferred}{ρ:Regs}{β:A0e}{v:View}{K:St→View→Prop}
 {ops:Array Oper}{i:Nat}{l:List Oper}{d:Nat}{ty:TypeId}{pos:String}{af:Array Edge}{gu:Option (Nat×Bool)}
include T in
theorem L_sliceS_h{t:TypeId}{y z1:Operand}{s:ByteArray}{h':Nat}{k1:IntKind}(hw:A0p ops gu ρ=some true)(hn:Nat.blt d n=true)
  (hy:ρ.val y=some (.string s))(ht:T.und t=some .string)(hhi:ρ.val z1=some (.int k1 h'))(h2:h'≤s.size)
  (h:XL P mn n ops Q l ⟨ds,(d,.string (s.extract 0 h'))::ρ,β⟩ v):XL P mn n ops Q (⟨some d,.slice t y none (some z1) none,ty,pos,af,gu⟩::l) ⟨ds,ρ,β⟩ v:=
 A4e (o:=⟨some d,.slice t y none (some z1) none,ty,pos,af,gu⟩) (x:=.string (s.extract 0 h')) (A0j hw) hn (fun ev hev _ w _=>by
  unfold execOp
  simp only [Option.map_none,Option.map_some,Instr.sliceAt,Instr.slice,Instr.sliceBounds,hev _ _ hy,hev _ _ hhi,A0a,A0h,A1k T ht]
  simp only [Option.isSome_none,Bool.false_eq_true,if_false,A0a,A0h]
  refine A7g h2 ?_
  exact⟨Le.refl _,Y⟩) h
include T in
theorem L_sliceS_l{t:TypeId}{y z0:Operand}{s:ByteArray}{l':Nat}{k0:IntKind}(hw:A0p ops gu ρ=some true)(hn:Nat.blt d n=true)
  (hy:ρ.val y=some (.string s))(ht:T.und t=some .string)(hlo:ρ.val z0=some (.int k0 l'))(h1:l'≤s.size)
  (h:XL P mn n ops Q l ⟨ds,(d,.string (s.extract l' s.size))::ρ,β⟩ v):XL P mn n ops Q (⟨some d,.slice t y (some z0) none none,ty,pos,af,gu⟩::l) ⟨ds,ρ,β⟩ v:=
 A4e (o:=⟨some d,.slice t y (some z0) none none,ty,pos,af,gu⟩) (x:=.string (s.extract l' s.size)) (A0j hw) hn (fun ev hev _ w _=>by
  unfold execOp
  simp only [Option.map_none,Option.map_some,Instr.sliceAt,Instr.slice,Instr.sliceBounds,hev _ _ hy,hev _ _ hlo,A0a,A0h,A1k T ht]
  simp only [Option.isSome_none,Bool.false_eq_true,if_false,A0a,A0h]
  refine A7g h1 ?_
  exact⟨Le.refl _,Y⟩) h
end
section
variable{P:Program}{mn:Who}{rd:Option Nat}{n:Nat}{c:Code}{Q:Exit→St→View→Prop}{ds:List Deferred}{ρ:Regs}{β:A0e}{v:View}
theorem XC_runA(h:∀(Stop:View→Goroutine→Prop) (b:Frame) (k:List Item) (cs:List Frame),b.kind≠.early→b.roundOf=rd→
   (∀{ds':List Deferred} {ρ':Regs} {β':A0e} {v':View} (its:List Item),Q .ret ⟨ds',ρ',β'⟩ v'→Bok β' v'→XG (Run P mn Stop (v'.union (A0c β'))) n b (.code .ret::its) cs ds' ρ')→
   (∀{ds':List Deferred} {ρ':Regs} {β':A0e} {v':View},Q .normal ⟨ds',ρ',β'⟩ v'→Bok β' v'→XG (Run P mn Stop (v'.union (A0c β'))) n b k cs ds' ρ')→
   XG (Run P mn Stop (v.union (A0c β))) n b (.code c::k) cs ds ρ):XC P mn rd n c Q ⟨ds,ρ,β⟩ v:=fun a hf hb Stop b k cs hk hr hq=>
 h Stop b k cs hk hr
  (fun its hx hb' a' hf'=>hq .ret a' _ ⟨_,_,hx,⟨hf'.size,hf'.defers,hf'.get⟩,hb',Le.refl _⟩ its)
  (fun hx hb' a' hf'=>hq .normal a' _ ⟨_,_,hx,⟨hf'.size,hf'.defers,hf'.get⟩,hb',Le.refl _⟩)
  a ⟨hf.size,hf.defers,hf.get⟩
end
section
variable{P:Program}{main:Bool}{R:Goroutine→Prop}[S:Sil P main R]{n:Nat}{b:Frame}{k:List Item}{cs:List Frame}{ds:List Deferred}{ρ:Regs}
include S
theorem F_goto{l:Nat}{k':List Item}(he:gotoIn l k=some k')(h:XG R n b k' cs ds ρ):XG R n b (.code (.goto l)::k) cs ds ρ:=fun a hf=>
 S.step rfl (fun w=>by simp [G,stepG,stepG.exec,Frame.on,he]) (h a hf)
end
end Go.Pal
end
section
namespace Go.Proofs.YtclejblcnfaeaaaGreatDoor
open Go Go.Pal Go.Pal.To Go.Conc View
open Go.Proofs.Tryz
open Go.Proofs.YtclejblcnfaeaaaGreatDoor.W (lexL)
set_option maxHeartbeats 4000000
set_option maxRecDepth 20000
theorem e223:Ext prog 229 f229 Extern.BytealgIndexByte.indexByte:=⟨func229,Y,Y,by kernel_rfl,kR⟩
def idxB(s:ByteArray)(c:UInt8):Int:=match (List.range s.size).find? fun i=>s[i]! == c with
 | some i=>i
 | none=>-1
section
variable{mn:Who}{v:View}{s:ByteArray}
theorem indexByte_sem{P:Program}{K:Value→View→Prop}{E:Value→View→Prop}{w:View}{c:UInt8}(h:K (intV (idxB s c)) w):SemX P (Extern.BytealgIndexByte.indexByte (List.toArray [.string s,.int .u8 c.toNat])) K E w:=by
 show SemX P ((Extern.Bytes.bytesOf (.string s)) >>= fun b=>(Extern.Bytes.asByte (.int .u8 c.toNat)) >>= fun c=>match (List.range b.size).find? fun i=>b[i]! == c with|some i=>pure (goInt i)|none=>pure (goInt (-1))) K E w
 simp only [A0a,Extern.Bytes.bytesOf,Extern.Bytes.asByte,A0h]
 have hc:((c.toNat:Int)).toNat.toUInt8=c:=by simp
 rw [hc]
 unfold idxB at h
 cases hf:(List.range s.size).find? (fun i=>s[i]! == c)with
 | none=>rw [hf]at h;exact h
 | some i=>rw [hf]at h;exact h
theorem indexByte_x{c:UInt8}:Ret1 prog mn 195 [.string s,.int .u8 c.toNat] (intV (idxB s c)) v:=by
 refine A0d tab func195 Y nB (args:=[_,_]) ?_
 refine su ?_
 refine Q_op fun ho=>A_ext ho Y Y e223 Y (fun K E w h=>indexByte_sem h) ?_
 clear ho
 refine su ?_
 refine A0f tab [] (by exact .tmp rfl .nil) (Back.here cntL) ?_
 exact⟨Y,Y⟩
theorem index_nl:Ret1 prog mn 156 [.string s,.string ⟨#[10]⟩] (intV (idxB s 10)) v:=by
 refine A0d tab func156 Y nB (args:=[_,_]) ?_
 refine su ?_
 cases hq:(({data:=#[10] }:ByteArray).toList==s.toList)with
 | true=>
  have he:s=⟨#[10]⟩:=by
   have h1:=eq_of_beq hq
   rw [ByteArray.toList_eq,ByteArray.toList_eq]at h1
   obtain⟨⟨l⟩⟩:=s
   simp only at h1
   rw [←h1]
  refine su ?_
  refine A0f tab [] (by exact .tmp rfl .nil) (Back.here cntL) ?_
  refine⟨?_,Y⟩
  rw [he]
  rfl
 | false=>
  refine su ?_
  refine Q_op fun ho=>A_byte tab ho Y Y Y Y (show(0:Int)=((0:Nat):Int)from Y) Y (s:=⟨#[10]⟩) (b:=10) Y ?_
  clear ho
  refine su ?_
  refine Q_op fun ho=>A0u ho bod195 Y Y Y Y Y (indexByte_x (c:=10)) ?_
  clear ho
  refine su ?_
  refine A0f tab [] (by exact .tmp rfl .nil) (Back.here cntL) ?_
  exact⟨Y,Y⟩
end
theorem bytes_eq{a b:ByteArray}(h:a.data.toList=b.data.toList):a=b:=by
 obtain⟨⟨l⟩⟩:=a
 obtain⟨⟨m⟩⟩:=b
 simp only at h
 rw [h]
theorem B0l{s:ByteArray}{i j:Nat}:(s.extract i j).data.toList=(s.data.toList.take j).drop i:=by
 rw [ByteArray.data_extract]
 simp [Array.toList_extract,List.extract,List.drop_take]
def cutN(s:ByteArray):ByteArray×ByteArray×Bool:=match cutL s.data.toList with
 | some (a,r)=>(⟨a.toArray⟩,⟨r.toArray⟩,true)
 | none=>(s,⟨#[]⟩,false)
theorem at_list{s:ByteArray}{i:Nat}(h:i<s.size):s.data.toList[i]?=some s[i]!:=by
 have h':i<s.data.size:=h
 rw [getElem!_pos s i h]
 simp only [Array.getElem?_toList]
 rw [Array.getElem?_eq_getElem h']
 rfl
theorem idxB_cut{s:ByteArray}:(∃i:Nat,i<s.size∧idxB s 10=i∧cutL s.data.toList=some (s.data.toList.take i,s.data.toList.drop (i+1)))∨(idxB s 10 = -1∧cutL s.data.toList=none):=by
 unfold idxB
 cases hf:(List.range s.size).find? (fun i=>s[i]! == 10)with
 | some i=>
  left
  rw [List.find?_range_eq_some]at hf
  obtain⟨h1,h2,h3⟩:=hf
  have h2:i<s.size:=List.mem_range.1 h2
  refine⟨i,h2,Y,cutL_find i (fun j hj e=>?_) ?_⟩
  ·have:=h3 j hj
   rw [at_list oM]at e
   simp only [Option.some.injEq]at e
   rw [e]at this
   simp at this
  ·rw [at_list h2,eq_of_beq h1]
 | none=>
  right
  refine⟨Y,cutL_none fun j e=>?_⟩
  have hj:j<s.size:=by
   have:=(List.getElem?_eq_some_iff.1 e).1
   simpa using this
  have:=List.find?_eq_none.1 hf j (List.mem_range.2 hj)
  rw [at_list hj]at e
  simp only [Option.some.injEq]at e
  rw [e]at this
  simp at this
section
variable{mn:Who}{v:View}{s:ByteArray}
abbrev cuV(s:ByteArray):Value:=.tuple (List.toArray [.string (cutN s).1,.string (cutN s).2.1,.bool (cutN s).2.2])
theorem cut138(hs:s.size<2^40):Ret1 prog mn 132 [.string s,.string ⟨#[10]⟩] (cuV s) v:=by
 refine A0d tab func132 Y nB (args:=[_,_]) ?_
 refine su ?_
 refine Q_op fun ho=>A0u ho bod156 Y Y Y Y Y index_nl ?_
 clear ho
 refine su ?_
 rcases idxB_cut (s:=s)with ⟨i,hi,h1,h2⟩|⟨h1,h2⟩
 ·rw [h1]
  rw [show decide ((i:Int)≥0)=true from decide_eq_true oM]
  refine su ?_
  refine lexL A1e Y kR ?_
  refine su ?_
  refine L_sliceS_h tab Y Y Y Y Y (Nat.le_of_lt hi) ?_
  refine su ?_
  rw [show IntKind.i64.wrap ((i:Int)+(((⟨#[10]⟩:ByteArray).size:Nat):Int))=((i+1:Nat):Int)from by
   rw [show(((⟨#[10]⟩:ByteArray).size:Nat):Int)=1 from rfl]
   have e:=A2d (x:=(i:Int)+1) oM oM
   rw [e];omega]
  refine L_sliceS_l tab (l':=i+1) Y Y Y Y Y hi ?_
  refine su ?_
  refine A0f tab [] (by exact .tmp rfl (.tmp rfl (.tmp rfl .nil))) (Back.here cntL) ⟨?_,Y⟩
  unfold cuV cutN
  rw [h2]
  have e1:s.extract 0 i=⟨(s.data.toList.take i).toArray⟩:=bytes_eq (by rw [B0l];simp)
  have e2:s.extract (i+1) s.size=⟨(s.data.toList.drop (i+1)).toArray⟩:=bytes_eq (by
   rw [B0l,List.take_of_length_le sM])
  rw [e1,e2]
  rfl
 ·rw [h1]
  refine su ?_
  refine A0f tab [] (by exact .tmp rfl (.tmp rfl (.tmp rfl .nil))) (Back.here cntL) ⟨?_,Y⟩
  unfold cuV cutN
  rw [h2]
  rfl
theorem cut_x(hs:s.size<2^40):Ret1 prog mn 86 [.string s,.string ⟨#[10]⟩] (cuV s) v:=by
 refine A0d tab func86 Y nB (args:=[_,_]) ?_
 refine su ?_
 refine Q_op fun ho=>A0u ho bod132 Y Y Y Y Y (cut138 hs) ?_
 clear ho
 refine su ?_
 exact A0f tab [] (by exact .tmp rfl (.tmp rfl (.tmp rfl .nil))) (Back.here cntL) ⟨Y,Y⟩
end
end Go.Proofs.YtclejblcnfaeaaaGreatDoor
end
section
namespace Go.Proofs.YtclejblcnfaeaaaGreatDoor
open Go Go.Pal Go.Pal.To Go.Conc View
open Go.Proofs.Tryz
set_option maxHeartbeats 4000000
set_option maxRecDepth 20000
noncomputable def rdSc:Code:=match f38.body with|some (.seq _ (.scope c))=>c|_=>.skip
noncomputable def rdBody:Code:=match rdSc with | .seq _ (.seq _ (.seq _ c))=>c|_=>.skip
def RdAt(s:ByteArray)(r:Value)(β':A0e):Prop:=∃a' cap,r = .tuple (List.toArray [.slice a' (readL s.data.toList).1.length cap,intV (readL s.data.toList).2])∧OwnS 40 4 β' a' (readL s.data.toList).1.length cap ((readL s.data.toList).1.map MA.cells).flatten
section
variable{mn:Who}{v:View}{s:ByteArray}
theorem rdLoop_x{Stop:View→Goroutine→Prop}{bb:Frame}{k:List Item}{fs:List Frame}(hbk:bb.kind≠.early)(hbr:bb.roundOf=none)
  (hret:∀{ds':List Deferred} {ρ':Regs} {β':A0e} {v':View} (its:List Item),FnB tab f38 (RetB (RdAt s)) v .ret ⟨ds',ρ',β'⟩ v'→Bok β' v'→XG (Run prog mn Stop (v'.union (A0c β'))) f38.ntmps bb (.code .ret::its) fs ds' ρ') :
  ∀ (m:Nat) (t:ByteArray) (many:Nat) (out:List MA) (sg:A0e) (a':Option Addr) (cap:Nat),t.size=m→t.size<2^40→many+t.size<2^41→Bok sg v→OwnS 40 4 sg a' out.length cap (out.map MA.cells).flatten→out.length=min many 8→readL s.data.toList=B0q many out (A3c [] t.data.toList)→
   XG (Run prog mn Stop (v.union (A0c sg))) f38.ntmps bb (.code rdBody::.inScope rdSc::k) fs [] [(0,.string t),(4,.slice a' out.length cap),(5,natV many)]:=by
 intro m
 induction m using Nat.strongRecOn with
 | ind m ih=>
 intro t many out sg a' cap hm ht hmt hB hS hol hr
 refine A3i ?_
 refine A3i ?_
 refine R_co hbk hB ?_
 refine su ?_
 refine A0y fun hB1=>?_
 clear hB1
 cases hq:(t.toList==({data:=#[] }:ByteArray).toList)with
 | true=>
  have he:t.data.toList=[]:=by
   have h1:=eq_of_beq hq
   rw [ByteArray.toList_eq,ByteArray.toList_eq]at h1
   exact h1
  rw [he,readR_end]at hr
  refine A7x Y ?_
  refine A3i ?_
  refine A3i ?_
  refine R_co hbk hB ?_
  refine su ?_
  refine A0y fun hB1=>?_
  clear hB1
  by_cases h8:many > 8
  ·rw [if_pos h8]at hr
   rw [show decide ((many:Int) > 8)=true from decide_eq_true oM]
   refine A7x Y ?_
   refine A3i ?_
   refine R_co hbk hB ?_
   refine su ?_
   refine A0y fun hB1=>?_
   refine hret _ (A0f tab [] (by exact .tmp rfl (.tmp rfl .nil)) (Back.here fun p=>Nat.zero_le _) ⟨none,0,?_,?_⟩) hB1
   ·rw [hr];rfl
   ·rw [hr];exact .nil
  ·rw [if_neg h8]at hr
   rw [show decide ((many:Int) > 8)=false from decide_eq_false oM]
   refine B0a Y ?_
   refine B2p ?_
   refine A3i ?_
   refine R_co hbk hB ?_
   refine su ?_
   refine A0y fun hB1=>?_
   refine hret _ (A0f tab sg (by exact .tmp rfl (.tmp rfl .nil)) (Back.here fun p=>Nat.le_refl _) ⟨a',cap,?_,?_⟩) hB1
   ·rw [hr];rfl
   ·rw [hr];exact hS
 | false=>
  have hne:t.data.toList≠[]:=fun e=>by
   rw [ByteArray.toList_eq,ByteArray.toList_eq,e]at hq
   cases hq
  refine B0a Y ?_
  refine B2p ?_
  refine A3i ?_
  refine R_co hbk hB ?_
  refine su ?_
  cases hc:cutL t.data.toList with
  | none=>
   rw [readR_none hne hc]at hr
   have hcx:∀{u:View},Ret1 prog mn 86 [.string t,.string ⟨#[10]⟩] (.tuple (List.toArray [.string t,.string ⟨#[]⟩,.bool false])) u:=fun {u}=>by
    have h1:=cut_x (mn:=mn) (v:=u) ht
    unfold cuV cutN at h1
    rw [hc]at h1
    exact h1
   refine Q_op fun ho=>A0u ho bod86 Y Y Y Y Y hcx ?_
   clear ho
   refine su ?_
   refine A0y fun hB1=>?_
   refine A3i ?_
   refine R_co hbk hB1 ?_
   refine su ?_
   refine Q_op fun ho=>A0u ho bod34 Y Y Y Y Y (parse_x (s:=t)) ?_
   clear ho
   refine sw fun bx=>?_
   refine A0y fun hB2=>?_
   refine A3i ?_
   refine A3i ?_
   refine R_co hbk hB2 ?_
   refine su ?_
   refine A0y fun hB3=>?_
   refine A7x Y ?_
   refine A3i ?_
   refine R_co hbk hB3 ?_
   refine su ?_
   refine A0y fun hB4=>?_
   refine hret _ (A0f tab [] (by exact .tmp rfl (.tmp rfl .nil)) (Back.here fun p=>Nat.zero_le _) ⟨none,0,?_,?_⟩) hB4
   ·rw [hr];rfl
   ·rw [hr];exact .nil
  | some p=>
   obtain⟨al,rl⟩:=p
   have hlen:=congrArg List.length (cutL_len hc)
   simp only [List.length_append,List.length_cons]at hlen
   have hts:t.data.toList.length=t.size:=by simp
   have hcx:∀{u:View},Ret1 prog mn 86 [.string t,.string ⟨#[10]⟩] (.tuple (List.toArray [.string ⟨al.toArray⟩,.string ⟨rl.toArray⟩,.bool true])) u:=fun {u}=>by
    have h1:=cut_x (mn:=mn) (v:=u) ht
    unfold cuV cutN at h1
    rw [hc]at h1
    exact h1
   have hpx:∀{u:View},Ret1 prog mn 34 [.string ⟨al.toArray⟩] (.tuple (List.toArray [(A4v al).1.val,intV (A4v al).2])) u:=fun {u}=>by
    have h1:=parse_x (mn:=mn) (v:=u) (s:=⟨al.toArray⟩)
    unfold paV at h1
    simp only [List.toList_toArray]at h1
    exact h1
   obtain⟨y0,hy0⟩:∃y,y=(A4v al).1:=⟨_,rfl⟩
   obtain⟨e0,he0⟩:∃y,y=(A4v al).2:=⟨_,rfl⟩
   rw [←hy0,←he0]at hpx
   have hrs:(⟨rl.toArray⟩:ByteArray).size=rl.length:=by simp [ByteArray.size]
   refine Q_op fun ho=>A0u ho bod86 Y Y Y Y Y hcx ?_
   clear ho
   refine su ?_
   refine A0y fun hB1=>?_
   refine A3i ?_
   refine R_co hbk hB1 ?_
   refine su ?_
   refine Q_op fun ho=>A0u ho bod34 Y Y Y Y Y hpx ?_
   clear ho
   refine sw fun bx=>?_
   refine A0y fun hB2=>?_
   refine A3i ?_
   refine A3i ?_
   refine R_co hbk hB2 ?_
   refine su ?_
   refine A0y fun hB3=>?_
   by_cases hp:e0=0
   ·subst hp
    rw [readR_more hc he0.symm hol,←hy0]at hr
    refine B0a Y ?_
    refine B2p ?_
    refine A3i ?_
    refine A3i ?_
    refine R_co hbk hB3 ?_
    refine su ?_
    refine A0y fun hB4=>?_
    have hgo:∀{ρ:Regs} {β' sg':A0e} {a'':Option Addr} {cap':Nat} {out':List MA},ρ.get 5=some (natV many)→ρ.get 7=some (.string ⟨rl.toArray⟩)→ρ.get 4=some (.slice a'' out'.length cap')→Bok β' v→Subm sg' β'→OwnS 40 4 sg' a'' out'.length cap' (out'.map MA.cells).flatten→out'.length=min (many+1) 8→readL s.data.toList=B0q (many+1) out' (A3c [] rl)→
      XG (Run prog mn Stop (v.union (A0c β'))) f38.ntmps bb (.code (match rdBody with | .seq _ (.seq _ (.seq _ (.seq _ (.seq _ c))))=>c|_=>.skip)::.inScope rdSc::k) fs [] ρ:=by
     intro ρ β' sg' a'' cap' out' g5 g7 g4 hB' hsub hS' hol' hr'
     obtain⟨hB'',_⟩:=A5k hsub hB'
     refine fun ac hf=>Abs.drop hsub hB' ?_
     refine(?_:XG (Run prog mn Stop (v.union (A0c sg'))) f38.ntmps bb _ fs [] [(5,natV many),(7,.string ⟨rl.toArray⟩),(4,.slice a'' out'.length cap')]) ac ⟨hf.size,hf.defers,fun t x hx=>hf.get t x (Mu.rin_get (by exact⟨g5,g7,g4,trivial⟩) t x hx)⟩
     refine A3i ?_
     refine R_co hbk hB'' ?_
     refine su ?_
     refine A0y fun _=>?_
     refine A3i ?_
     refine R_co hbk hB'' ?_
     refine su ?_
     refine A0y fun _=>?_
     refine F_goto Y ?_
     refine A3i ?_
     refine B2p ?_
     refine Mu.F_in _ (ih _ (by rw [hrs];omega) ⟨rl.toArray⟩ (many+1) out' sg' a'' cap' Y (by rw [hrs];omega) (by rw [hrs];omega) hB'' hS' hol' (by simpa using hr')) rg
    by_cases h8:many<8
    ·rw [if_pos h8]at hr
     rw [show decide ((many:Int)<8)=true from decide_eq_true oM]
     refine A7x Y ?_
     refine R_co hbk hB4 ?_
     refine su ?_
     refine Q_op fun ho=>A3w tab ho Y Y Y Y Y Y Y Y Y (fun b3 c3 hL=>?_)
     clear ho
     refine Q_op fun ho=>A3x tab (xs:=y0.cells) sg [(b3,c3,40)] [(bx,y0.cells.toArray,40)] ho Y Y Y Y Y Y Y Y Y Y (show ∀p,Pal.cnt p ((b3,c3,40)::(bx,y0.cells.toArray,40)::sg)=Pal.cnt p (sg++([(b3,c3,40)]++[(bx,y0.cells.toArray,40)]))from cntA) hS
      (fun hb=>RowAt.own hb cntL hL) Y Y (by show(2*(out.length+1)+768)*32≤2^48;omega) oM (fun sg' a'' cap' hS'=>?_)
     clear ho
     refine su ?_
     refine A0y fun hB5=>?_
     have hB5:Bok (sg'++[(bx,y0.cells.toArray,40)]) v:=hB5
     refine hgo (sg':=sg') (out':=out++[y0]) (a'':=a'') (cap':=cap') Y Y (by rw [List.length_append];rfl) hB5 (show Subm sg' (sg'++[(bx,y0.cells.toArray,40)])from cntL) ?_ (by rw [List.length_append,hol,List.length_singleton];omega) hr
     rw [List.length_append,List.map_append,List.flatten_append]
     simpa using hS'
    ·rw [if_neg h8]at hr
     rw [show decide ((many:Int)<8)=false from decide_eq_false oM]
     refine B0a Y ?_
     refine B2p ?_
     have hB5:Bok ((bx,y0.cells.toArray,40)::sg) v:=hB4
     exact hgo (sg':=sg) (out':=out) (a'':=a') (cap':=cap) Y Y Y hB5 (show Subm sg ((bx,y0.cells.toArray,40)::sg)from cntL) hS (by rw [hol];omega) hr
   ·rw [readR_bad hc (by rw [←he0];exact hp)]at hr
    rw [show(e0 != 0)=true from by simpa using hp]
    refine A7x Y ?_
    refine A3i ?_
    refine R_co hbk hB3 ?_
    refine su ?_
    refine A0y fun hB4=>?_
    refine hret _ (A0f tab [] (by exact .tmp rfl (.tmp rfl .nil)) (Back.here fun p=>Nat.zero_le _) ⟨none,0,?_,?_⟩) hB4
    ·rw [hr];rfl
    ·rw [hr];exact .nil
end
theorem read_x{mn:Who}{v:View}{s:ByteArray}(hs:s.size<2^40):CallsB prog mn 38 #[.string s] (RetB (RdAt s)) [] v:=by
 refine A0d tab func38 Y nB (args:=[_]) ?_
 refine A4i ?_
 refine A7o ?_
 refine B2o tab Y Y Y ?_
 refine B2o tab Y Y Y ?_
 refine Q_nil ?_
 refine A4d ?_
 refine XC_runA fun Stop bb k fs hbk hbr hret hnor=>?_
 refine F_scope ?_
 refine A3i ?_
 refine R_co hbk (A4c _) ?_
 refine su ?_
 refine A0y fun _=>?_
 refine A3i ?_
 refine R_co hbk (A4c _) ?_
 refine su ?_
 refine A0y fun _=>?_
 refine A3i ?_
 refine F_label ?_
 exact Mu.F_in _ (rdLoop_x hbk hbr hret _ s 0 [] [] none 0 Y hs oM (A4c _) .nil Y Y) rg
end Go.Proofs.YtclejblcnfaeaaaGreatDoor
end
