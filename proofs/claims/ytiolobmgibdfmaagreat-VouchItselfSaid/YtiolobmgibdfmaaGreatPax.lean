/- Part 24 of the way to: the laws of the vouchers -/
import Derived.Test.YtiolobmgibdfmaaGreatPak
import Derived.Test.YtiolobmgibdfmaaGreatPat
import Derived.Test.YtiolobmgibdfmaaGreatPau
import Derived.Test.YtiolobmgibdfmaaGreatPaw
set_option linter.unusedVariables false
set_option linter.unusedSimpArgs false
section
namespace Go.Proofs.YtiolobmgibdfmaaGreat
open Go Go.Pal Go.Pal.Mu Go.Pal.Vo Go.Conc View
open Go.Proofs.Tryz
set_option maxHeartbeats 4000000
section
variable{v:View}
noncomputable def wsMid:Code:=match f80.body with
  | some c=>nthS 7 c
  | none=>.skip
theorem join_x{P F:Nat}{wa sa:Option Addr}{wc cp m r bb bal bca be bc bm bw:Nat}{seg:A0j}{V1:View}{ws:List Wd}(hP:P≤4)(hF:F≤3)(hws:WdsAt v wa ws)(hx:∀x∈ws,Fit x)(hwl:ws.length<2^30)
    (hm0:v m=none)(hvr:v r=none)(hmr:m≠r)(hVm:V1 m=some (true,mapO wlV (A4i P F (2 ^ P*2 ^ F)) (2 ^ P*2 ^ F)))(hVr:V1 r=some (true,.deferred (some [])))(hVv:v.Le V1)
    (hrow:OwnS 102 2 seg sa (2 ^ P*2 ^ F) cp (wsC (A2a P F))) :
    XC prog ⟨true,true⟩ none f80.ntmps wsMid (FnM tab f80 (RetB fun x β'=>∃a cap,x = .slice a (A0g P F ws).length cap∧OwnS 102 2 β' a (A0g P F ws).length cap (wsC (A0g P F ws))) v)
      ⟨[{target:=.collected r,args:=#[] }],[(8,.pointer (some ⟨bw,0,none⟩)),(7,.pointer (some ⟨bm,0,none⟩)),(6,.pointer (some ⟨bc,0,none⟩)),(3,.pointer (some ⟨bal,0,none⟩)),(4,.pointer (some ⟨bca,0,none⟩)),(1,.pointer (some ⟨bb,0,none⟩))],
        (bw,(Value.agg #[.int .u64 0,.int .u32 0]).cells,161)::(bm,(Value.agg #[.int .i32 0,.int .u32 0]).cells,157)::(bc,(Value.agg #[.int .i64 0]).cells,151)::([(bal,#[.slice sa (2 ^ P*2 ^ F) cp],93),(bca,#[.map (some m)],143),(bb,(boV P F wa ws.length wc).cells,95),(be,(boV P F wa ws.length wc).cells,95)]++seg)⟩ V1:=by
  have hp1:2 ^ P≤2^4:=Nat.pow_le_pow_right dM hP
  have hp2:2 ^ F≤2^3:=Nat.pow_le_pow_right dM hF
  have hn128:2 ^ P*2 ^ F≤2^4*2^3:=Nat.mul_le_mul hp1 hp2
  obtain⟨A,hA⟩:∃A:Par,A={J:=4,N:=2 ^ P*2 ^ F,keep:=keepW P F ws,Mu:=bm,Wg:=bw,Cn:=bc,Cm:=m,tM:=157,tW:=161,tC:=151,con:=conW P F,J1:=by decide,J2:=by decide }:=⟨_,rfl⟩
  obtain⟨β,hβ⟩:∃β:A0j,β=(bw,#[.int .u64 0,.int .u32 0],161)::(bm,#[.int .i32 0,.int .u32 0],157)::(bc,#[.int .i64 0],151)::(bal,#[.slice sa (2 ^ P*2 ^ F) cp],93)::(bca,#[.map (some m)],143)::(bb,(boV P F wa ws.length wc).cells,95)::seg:=⟨_,rfl⟩
  refine XC_sub (τ:=⟨[{target:=.collected r,args:=#[] }],wsIn A (.pointer (some ⟨bal,0,none⟩)) (.pointer (some ⟨bb,0,none⟩)) (.pointer (some ⟨bca,0,none⟩)),β⟩) (u:=V1) ?_ ⟨rfl,(by subst hA;exact⟨rfl,rfl,rfl,rfl,rfl,rfl,trivial⟩),?_⟩ (Le.refl _)
  rotate_left
  · subst hβ
    exact(show Subm ((bw,#[.int .u64 0,.int .u32 0],161)::(bm,#[.int .i32 0,.int .u32 0],157)::(bc,#[.int .i64 0],151)::(bal,#[.slice sa (2 ^ P*2 ^ F) cp],93)::(bca,#[.map (some m)],143)::(bb,(boV P F wa ws.length wc).cells,95)::seg)
      ((bw,#[.int .u64 0,.int .u32 0],161)::(bm,#[.int .i32 0,.int .u32 0],157)::(bc,#[.int .i64 0],151)::([(bal,#[.slice sa (2 ^ P*2 ^ F) cp],93),(bca,#[.map (some m)],143),(bb,(boV P F wa ws.length wc).cells,95),(be,(boV P F wa ws.length wc).cells,95)]++seg))from cntL)
  intro act hfit hb
  have i1:InB bw #[.int .u64 0,.int .u32 0] 161 β:=by subst hβ;exact .head
  have i2:InB bm #[.int .i32 0,.int .u32 0] 157 β:=by subst hβ;exact .tail .head
  have i3:InB bc #[.int .i64 0] 151 β:=by subst hβ;exact .tail (.tail .head)
  have i4:InB bal #[.slice sa (2 ^ P*2 ^ F) cp] 93 β:=by subst hβ;exact .tail (.tail (.tail .head))
  have i5:InB bca #[.map (some m)] 143 β:=by subst hβ;exact .tail (.tail (.tail (.tail .head)))
  have i6:InB bb (boV P F wa ws.length wc).cells 95 β:=by subst hβ;exact .tail (.tail (.tail (.tail (.tail .head))))
  have hVn:∀{b c t},InB b c t β→V1 b=none:=fun hin=>(hb.disj _).resolve_right (by rw [A3p hb.nodup hin.mem];simp)
  have hmn:∀{b c t},InB b c t β→m≠b:=fun hin e=>by have:=hVn hin;rw [←e,hVm]at this;cases this
  have hnd:=hb.nodup
  have hseg:Subm seg β:=by subst hβ;exact cntL
  have hsle:=(A8q hseg hb.nodup).2
  have hsub2:Subm [(bca,#[.map (some m)],143),(bb,(boV P F wa ws.length wc).cells,95)] β:=by subst hβ;exact cntL
  have hms:A0e seg m=none:=by
    cases e:A0e seg m with
    | none=>rfl
    | some y=>have:=hsle _ _ e;rw [A4e hb hVm]at this;cases this
  rw [hβ]at hnd
  simp only [List.map_cons,List.nodup_cons,List.mem_cons,not_or]at hnd
  obtain⟨⟨d1,d2,d3,d4,d5,d6⟩,⟨d7,d8,d9,d10,d11⟩,⟨d12,d13,d14,d15⟩,_⟩:=hnd
  have D:Dist A:=by
    subst hA
    exact⟨fun e=>d1 e.symm,d7,fun e=>hmn i2 e.symm,d2,fun e=>hmn i1 e.symm,fun e=>hmn i3 e.symm,by show 2 ^ P*2 ^ F≤2^62;omega⟩
  have hseg4:∀b y,A0e seg b=some y→¬(b=bm∨b=bw∨b=bc∨b=m):=by
    rintro b y hy (rfl|rfl|rfl|rfl)
    · exact d11 (A5a hy)
    · exact d6 (A5a hy)
    · exact d15 (A5a hy)
    · rw [hms]at hy;cases hy
  have hv4:∀b y,v b=some y→¬(b=bm∨b=bw∨b=bc∨b=m):=by
    rintro b y hy (rfl|rfl|rfl|rfl)
    · have:=hVv _ _ hy;rw [hVn i2]at this;cases this
    · have:=hVv _ _ hy;rw [hVn i1]at this;cases this
    · have:=hVv _ _ hy;rw [hVn i3]at this;cases this
    · rw [hm0]at hy;cases hy
  have hdo:Deeds A (A6t A (V1.union (A0e β))) (.pointer (some ⟨bal,0,none⟩)) (.pointer (some ⟨bb,0,none⟩)) (.pointer (some ⟨bca,0,none⟩)):=by
    subst hA
    refine deeds_x hP hF rfl (fun t w hw=>?_) rfl (B0k (A1f hb i4) ?_) (B0k (A1f hb i6) ?_) (B0k (A1f hb i5) ?_) (row_keep hrow.row fun b y hy=>⟨A1u hb.disj _ _ (hsle _ _ hy),hseg4 b y hy⟩) (row_keep hws fun b y hy=>⟨A1p (hVv _ _ hy),hv4 b y hy⟩) hx hwl keepV_cm
    · show keepW P F ws t=_
      unfold keepW;rw [hw]
    · rintro(e|e|e|e)
      · exact d8 e.symm
      · exact d3 e.symm
      · exact d12 e.symm
      · exact hmn i4 e.symm
    · rintro(e|e|e|e)
      · exact d10 e.symm
      · exact d5 e.symm
      · exact d14 e.symm
      · exact hmn i6 e.symm
    · rintro(e|e|e|e)
      · exact d9 e.symm
      · exact d4 e.symm
      · exact d13 e.symm
      · exact hmn i5 e.symm
  subst hA
  refine ws_XC (body:=wsBody) (rest:=wsTail) D rfl (A1f hb i2) (A1f hb i1) (A1f hb i3) ((A1p hVm).trans ?_) hdo rfl ?_ rfl rfl rfl (fun L hL1 hL2=>?_) act hfit hb
  · show _=some (true,mapO wlV (leftW P F []) (2 ^ P*2 ^ F))
    rw [left_nil]
  · repeat (first|refine sr ?_|refine qb fun bx=>?_)
    exact⟨rfl,rfl,rfl⟩
  · obtain⟨k1,k2⟩:=Back.here (v:=V1) hsub2 hb
    refine⟨V1.set m true (conW P F L),[(bca,#[.map (some m)],143),(bb,(boV P F wa ws.length wc).cells,95)],(A4r k1 (A4e k1 hVm)).1,fun b y hy=>?_,?_⟩
    · by_cases e:b=m
      · subst e
        left
        rw [A1p A5g]at hy
        exact⟨rfl,(Option.some.inj hy).symm⟩
      · right
        have hy':(V1.union (A0e [(bca,#[.map (some m)],143),(bb,(boV P F wa ws.length wc).cells,95)])) b=some y:=by
          unfold View.union at hy⊢
          rw [A2v e]at hy
          exact hy
        refine⟨?_,k2 _ _ hy'⟩
        have hno:∀{c t},InB b c t β→b≠bca→b≠bb→False:=fun hin h1 h2=>by
          unfold View.union at hy'
          rw [hVn hin,A8r (by simp [h1,h2])]at hy'
          cases hy'
        rintro(e'|e'|e'|e')
        · subst e';exact hno i2 d9 d10
        · subst e';exact hno i1 d4 d5
        · subst e';exact hno i3 d13 d14
        · exact e e'
    · refine XC_sub (τ:=⟨[{target:=.collected r,args:=#[] }],[(1,.pointer (some ⟨bb,0,none⟩)),(4,.pointer (some ⟨bca,0,none⟩))],[(bca,#[.map (some m)],143),(bb,(boV P F wa ws.length wc).cells,95)]⟩) (u:=V1.set m true (conW P F L))
        (tail_x hP hF (fun b y hy=>?_) hvr ?_ (A5g (o:=mapO wlV (leftW P F L) (2 ^ P*2 ^ F))) (left_keys P F L) (left_born P F L) (fun e he=>left_lt he) (left_mem hL1 hL2) (left_len hP hF L)) ⟨rfl,⟨rfl,rfl,trivial⟩,fun _=>Nat.le_refl _⟩ (Le.refl _)
      · rw [A2v (fun e=>by rw [e,hm0]at hy;cases hy)]
        exact hVv _ _ hy
      · rw [A2v (fun e=>hmr e.symm)];exact hVr
theorem worlds_x{P F:Nat}{wa:Option Addr}{wc:Nat}{ws:List Wd}(hP:P≤4)(hF:F≤3)(hws:WdsAt v wa ws)(hx:∀x∈ws,Fit x)(hwl:ws.length<2^30) :
    CallsB prog ⟨true,true⟩ 80 #[boV P F wa ws.length wc] (RetB fun x β'=>∃a cap,x = .slice a (A0g P F ws).length cap∧OwnS 102 2 β' a (A0g P F ws).length cap (wsC (A0g P F ws))) [] v:=by
  refine callsB_fnM tab func80 rfl nB (args:=[_]) ?_
  repeat (first|refine sr ?_|refine qb fun bx=>?_)
  rename_i bb
  refine Q_op fun ho=>A_makeMap (val:=wlV) ho rfl rfl (fun m hm0=>?_)
  clear ho
  repeat (first|refine sr ?_|refine qb fun bx=>?_)
  rename_i bal
  refine A5o ?_
  repeat (first|refine sr ?_|refine qb fun bx=>?_)
  refine Q_op fun ho=>A0i [] _ ho bod129 rfl rfl rfl rfl rfl A1n (every_x) (fun x β' hR=>?_)
  clear ho
  obtain⟨be,rfl,rfl⟩:=hR
  repeat (first|refine sr ?_|refine qb fun bx=>?_)
  refine XC_rangeFunc rfl bod149 (fun act r l fnId hfit hbok hr0 hl0 hrl hbr hbl=>?_)
  have hmr:m≠r:=fun e=>by rw [←e,A5g]at hr0;cases hr0
  have hml:m≠l:=fun e=>by rw [←e,A5g]at hl0;cases hl0
  have hp1:2 ^ P≤2^4:=Nat.pow_le_pow_right dM hP
  have hp2:2 ^ F≤2^3:=Nat.pow_le_pow_right dM hF
  have hn128:2 ^ P*2 ^ F≤2^4*2^3:=Nat.mul_le_mul hp1 hp2
  obtain⟨H,hH⟩:∃H:WH,H=⟨P,F,wa,ws.length,wc,bal,bx,bb,be,m,r,l⟩:=⟨_,rfl⟩
  obtain⟨lp,hlp⟩:∃lp:Loop,lp={state:=.ready,pending:=none,fn:=fnId,tmps:=act.tmps,params:=#[14],assign:=rfA,body:=rfB,defers:=r }:=⟨_,rfl⟩
  have hbk0:Bok [(be,(boV P F wa ws.length wc).cells,95),(bx,#[.map (some m)],143),(bal,#[.slice none 0 0],93),(bb,(boV P F wa ws.length wc).cells,95)] (H.view v lp 0):=by
    subst hH hlp
    exact(A4r (A4r hbok hbr).1 hbl).1
  have h0:H.I v lp 0 ((H.view v lp 0).union (A0e [(be,(boV P F wa ws.length wc).cells,95),(bx,#[.map (some m)],143),(bal,#[.slice none 0 0],93),(bb,(boV P F wa ws.length wc).cells,95)])):=by
    obtain⟨k1,k2⟩:=Back.here (β':=H.box none 0 0++[]) (by subst hH;exact(show Subm [(bal,#[.slice none 0 0],93),(bx,#[.map (some m)],143),(bb,(boV P F wa ws.length wc).cells,95),(be,(boV P F wa ws.length wc).cells,95)] [(be,(boV P F wa ws.length wc).cells,95),(bx,#[.map (some m)],143),(bal,#[.slice none 0 0],93),(bb,(boV P F wa ws.length wc).cells,95)]from cntL)) hbk0
    exact⟨[],none,0,k1,.nil,k2⟩
  have hcall:CallsX prog ⟨true,true⟩ 149 #[.func (.yield l) #[] #[],.pointer (some ⟨be,0,none⟩)] (fun e u=>e = .ret (.tuple #[])∧H.I v lp (2 ^ P*2 ^ F) u) ((H.view v lp 0).union (A0e [(be,(boV P F wa ws.length wc).cells,95),(bx,#[.map (some m)],143),(bal,#[.slice none 0 0],93),(bb,(boV P F wa ws.length wc).cells,95)])):=by
    refine every1_x (P:=P) (F:=F) (a:=wa) (n:=ws.length) (cap:=wc) (I:=H.I v lp) oM oM (fun k u hI=>?_) (fun t s u ht hs hI=>?_) h0
    · obtain⟨seg,sa,cp,hbk,hS,hle⟩:=hI
      subst hH
      refine⟨true,95,(0,0),hle _ _ (A1f hbk ?_)⟩
      unfold WH.box
      exact .tail (.tail (.tail .head))
    · subst hH
      subst hlp
      exact round_x hP hF hmr hml hrl rfl rfl rfl rfl rfl hfit.size (hfit.get 3 _ rfl) (hfit.get 4 _ rfl) ht hs hI
  refine CallsX.mono (v:=((⟨P,F,wa,ws.length,wc,bal,bx,bb,be,m,r,l⟩:WH).view v {state:=.ready,pending:=none,fn:=fnId,tmps:=act.tmps,params:=#[14],assign:=rfA,body:=rfB,defers:=r } 0).union (A0e [(be,(boV P F wa ws.length wc).cells,95),(bx,#[.map (some m)],143),(bal,#[.slice none 0 0],93),(bb,(boV P F wa ws.length wc).cells,95)])) (R:=fun e u=>e = .ret (.tuple #[])∧H.I v lp (2 ^ P*2 ^ F) u) (by rw [←hH,←hlp];exact hcall) fun e u hR=>⟨u,Le.refl _,?_⟩
  clear hcall h0 hbk0
  obtain⟨rfl,seg,sa,cp,hbk,hS,hle⟩:=hR
  have hl1:(H.view v lp (2 ^ P*2 ^ F)) l=some (true,.loop lp):=by subst hH;exact A5g
  have hlf:=A4e hbk hl1
  obtain⟨q1,q2⟩:=A4r (p:=true) (o:=.loop {lp with state:=.exhausted }) hbk hlf
  refine⟨.tuple #[],lp,rfl,hle _ _ (A1p hl1),by subst hlp;exact nofun,by subst hlp;rfl,⟨[{target:=.collected r,args:=#[] }],[(3,.pointer (some ⟨bal,0,none⟩)),(4,.pointer (some ⟨bx,0,none⟩)),(1,.pointer (some ⟨bb,0,none⟩))],H.box sa (2 ^ P*2 ^ F) cp++seg⟩,(H.view v lp (2 ^ P*2 ^ F)).set l true (.loop {lp with state:=.exhausted }),?_,rfl,⟨rfl,rfl,rfl,trivial⟩,q1,?_⟩
  · clear hle q1 q2 hlf hl1 hbok hfit hbr hbl
    have hvr:v r=none:=by rw [A2v (fun e=>hmr e.symm)]at hr0;exact hr0
    have hvl:v l=none:=by rw [A2v (fun e=>hml e.symm)]at hl0;exact hl0
    generalize ({lp with state:=.exhausted }:Loop)=lpx
    generalize hV1:(H.view v lp (2 ^ P*2 ^ F)).set l true (.loop lpx)=V1
    subst hH
    have hVm:V1 m=some (true,mapO wlV (A4i P F (2 ^ P*2 ^ F)) (2 ^ P*2 ^ F)):=by
      rw [←hV1,A2v hml]
      unfold WH.view
      rw [A2v hml,A2v hmr,A5g]
    have hVr:V1 r=some (true,.deferred (some [])):=by
      rw [←hV1,A2v hrl]
      unfold WH.view
      rw [A2v hrl,A5g]
    have hVv:v.Le V1:=fun b y hb=>by
      rw [←hV1,A2v (fun e=>by rw [e,hvl]at hb;cases hb)]
      unfold WH.view
      rw [A2v (fun e=>by rw [e,hvl]at hb;cases hb),A2v (fun e=>by rw [e,hvr]at hb;cases hb),A2v (fun e=>by rw [e,hm0]at hb;cases hb)]
      exact hb
    have hrow:=hS
    rw [List.take_of_length_le (by rw [A3w];exact Nat.le_refl _)]at hrow
    clear hV1 hlp hS hbk
    unfold WH.box
    dsimp only
    dsimp only at hrow
    repeat (first|refine sr ?_|refine qb fun bx=>?_)
    rename_i bca bc bm
    exact join_x hP hF hws hx hwl hm0 hvr hmr hVm hVr hVv hrow
  · rw [←q2]
    intro b y hb
    unfold View.set at hb⊢
    split
    · rename_i e;rw [if_pos e]at hb;exact hb
    · rename_i e;rw [if_neg e]at hb;exact hle _ _ hb
end
end Go.Proofs.YtiolobmgibdfmaaGreat
end
section
namespace Go.Proofs.YtiolobmgibdfmaaGreat
open Go Go.Pal Go.Pal.Vo Go.Conc View
open Go.Proofs.Tryz
set_option maxHeartbeats 4000000
section
variable{v:View}
def OwnWs(β:A0j)(x:Value)(l:List Wl):Prop:=∃a cap,x = .slice a l.length cap∧OwnS 102 2 β a l.length cap (wsC l)
abbrev panV(k:Int):Pal.End:=.pan [⟨.iface 141 (.int .i64 k),false,false⟩]
theorem some_x{P F:Nat}{wa:Option Addr}{wc:Nat}{ws:List Wd}(hP:P≤4)(hF:F≤3)(hws:WdsAt v wa ws)(hx:∀x∈ws,Fit x)(hwl:ws.length<2^30) :
    CallsB prog ⟨true,true⟩ 83 #[boV P F wa ws.length wc] (fun e β'=>if A0g P F ws=[]then e=panV 11∧β'=[]else ∃x,e = .ret x∧OwnWs β' x (A0g P F ws)) [] v:=by
  refine A0f tab func83 rfl nB (args:=[_]) ?_
  repeat (first|refine st ?_|refine qb fun bx=>?_)
  refine Q_op fun ho=>A0i [] _ ho bod80 rfl rfl rfl rfl rfl A1n (worlds_x hP hF (hws.le (A0b _ _)) hx hwl) (fun x β' hR=>?_)
  clear ho
  obtain⟨a,cap,rfl,hS⟩:=hR
  rename A0j=>βw
  repeat (first|refine st ?_|refine qb fun bx=>?_)
  refine Q_op fun ho=>A7s [] _ ho rfl rfl rfl rfl bod92 (fun _=>rfl) B3d (fun x β' hR=>?_) (fun ch β' hR=>?_)
  · clear ho
    obtain⟨rfl,hR⟩:=hR
    have hne:A0g P F ws≠[]:=fun e=>by rw [e]at hR;cases hR
    repeat (first|refine st ?_|refine qb fun bx=>?_)
    refine A0l tab βw (by exact .tmp rfl .nil) (Back.here (show Subm βw (βw++[(bx,(boV P F wa ws.length wc).cells,95)])from cntL)) ?_
    rw [if_neg hne]
    exact⟨_,rfl,a,cap,rfl,hS⟩
  · obtain⟨rfl,hR⟩:=hR
    have he:A0g P F ws=[]:=by
      cases hw:A0g P F ws with
      | nil=>rfl
      | cons w l=>
        rw [hw,if_pos sM]at hR
        cases hR
    rw [he,if_neg sM]at hR
    injection hR with hR
    subst hR
    refine pn ?_
    refine A1k tab [] (Back.here cntL) ?_
    rw [if_pos he]
    exact⟨rfl,rfl⟩
end
section
variable{mn:Who}{v:View}
def OwnT(β:A0j)(r:Value)(w:Wl):Prop:=∃β1 β2 x y,r = .agg #[x,y]∧OwnL β1 x (lst w.1)∧OwnL β2 y (lst w.2)∧β=β1++β2
theorem told_x{w:Wl}(h1:w.1<256)(h2:w.2<256):CallsB prog mn 82 #[wlV w] (RetB fun r β'=>OwnT β' r w) [] v:=by
  refine A0f tab func82 rfl nB (args:=[_]) ?_
  repeat (first|refine st ?_|refine qb fun bx=>?_)
  refine A2u [2,5,7] [0,1,3,4,2,5,6,7] A1w rfl kR ?_
  repeat (first|refine st ?_|refine qb fun bx=>?_)
  refine S_do kR (A0i [] _ rfl B3w rfl rfl rfl rfl rfl A1n (B3i h1) (fun x β' hR=>⟨Le.refl _,?_,?_⟩))
  · exact kp
  obtain⟨a1,cap1,rfl,hS1⟩:=hR
  rename A0j=>β1
  repeat (first|refine st ?_|refine qb fun bx=>?_)
  refine S_do kR (A0i [] _ rfl B3w rfl rfl rfl rfl rfl A1n (B3i h2) (fun x β' hR=>⟨Le.refl _,?_,?_⟩))
  · exact kp
  obtain⟨a2,cap2,rfl,hS2⟩:=hR
  rename A0j=>β2
  repeat (first|refine st ?_|refine qb fun bx=>?_)
  refine A0l tab (xs:=[.agg #[.slice a1 (lst w.1).length cap1,.slice a2 (lst w.2).length cap2]]) (β1++β2) (by exact .cell rfl (InB.app (InB.app .head)) rfl .nil) (Back.here cntL) ?_
  exact⟨β1,β2,_,_,rfl,⟨a1,cap1,rfl,hS1⟩,⟨a2,cap2,rfl,hS2⟩,rfl⟩
end
end Go.Proofs.YtiolobmgibdfmaaGreat
end
section
namespace Go.Pal.Vo
theorem clr_bits:(List.range 256).all (fun g=>(List.range 8).all fun n=>(List.range 8).all fun m=>bit (clr g n) m==(bit g m&&m != n)&&decide (clr g n<256))=true:=by decide +kernel
theorem bit_clr{g n m:Nat}(hg:g<256)(hn:n<8)(hm:m<8):bit (clr g n) m=(bit g m&&m != n)∧clr g n<256:=by
  have:=List.all_eq_true.1 (List.all_eq_true.1 (List.all_eq_true.1 clr_bits _ (List.mem_range.2 hg)) _ (List.mem_range.2 hn)) _ (List.mem_range.2 hm)
  simpa using this
theorem ones_bits:(List.range 9).all (fun P=>(List.range 8).all fun m=>bit (2 ^ P-1) m==decide (m<P))=true:=by decide +kernel
theorem bit_ones{P m:Nat}(hP:P≤8)(hm:m<8):bit (2 ^ P-1) m=decide (m<P):=by
  have:=List.all_eq_true.1 (List.all_eq_true.1 ones_bits _ (List.mem_range.2 (show P<9 by omega))) _ (List.mem_range.2 hm)
  simpa using this
theorem bit_ext{g h:Nat}(hg:g<256)(hh:h<256)(he:∀m,m<8→bit g m=bit h m):g=h:=by
  refine lst_inj g h hg hh ?_
  unfold lst
  exact List.filter_congr fun x hx=>he x (List.mem_range.1 hx)
def allOf(P:Nat)(ws:List Wd)(w:Wl)(p:Nat):Bool:=ws.all fun x=>x.who.toNat != p||A4h P x w
theorem honest_go{P:Nat}{w:Wl}{p:Nat}(hp:p<8):∀(ws:List Wd) (g:Nat),(∀x∈ws,x.who.toNat<8)→g<256→
    bit (ws.foldl (fun g x=>if A4h P x w then g else clr g x.who.toNat) g) p=(bit g p&&allOf P ws w p)∧ws.foldl (fun g x=>if A4h P x w then g else clr g x.who.toNat) g<256
  | [],g,_,hg=>by simp [allOf,hg]
  | x::ws,g,hx,hg=>by
    have h8:=hx x (List.mem_cons_self ..)
    have ih:=fun g=>honest_go hp (P:=P) (w:=w) ws g (fun y hy=>hx y (List.mem_cons_of_mem _ hy))
    simp only [List.foldl_cons]
    cases hh:A4h P x w with
    | true=>
      have:=ih g hg
      simp only [if_true]
      refine⟨?_,this.2⟩
      rw [this.1]
      simp [allOf,hh]
    | false=>
      obtain⟨h1,h2⟩:=bit_clr hg h8 hp
      have:=ih _ h2
      simp only [Bool.false_eq_true,if_false]
      refine⟨?_,this.2⟩
      rw [this.1,h1]
      simp only [allOf,List.all_cons,hh,Bool.or_false]
      by_cases e:x.who.toNat=p
      · simp [e]
      · have e1:(p != x.who.toNat)=true:=bne_iff_ne.2 fun h=>e h.symm
        have e2:(x.who.toNat != p)=true:=bne_iff_ne.2 e
        rw [e1,e2,Bool.and_true,Bool.true_and]
theorem B1m{P:Nat}{ws:List Wd}{w:Wl}{p:Nat}(hP:P≤8)(hp:p<8)(hx:∀x∈ws,x.who.toNat<8):bit (B1s P ws w) p=(decide (p<P)&&allOf P ws w p)∧B1s P ws w<256:=by
  have h256:2 ^ P-1<256:=by have:2 ^ P≤2^8:=Nat.pow_le_pow_right dM hP;omega
  have:=honest_go (P:=P) (w:=w) hp ws _ hx h256
  refine⟨?_,this.2⟩
  unfold B1s
  rw [this.1,bit_ones hP hp]
theorem big_bits:(List.range 9).all (fun P=>(List.range (2 ^ P)).all fun g=>(List.range 8).all fun m=>decide (m<P) || !bit g m)=true:=by decide +kernel
theorem bit_big{P g m:Nat}(hP:P≤8)(hg:g<2 ^ P)(hm:m<8)(h:¬m<P):bit g m=false:=by
  have:=List.all_eq_true.1 (List.all_eq_true.1 (List.all_eq_true.1 big_bits _ (List.mem_range.2 (show P<9 by omega))) _ (List.mem_range.2 hg)) _ (List.mem_range.2 hm)
  simpa [h]using this
theorem A6z{P F:Nat}{ws:List Wd}{w:Wl}(hP:P≤8)(hx:∀x∈ws,x.who.toNat<8):w∈A0g P F ws↔(w.1<2 ^ P∧w.2<2 ^ F)∧∀p,p<P→bit w.1 p=allOf P ws w p:=by
  rw [worldsL_mem]
  refine and_congr_right fun⟨h1,_⟩=>?_
  have h256:w.1<256:=Nat.lt_of_lt_of_le h1 (Nat.pow_le_pow_right dM hP)
  constructor
  · intro h p hp
    have:=(B1m (w:=w) hP (show p<8 by omega) hx).1
    rw [h]at this
    rw [this];simp [hp]
  · intro h
    refine bit_ext (B1m (w:=w) (p:=0) hP dM hx).2 h256 fun m hm=>?_
    rw [(B1m (w:=w) hP hm hx).1]
    by_cases hmp:m<P
    · simp [hmp,h m hmp]
    · simp [hmp,bit_big hP h1 hm hmp]
def verd(l:List Wl)(p:Wl→Bool):Int:=if l.countP p=0 then 2 else if l.countP p=l.length then 1 else 3
theorem A9w{l:List Wl}{p:Wl→Bool}(hl:l≠[]):verd l p=1↔∀w∈l,p w=true:=by
  have hpos:0<l.length:=List.length_pos_iff.2 hl
  unfold verd
  constructor
  · intro h
    by_cases h0:l.countP p=0
    · rw [if_pos h0]at h;cases h
    · rw [if_neg h0]at h
      by_cases h1:l.countP p=l.length
      · exact List.countP_eq_length.1 h1
      · rw [if_neg h1]at h;cases h
  · intro h
    have h1:l.countP p=l.length:=List.countP_eq_length.2 h
    rw [if_neg oM,if_pos h1]
theorem verd_never{l:List Wl}{p:Wl→Bool}(h:∀w∈l,p w=false):verd l p=2:=by
  unfold verd
  rw [if_pos (List.countP_eq_zero.2 fun w hw=>by rw [h w hw];decide)]
theorem mute{P F:Nat}{ws:List Wd}{p:Nat}(hP:P≤8)(hx:∀x∈ws,x.who.toNat<8)(hp:p<P)(hn:A0g P F ws≠[]) :
    verd (A0g P F ws) (fun w=>bit w.1 p)=1↔∀x∈ws,x.who.toNat=p→verd (A0g P F ws) (A4h P x)=1:=by
  rw [A9w hn]
  constructor
  · intro h x hxm hwho
    rw [A9w hn]
    intro w hw
    have h1:=((A6z hP hx).1 hw).2 p hp
    rw [h w hw]at h1
    have h2:=List.all_eq_true.1 h1.symm x hxm
    simpa [hwho]using h2
  · intro h w hw
    rw [((A6z hP hx).1 hw).2 p hp]
    refine List.all_eq_true.2 fun x hxm=>?_
    by_cases hwho:x.who.toNat=p
    · have:=(A9w hn).1 (h x hxm hwho) w hw
      simp [this]
    · simp [hwho]
theorem only{P F:Nat}{ws:List Wd}{y:Wd}{w:Wl}(hP:P≤8)(hx:∀x∈y::ws,x.who.toNat<8)(hb:y.who.toNat<P)(hno:∀x∈ws,x.who.toNat≠y.who.toNat)(hw:w∈A0g P F (y::ws)):bit w.1 y.who.toNat=A4h P y w:=by
  rw [((A6z hP hx).1 hw).2 _ hb]
  unfold allOf
  rw [List.all_cons]
  have:ws.all (fun x=>x.who.toNat != y.who.toNat||A4h P x w)=true:=List.all_eq_true.2 fun x hxm=>by simp [hno x hxm]
  rw [this];simp
theorem itself{P F:Nat}{ws:List Wd}{y:Wd}{w:Wl}(hP:P≤8)(hx:∀x∈ws,x.who.toNat<8)(hb:y.who.toNat<P)(hk:y.kind=2)(ha:y.a=y.who)(hy:y∈ws)(hw:w∈A0g P F ws):bit w.1 y.who.toNat=false:=by
  have h1:=((A6z hP hx).1 hw).2 _ hb
  cases hc:bit w.1 y.who.toNat with
  | false=>rfl
  | true=>
    rw [hc]at h1
    have h2:=List.all_eq_true.1 h1.symm y hy
    simp [A4h,hk,ha,hc]at h2
theorem itself_only{P F:Nat}{ws:List Wd}{y:Wd}(hP:P≤8)(hx:∀x∈ws,x.who.toNat<8)(hb:y.who.toNat<P)(hk:y.kind=2)(ha:y.a=y.who)(hy:y∈ws)(hno:∀x∈ws,x.who.toNat=y.who.toNat→x=y):A0g P F ws=[]:=by
  refine List.eq_nil_iff_forall_not_mem.2 fun w hw=>?_
  have h1:=((A6z hP hx).1 hw).2 _ hb
  have h3:=itself hP hx hb hk ha hy hw
  rw [h3]at h1
  have h2:allOf P ws w y.who.toNat=true:=List.all_eq_true.2 fun x hxm=>by
    by_cases e:x.who.toNat=y.who.toNat
    · rw [hno x hxm e];simp [A4h,hk,ha,h3]
    · simp [e]
  rw [h2]at h1;cases h1
end Go.Pal.Vo
end
section
namespace Go.Proofs.YtiolobmgibdfmaaGreat
open Go Go.Pal Go.Pal.Vo Go.Conc View
open Go.Proofs.Tryz
set_option maxHeartbeats 4000000
section
variable{mn:Who}{v:View}{a:Option Addr}{cap:Nat}
theorem personF_x{w:Wl}{p:Nat}{b:Nat}{q:Bool}{e:TypeId}{f:Nat×Nat}(h1:w.1<256)(hp:p<8)(hv:v b=some (q,.cells #[.int .i64 p] e f)):Ret1 prog mn 103 [wlV w,.pointer (some ⟨b,0,none⟩)] (.bool (bit w.1 p)) v:=by
  refine A0f tab func103 rfl nB (args:=[_,_]) ?_
  repeat (first|refine st ?_|refine qb fun bx=>?_)
  refine A2p tab rfl rfl rfl hv (x:=.int .i64 p) rfl ?_
  repeat (first|refine st ?_|refine qb fun bx=>?_)
  refine Q_op fun ho=>A0s ho A9n rfl rfl rfl rfl rfl (A9l h1 hp) ?_
  clear ho
  repeat (first|refine st ?_|refine qb fun bx=>?_)
  refine A0l tab [] (by exact .tmp rfl .nil) (Back.here cntL) ?_
  exact⟨rfl,rfl⟩
theorem verdict_x{l:List Wl}{p:Wl→Bool}{k:FuncId}{captured:Array Value}(hrow:RowAt v a (wsC l))(hlen:l.length<2^30)(hk:A0n prog k)
    (hf:∀w∈l,∀u,v.Le u→Ret1 prog mn k (wlV w::captured.toList) (.bool (p w)) u):Ret1 prog mn 101 [.slice a l.length cap,.func (.func k) #[] captured] (.int .i64 (verd l p)) v:=by
  refine A0f tab func101 rfl nB (args:=[_,_]) ?_
  repeat (first|refine st ?_|refine qb fun bx=>?_)
  refine A1o (α:=Nat×Nat) (fun z=>⟨[],[(10,.int .i64 z.1),(9,.int .i64 l.length),(8,.slice a l.length cap),(5,.int .i64 z.2),(0,.slice a l.length cap),(1,.func (.func k) #[] captured)],[]⟩)
    (fun z u=>u=v∧z.1≤l.length∧z.2=(l.take z.1).countP p) (fun z=>l.length-z.1) (0,0) ⟨rfl,rg,cntL⟩ (Le.refl _) ⟨rfl,Nat.zero_le _,rfl⟩ ?_
  rintro⟨i,m⟩ u ⟨rfl,hi,hm⟩
  simp only at hi hm
  have hcl:m≤l.length:=by rw [hm];exact Nat.le_trans List.countP_le_length (by rw [List.length_take];omega)
  dsimp only
  repeat (first|refine st ?_|refine qb fun bx=>?_)
  refine A0t rfl (fun h=>?_) (fun h=>?_)
  · replace h:=fa h
    have hlt:i<l.length:=oM
    obtain⟨b,off,q,c,e,f,rfl,hv,hc⟩:=A9r hrow hlt
    repeat (first|refine st ?_|refine qb fun bx=>?_)
    refine A2t tab i rfl rfl rfl rfl rfl rfl rfl hlt ?_
    refine A2p tab rfl rfl rfl hv (A2d tab rfl rfl rfl (hc i hlt)) ?_
    repeat (first|refine st ?_|refine qb fun bx=>?_)
    refine Q_op fun ho=>A0s ho hk rfl rfl rfl rfl (List.nil_append _) (hf l[i] (List.getElem_mem hlt) _ (Le.refl _)) ?_
    clear ho
    have hst:(l.take (i+1)).countP p=m+(if p l[i]then 1 else 0):=by
      rw [List.take_succ_eq_append_getElem hlt,List.countP_append,hm];simp [List.countP_cons]
    cases hp:p l[i]with
    | true=>
      rw [hp]at hst
      repeat (first|refine st ?_|refine qb fun bx=>?_)
      refine A0c ⟨(i+1,m+1),u,by simp only;omega,⟨rfl,rg,cntL⟩,Le.refl _,rfl,hlt,hst.symm⟩
    | false=>
      rw [hp]at hst
      repeat (first|refine st ?_|refine qb fun bx=>?_)
      refine A0c ⟨(i+1,m),u,by simp only;omega,⟨rfl,rg,cntL⟩,Le.refl _,rfl,hlt,hst.symm⟩
  · replace h:=fa h
    have hin:i=l.length:=oM
    subst hin
    rw [List.take_length]at hm
    clear h
    unfold verd
    rw [←hm]
    repeat (first|refine st ?_|refine qb fun bx=>?_)
    refine A0t rfl (fun h=>?_) (fun h=>?_)
    · replace h:=fa h
      have h':m=0:=oM
      rw [if_pos h']
      repeat (first|refine st ?_|refine qb fun bx=>?_)
      refine A0l tab [] (by exact .tmp rfl .nil) (Back.here cntL) ?_
      exact⟨rfl,rfl⟩
    · replace h:=fa h
      have h':¬m=0:=oM
      rw [if_neg h']
      clear h
      repeat (first|refine st ?_|refine qb fun bx=>?_)
      refine A0t rfl (fun h=>?_) (fun h=>?_)
      · replace h:=fa h
        have h2:m=l.length:=oM
        rw [if_pos h2]
        repeat (first|refine st ?_|refine qb fun bx=>?_)
        refine A0l tab [] (by exact .tmp rfl .nil) (Back.here cntL) ?_
        exact⟨rfl,rfl⟩
      · replace h:=fa h
        have h2:¬m=l.length:=oM
        rw [if_neg h2]
        repeat (first|refine st ?_|refine qb fun bx=>?_)
        refine A0l tab [] (by exact .tmp rfl .nil) (Back.here cntL) ?_
        exact⟨rfl,rfl⟩
end
section
variable{mn:Who}{v:View}{P F:Nat}{a:Option Addr}{n cap:Nat}
abbrev NeedR(b:Bool)(k:Int):Pal.End→A0j→Prop:=fun e β'=>β'=[]∧e=if b then .ret (.tuple #[])else panV k
theorem person_x{x:Int}(hP:P<2^30):CallsB prog mn 100 #[boV P F a n cap,.int .i64 x] (NeedR (decide (0≤x∧x≤(P:Int)-1)) 3) [] v:=by
  refine A0f tab func100 rfl nB (args:=[_,_]) ?_
  repeat (first|refine st ?_|refine qb fun bx=>?_)
  refine Q_op fun ho=>A0s ho A6b rfl rfl rfl rfl rfl A3k ?_
  clear ho
  refine Q_op fun ho=>A7s [] _ ho rfl rfl rfl rfl bod92 (fun _=>rfl) B3d (fun y β' hR=>?_) (fun ch β' hR=>?_)
  · clear ho
    obtain⟨rfl,hR⟩:=hR
    repeat (first|refine st ?_|refine qb fun bx=>?_)
    refine A1t tab [] .nil (Back.here fun p=>Nat.zero_le _) ⟨rfl,?_⟩
    cases hd:decide (0≤x∧x≤(P:Int)-1)with
    | true=>rfl
    | false=>rw [hd]at hR;cases hR
  · obtain⟨rfl,hR⟩:=hR
    refine pn ?_
    refine A1k tab [] (Back.here fun p=>Nat.zero_le _) ⟨rfl,?_⟩
    rw [←hR]
theorem fact_x{x:Int}(hF:F<2^30):CallsB prog mn 94 #[boV P F a n cap,.int .i64 x] (NeedR (decide (0≤x∧x≤(F:Int)-1)) 3) [] v:=by
  refine A0f tab func94 rfl nB (args:=[_,_]) ?_
  repeat (first|refine st ?_|refine qb fun bx=>?_)
  refine Q_op fun ho=>A0s ho A6b rfl rfl rfl rfl rfl A3k ?_
  clear ho
  refine Q_op fun ho=>A7s [] _ ho rfl rfl rfl rfl bod92 (fun _=>rfl) B3d (fun y β' hR=>?_) (fun ch β' hR=>?_)
  · clear ho
    obtain⟨rfl,hR⟩:=hR
    repeat (first|refine st ?_|refine qb fun bx=>?_)
    refine A1t tab [] .nil (Back.here fun p=>Nat.zero_le _) ⟨rfl,?_⟩
    cases hd:decide (0≤x∧x≤(F:Int)-1)with
    | true=>rfl
    | false=>rw [hd]at hR;cases hR
  · obtain⟨rfl,hR⟩:=hR
    refine pn ?_
    refine A1k tab [] (Back.here fun p=>Nat.zero_le _) ⟨rfl,?_⟩
    rw [←hR]
end
end Go.Proofs.YtiolobmgibdfmaaGreat
end
section
namespace Go.Pal
open Go Go.Conc View
section
variable{P:Program}{mn:Who}{Stop:View→Goroutine→Prop}{v:View}{b c:Frame}{k:List Item}{cs:List Frame}{a:Act}{ops:Array Oper}{i:Nat}{rest:List Nat}{d:Nat}{ats:Array TypeId}{ty:TypeId}{pos:String}{af:Array Edge}{gu:Option (Nat×Bool)}
theorem recOp_run{ev:Operand→Value}(w:World):(execOp ev ⟨some d,.call {callee:=.builtin .recover,args:=#[],argTypes:=ats },ty,pos,af,gu⟩).runT P w #[]=(.ok .recover w,#[]):=by
  unfold execOp
  simp [resolve,invoke,builtin,Sem.runT,Sem.bind]
theorem recOp_step{fr:Frame}{w:World}(hk:(fr.kind==CallKind.early)=false)(hr:fr.roundOf=none){ev:Operand→Value} :
    stepG.apply P true fr cs none (execOp ev ⟨some d,.call {callee:=.builtin .recover,args:=#[],argTypes:=ats },ty,pos,af,gu⟩) w =
      match tryRecover fr cs with
      | some (x,callers)=>.go {frame:=fr.finish x,callers,status:=.running,dying:=none } w
      | none=>.go {frame:=fr.finish .nilIface,callers:=cs,status:=.running,dying:=none } w:=by
  unfold stepG.apply
  simp only [if_true,recOp_run,hk,Bool.false_eq_true,if_false,hr,seen_none]
  cases h:tryRecover fr cs with
  | none=>simp [GStep.after]
  | some p=>obtain⟨x,cl⟩:=p;simp [GStep.after]
theorem run_recN(hk:b.kind = .deferred)(hr:b.roundOf=none)(ho:ops[i]?=some ⟨some d,.call {callee:=.builtin .recover,args:=#[],argTypes:=ats },ty,pos,af,gu⟩)(hw:Region.wanted ⟨some d,.call {callee:=.builtin .recover,args:=#[],argTypes:=ats },ty,pos,af,gu⟩ (yielded ops a.tmps)=true)
    (hm:c.mode = .returning)(h:Run P mn Stop v (G (b.on (a.put (some d) .nilIface) (.inRegion ops rest::k)) (c::cs))):Run P mn Stop v (G (b.on a (.inRegion ops (i::rest)::k)) (c::cs)):=by
  refine Run.ctl rfl (fun w=>?_) h
  rw [A5k ho hw (.inl hr),recOp_step (by simp [Frame.on,hk]) (by simp [Frame.on,hr])]
  have:tryRecover (b.on a (.inRegion ops (i::rest)::k)) (c::cs)=none:=by
    unfold tryRecover
    simp [Frame.on,hk,hm]
  rw [this,A5z b a ops i rest k _ .nilIface ho]
  rfl
theorem run_recP{x:Value}(hk:b.kind = .deferred)(hr:b.roundOf=none)(ho:ops[i]?=some ⟨some d,.call {callee:=.builtin .recover,args:=#[],argTypes:=ats },ty,pos,af,gu⟩)(hw:Region.wanted ⟨some d,.call {callee:=.builtin .recover,args:=#[],argTypes:=ats },ty,pos,af,gu⟩ (yielded ops a.tmps)=true)
    (hm:c.mode = .panicking [⟨x,false,false⟩])(h:Run P mn Stop v (G (b.on (a.put (some d) x) (.inRegion ops rest::k)) ({c with mode:=.panicking [⟨x,true,false⟩] }::cs))):Run P mn Stop v (G (b.on a (.inRegion ops (i::rest)::k)) (c::cs)):=by
  refine Run.ctl rfl (fun w=>?_) h
  rw [A5k ho hw (.inl hr),recOp_step (by simp [Frame.on,hk]) (by simp [Frame.on,hr])]
  have:tryRecover (b.on a (.inRegion ops (i::rest)::k)) (c::cs)=some (x,{c with mode:=.panicking [⟨x,true,false⟩] }::cs):=by
    unfold tryRecover
    simp [Frame.on,hk,hm]
  rw [this,←A5z b a ops i rest k _ x ho]
  rfl
theorem run_leaveD{fr:Frame}{fn:Func}(hm:fr.mode = .returning)(hd:fr.defers=[])(hk:fr.kind = .deferred)(hf:P.funcs[fr.fn]?=some fn)(hres:fn.results=#[])(hc:c.mode = .returning)(h:Run P mn Stop v (G c cs)):Run P mn Stop v (G fr (c::cs)):=by
  refine Run.ctl rfl (fun w=>?_) h
  simp [G,stepG,unwind,hm,hd,hf,results,hres,doReturn,hk,hc,GStep.after,seen_none,Sem.runT,Sem.bind]
theorem run_leaveP{fr:Frame}{fn:Func}{x:Value}(hm:fr.mode = .returning)(hd:fr.defers=[])(hk:fr.kind = .deferred)(hf:P.funcs[fr.fn]?=some fn)(hres:fn.results=#[])(hc:c.mode = .panicking [⟨x,true,false⟩])(h:Run P mn Stop v (G {c with mode:=.returning } cs)):Run P mn Stop v (G fr (c::cs)):=by
  refine Run.ctl rfl (fun w=>?_) h
  simp [G,stepG,unwind,hm,hd,hf,results,hres,doReturn,hk,hc,GStep.after,seen_none,Sem.runT,Sem.bind]
theorem run_end{fn:Func}(hr:b.roundOf=none)(hds:a.defers=[])(hk:b.kind = .deferred)(hf:P.funcs[b.fn]?=some fn)(hres:fn.results=#[])(hc:c.mode = .returning∨∃x,c.mode = .panicking [⟨x,true,false⟩])(h:Run P mn Stop v (G {c with mode:=.returning } cs)):Run P mn Stop v (G (b.on a []) (c::cs)):=by
  refine Run.ctl rfl (g':=G {b.on a []with mode:=.returning } (c::cs)) (fun w=>by simp [G,stepG,stepG.exec,Frame.on,hr]) ?_
  rcases hc with hc|⟨x,hc⟩
  · refine run_leaveD rfl hds hk hf hres hc ?_
    have:({c with mode:=.returning }:Frame)=c:=by cases c;simp only at hc;subst hc;rfl
    rw [this]at h;exact h
  · exact run_leaveP rfl hds hk hf hres hc h
end
section
variable{P:Program}{mn:Who}{Stop:View→Goroutine→Prop}{v:View}{b:Frame}{cs:List Frame}{a:Act}{n:Nat}
theorem run_tail{R:St→View→Prop}{ops:Array Oper}{l:List Nat}{c:Code}{σ:St}{u:View}(hk:b.kind≠.early)(hr:b.roundOf=none)(h:XO P mn none n ops l (SeqQ P mn none n c (fun e σ u=>e = .normal∧R σ u)) σ u)(hf:Fits n σ a)(hb:Bok σ.β u)(hl:(u.union (A0e σ.β)).Le v)
    (hq:∀σ' u' a',R σ' u'→Fits n σ' a'→Bok σ'.β u'→Run P mn Stop (u'.union (A0e σ'.β)) (G (b.on a' []) cs)):Run P mn Stop v (G (b.on a (.inRegion ops l::[.code c])) cs):=by
  refine((h a hf hb) Stop b [.code c] cs hk hr (fun e a' v' hP=>?_)).weaken hl
  obtain⟨σ',u',hQ,hf',hb',hl'⟩:=hP
  cases e with
  | normal=>
    simp only [SeqQ]at hQ
    refine((show XC P mn none n c (fun e σ u=>e = .normal∧R σ u) σ' u' from hQ) a' hf' hb' Stop b [] cs hk hr (fun e a2 v2 hP2=>?_)).weaken hl'
    obtain⟨σ2,u2,⟨rfl,hR⟩,hf2,hb2,hl2⟩:=hP2
    exact(hq _ _ _ hR hf2 hb2).weaken hl2
  | _=>simp only [SeqQ]at hQ;exact absurd hQ.1 sM
end
section
variable{P:Program}{mn:Who}(T:Tab P){rd:Option Nat}{n:Nat}{Q:Exit→St→View→Prop}{ds:List Deferred}{ρ:Regs}{β:A0j}{v:View}{K:St→View→Prop}
  {ops:Array Oper}{i:Nat}{d:Nat}{ty:TypeId}{pos:String}{af:Array Edge}{gu:Option (Nat×Bool)}
theorem XR_at{l:List Oper}{todo:List Nat}{σ:St}(hd:ops.toList.drop i=l)(ht:List.range' i l.length=todo)(h:XR P mn rd n ops i l Q σ v):XO P mn rd n ops todo Q σ v:=ht ▸ h hd
theorem A_neqNil{t t2:TypeId}{y:Operand}{x:Value}{ms:Array (String×TypeId)}{r:Bool}(ho:ops[i]?=some ⟨some d,.binOp .neq t y (.const .nilIface) t2,ty,pos,af,gu⟩)(hw:A0x ops gu ρ=some true)(hn:Nat.blt d n=true)(hy:ρ.val y=some x)(ht:T.und t=some (.interface ms))
    (hx:(r=false∧x = .nilIface)∨(r=true∧∃tx vx,x = .iface tx vx))(h:K ⟨ds,(d,.bool r)::ρ,β⟩ v):XOp P mn rd n ops i Q K ⟨ds,ρ,β⟩ v:=by
  refine A2x ho (A0p hw) (.inr rfl) hn fun ev hev hbk=>?_
  have hc:ev (.const .nilIface) = .nilIface:=hev _ _ rfl
  rcases hx with ⟨rfl,rfl⟩|⟨rfl,tx,vx,rfl⟩
  · simp only [execOp,A0d,hev _ _ hy,hc,eqGuard,binOp,Op.equal]
    simp only [Bool.or_true,if_true,Bool.not_true,Bool.false_eq_true,if_false,A0m,A0d]
    unfold Op.equalIn
    simp only [Op.maxDepth,A0d,A1r T ht,A0m,Bool.not_true]
    exact⟨β,v,⟨hbk,Le.refl _⟩,h⟩
  · simp only [execOp,A0d,hev _ _ hy,hc,eqGuard,binOp,Op.equal]
    simp only [Bool.not_true,Bool.false_eq_true,if_false,A0m,A0d]
    unfold Op.equalIn
    simp only [Op.maxDepth,A0d,A1r T ht,A0m,Bool.not_false]
    exact⟨β,v,⟨hbk,Le.refl _⟩,h⟩
end
section
variable{P:Program}(T:Tab P){fn:Func}{kc:FuncId}{tR:TypeId}{R:End→A0j→Prop}{v u:View}{ds:List Deferred}{ρ:Regs}{β β':A0j}
theorem A6e{p:Addr}{xs:List Value}(hds:ds=[dcall kc #[.pointer (some p)]])(hr:ResL T ρ β fn.results.toList xs)(hb:Back v β' u β)(hR:R (.ret (A5l xs)) β'):FnD T fn kc tR R v .ret ⟨ds,ρ,β⟩ u:=⟨p,hds,xs,β',hr,hR,hb⟩
theorem A2n{b off:Nat}{k:IntKind}{e:Int}{c:Array Value}{t:TypeId}{β2:A0j}{xs:List Value}(hds:ds=[dcall kc #[.pointer (some ⟨b,off,none⟩)]])(hin:InB b c t β)(hoff:off<c.size)(hset:SetB b (c.setIfInBounds off (.int k e)) β β2)
    (hr:ResL T ρ β2 fn.results.toList xs)(hb:Back v β' u β2)(hR:R (.ret (A5l xs)) β'):FnD T fn kc tR R v (.panic [⟨.iface tR (.int k e),false,false⟩]) ⟨ds,ρ,β⟩ u:=⟨b,off,k,e,c,t,β2,xs,β',hds,rfl,hin,hoff,hset,hr,hR,hb⟩
end
end Go.Pal
end
section
namespace Go.Proofs.YtiolobmgibdfmaaGreat
open Go Go.Pal Go.Conc View
open Go.Proofs.Tryz
set_option maxHeartbeats 4000000
section
variable{mn:Who}
theorem A4x:Caught prog mn 78 141 where
  fn:=by
    obtain⟨fn,c,h1,h2,h3⟩:=bod78
    exact⟨fn,h1,h3,by rw [h2];simp⟩
  ok:=by
    intro Stop v c fs p hm hrun
    refine A3b (R:=Run prog mn Stop v) (ys:=[_]) func78 rfl nB fun bf hbn hbr hbf=>?_
    have hbk:bf.kind≠.early:=by rw [hbn];simp
    refine F_seq ?_
    refine A2b (l:=[0,1,2,3,4,5,6]) rfl ?_
    intro a hf
    refine run_recN hbn hbr rfl (A0q (o:=⟨some 5,.call {callee:=.builtin .recover,args:=#[],argTypes:=#[] },_,_,_,none⟩) hf rfl) hm ?_
    refine run_tail (R:=fun σ u=>σ.ds=[]∧u=v∧σ.β=[]) (σ:=⟨[],(5,.nilIface)::A2z 0 [.pointer (some p)],[]⟩) (u:=v) hbk hbr ?_ (A1h (d:=some 5) hf rfl) (B3u v) (by rw [A2r];exact Le.refl _) (fun σ' u' a' hR hf' hb'=>?_)
    · refine XR_at (i:=1) (l:=[_,_,_,_,_,_]) rfl rfl ?_
      repeat (first|refine st ?_|refine qb fun bx=>?_)
      exact⟨rfl,rfl,rfl,rfl⟩
    · obtain⟨h1,rfl,h2⟩:=hR
      rw [h2,A2r]
      refine run_end (fn:=f78) hbr (hf'.defers.trans h1) hbn (by rw [hbf];exact func78) rfl (.inl hm) ?_
      have:({c with mode:=.returning }:Frame)=c:=by cases c;simp only at hm;subst hm;rfl
      rw [this];exact hrun
  pan:=by
    intro Stop v c fs b off cc t k e hm hv hoff hrun
    refine A3b (R:=Run prog mn Stop v) (ys:=[_]) func78 rfl nB fun bf hbn hbr hbf=>?_
    have hbk:bf.kind≠.early:=by rw [hbn];simp
    refine F_seq ?_
    refine A2b (l:=[0,1,2,3,4,5,6]) rfl ?_
    intro a hf
    refine run_recP hbn hbr rfl (A0q (o:=⟨some 5,.call {callee:=.builtin .recover,args:=#[],argTypes:=#[] },_,_,_,none⟩) hf rfl) hm ?_
    obtain⟨u,hu⟩:∃u:View,u=fun j=>if j=b then none else v j:=⟨_,rfl⟩
    have hub:u b=none:=by rw [hu];simp
    have hbok:∀c':Array Value,Bok [(b,c',t)] u:=fun c'=>⟨by simp,fun j=>by
      by_cases hj:j=b
      · subst hj;exact .inl hub
      · right;simp [A0e];intro h;exact absurd h hj⟩
    have hset:∀c':Array Value,u.union (A0e [(b,c',t)])=v.set b true (.cells c' t (0,0)):=fun c'=>by
      funext j
      rw [hu]
      unfold View.union View.set
      by_cases hj:j=b
      · subst hj;simp [A0e]
      · simp only [if_neg hj]
        cases v j<;>simp [A0e]
        intro h;exact absurd h hj
    have hvs:v.set b true (.cells cc t (0,0))=v:=by
      funext j
      unfold View.set
      split
      · rename_i h;rw [h,hv]
      · rfl
    refine run_tail (R:=fun σ u'=>σ.ds=[]∧u'=u∧σ.β=[(b,cc.setIfInBounds off (.int k e),t)]) (σ:=⟨[],(5,.iface 141 (.int k e))::A2z 0 [.pointer (some ⟨b,off,none⟩)],[(b,cc,t)]⟩) (u:=u) hbk hbr ?_ (by have hp:=A1h (d:=some 5) (x:=.iface 141 (.int k e)) hf rfl;exact⟨hp.size,hp.defers,hp.get⟩) (hbok cc) (by show(u.union (A0e [(b,cc,t)])).Le v;rw [hset,hvs];exact Le.refl _) (fun σ' u' a' hR hf' hb'=>?_)
    · refine XR_at (i:=1) (l:=[_,_,_,_,_,_]) rfl rfl ?_
      repeat (first|refine st ?_|refine qb fun bx=>?_)
      refine Q_op fun ho=>A1j tab (c:=cc) (x:=.int k e) ho rfl rfl rfl rfl rfl rfl .head (Nat.ble_eq_true_of_le oM) .head ?_
      repeat (first|refine st ?_|refine qb fun bx=>?_)
      exact⟨rfl,rfl,rfl,rfl⟩
    · obtain⟨h1,rfl,h2⟩:=hR
      rw [h2,hset]
      exact run_end (fn:=f78) hbr (hf'.defers.trans h1) hbn (by rw [hbf];exact func78) rfl (.inr ⟨_,rfl⟩) hrun
end
end Go.Proofs.YtiolobmgibdfmaaGreat
end
section
namespace Go.Proofs.YtiolobmgibdfmaaGreat
open Go Go.Pal Go.Pal.Vo Go.Conc View
open Go.Proofs.Tryz
set_option maxHeartbeats 4000000
section
variable{mn:Who}{rd:Option Nat}{n:Nat}{Q:Exit→St→View→Prop}{ds:List Deferred}{ρ:Regs}{β:A0j}{v:View}{K:St→View→Prop}
  {ops:Array Oper}{i:Nat}{d:Nat}{ty:TypeId}{pos:String}{af:Array Edge}{gu:Option (Nat×Bool)}
abbrev panC(e:Int):List PanicEntry:=[⟨.iface 141 (.int .i64 e),false,false⟩]
theorem A3d{f:Operand}{args:Array Operand}{ats:Array TypeId}{b:Bool}{e:Int}(ho:ops[i]?=some ⟨some d,.call {callee:=.value f,args:=args,argTypes:=ats },ty,pos,af,gu⟩)(hw:A0x ops gu ρ=some true)(hn:Nat.blt d n=true)
    (hf:ρ.val f=some (.func (.func 92) #[] #[]))(hxs:A3q ρ.val args.toList=some [.bool b,.int .i64 e])(h2:b=false→Q (.panic (panC e)) ⟨ds,ρ,β⟩ v)(h1:b=true→K ⟨ds,(d,.tuple #[])::ρ,β⟩ v):XOp prog mn rd n ops i Q K ⟨ds,ρ,β⟩ v:=by
  refine A7s [] β ho hw hn hf hxs bod92 (fun _=>rfl) (B3d (b:=b) (e:=e)) (fun x β' hR=>?_) (fun ch β' hR=>?_)
  · obtain⟨rfl,hR⟩:=hR
    cases b with
    | true=>
      injection hR with hR
      subst hR
      exact h1 rfl
    | false=>cases hR
  · obtain⟨rfl,hR⟩:=hR
    cases b with
    | true=>cases hR
    | false=>
      injection hR with hR
      subst hR
      exact h2 rfl
theorem A_needR{f:Operand}{args:Array Operand}{ats:Array TypeId}{kf:FuncId}{xs:List Value}{b:Bool}{e:Int}(ho:ops[i]?=some ⟨some d,.call {callee:=.value f,args:=args,argTypes:=ats },ty,pos,af,gu⟩)(hk:A0n prog kf)(hw:A0x ops gu ρ=some true)(hn:Nat.blt d n=true)
    (hf:ρ.val f=some (.func (.func kf) #[] #[]))(hxs:A3q ρ.val args.toList=some xs)(hc:CallsB prog mn kf xs.toArray (NeedR b e) [] (v.union (A0e β)))(h2:b=false→Q (.panic (panC e)) ⟨ds,ρ,β⟩ v)(h1:b=true→K ⟨ds,(d,.tuple #[])::ρ,β⟩ v):XOp prog mn rd n ops i Q K ⟨ds,ρ,β⟩ v:=by
  have hc':CallsB prog mn kf (#[]++xs.toArray++#[]) (NeedR b e) [] (v.union (A0e β)):=by
    have:(#[]++xs.toArray++#[]:Array Value)=xs.toArray:=by simp
    rw [this];exact hc
  refine A7s [] β ho hw hn hf hxs hk (fun _=>rfl) hc' (fun x β' hR=>?_) (fun ch β' hR=>?_)
  · obtain⟨rfl,hR⟩:=hR
    cases b with
    | true=>
      injection hR with hR
      subst hR
      exact h1 rfl
    | false=>cases hR
  · obtain⟨rfl,hR⟩:=hR
    cases b with
    | true=>cases hR
    | false=>
      injection hR with hR
      subst hR
      exact h2 rfl
end
section
variable{mn:Who}{v:View}{P F:Nat}{a:Option Addr}{n cap:Nat}
def A2k(P F:Nat)(x:Wd):Int:=
  if ¬(0≤x.who∧x.who≤(P:Int)-1)then 3
  else if ¬(0≤x.kind∧x.kind≤6)then 8
  else if x.kind≤1 then(if ¬(0≤x.a∧x.a≤(F:Int)-1)then 3 else if x.b=0 then 0 else 1)
  else if x.kind≤3 then(if ¬(0≤x.a∧x.a≤(P:Int)-1)then 3 else if x.b=0 then 0 else 1)
  else if x.kind=4 then(if ¬((0≤x.a∧x.a≤(F:Int)-1)∧0≤x.b∧x.b≤(F:Int)-1)then 3 else 0)
  else if x.kind=5 then(if ¬((0≤x.a∧x.a≤(P:Int)-1)∧0≤x.b∧x.b≤(P:Int)-1)then 3 else if x.a<x.b then 0 else 5)
  else(if ¬(0≤x.a∧x.a≤(P:Int))then 1 else if x.b=0 then 0 else 1)
def endE(k:Int):Pal.End:=if k=0 then .ret (.tuple #[])else panV k
theorem A3a{k j:Int}(h:k=j)(hj:j≠0):Pal.End.pan (panC j)=endE k:=by subst h;unfold endE;rw [if_neg hj]
theorem A7p{k:Int}(h:k=0):Pal.End.ret (.tuple #[])=endE k:=by subst h;rfl
theorem says_split(x:Wd):(B2x x = .nilIface∧∀k:Nat,k<7→x.kind≠k)∨∃k:Nat,k<7∧x.kind=k∧B2x x=sayN x k:=by
  by_cases h:∃k:Nat,k<7∧x.kind=k
  · obtain⟨k,hk,hx⟩:=h
    exact .inr ⟨k,hk,hx,A7w hk hx⟩
  · have h':∀k:Nat,k<7→x.kind≠k:=fun k hk hx=>h ⟨k,hk,hx⟩
    exact .inl ⟨says_no h',h'⟩
theorem B3y{k:Int}(h:k≠4)(h':k≠5):Ret1 prog mn 146 [.int .i64 k] (.int .i64 1) v:=by
  have:=B3x (mn:=mn) (v:=v) (k:=k)
  rwa [if_neg oM]at this
theorem args_x2{k:Int}(h:k=4∨k=5):Ret1 prog mn 146 [.int .i64 k] (.int .i64 2) v:=by
  have:=B3x (mn:=mn) (v:=v) (k:=k)
  rwa [if_pos h]at this
theorem checkWord_x{x:Wd}(hP:P≤8)(hF:F≤8):CallsB prog mn 104 #[boV P F a n cap,wdV x] (fun e β'=>β'=[]∧e=endE (A2k P F x)) [] v:=by
  refine A0f tab func104 rfl nB (args:=[_,_]) ?_
  repeat (first|refine st ?_|refine qb fun bx=>?_)
  refine Q_op fun ho=>A0s ho A6b rfl rfl rfl rfl rfl A3k ?_
  clear ho
  refine Q_op fun ho=>A3d ho rfl rfl rfl rfl (fun h=>?_) (fun h=>?_)
  · (refine pn ?_;refine A1k tab [] (Back.here fun p=>Nat.zero_le _) ⟨rfl,?_⟩)
    have h:=of_decide_eq_false h
    exact A3a (by unfold A2k;rw [if_pos h]) dM
  have hby:=of_decide_eq_true h
  clear h ho
  repeat (first|refine st ?_|refine qb fun bx=>?_)
  refine Q_op fun ho=>A0s ho bod105 rfl rfl rfl rfl rfl (B3e (x:=x)) ?_
  clear ho
  repeat (first|refine st ?_|refine qb fun bx=>?_)
  rcases says_split x with ⟨hs,hno⟩|⟨k,hk,hx,hs⟩
  · rw [hs]
    refine Q_op fun ho=>A_neqNil tab (r:=false) ho rfl rfl rfl rfl (.inl ⟨rfl,rfl⟩) ?_
    clear ho
    refine Q_op fun ho=>A3d ho rfl rfl rfl rfl (fun _=>?_) (fun h=>by cases h)
    (refine pn ?_;refine A1k tab [] (Back.here fun p=>Nat.zero_le _) ⟨rfl,?_⟩)
    have h0:=hno 0 dM
    have h1:=hno 1 dM
    have h2:=hno 2 dM
    have h3:=hno 3 dM
    have h4:=hno 4 dM
    have h5:=hno 5 dM
    have h6:=hno 6 dM
    exact A3a (by unfold A2k;(repeat' split)<;>omega) dM
  rw [hs]
  refine Q_op fun ho=>A_neqNil tab (r:=true) ho rfl rfl rfl rfl (.inr ⟨rfl,by unfold sayN;split<;>exact⟨_,_,rfl⟩⟩) ?_
  clear ho
  refine Q_op fun ho=>A3d ho rfl rfl rfl rfl (fun h=>by cases h) (fun _=>?_)
  clear ho
  rcases (by omega:k=0∨k=1∨k=2∨k=3∨k=4∨k=5∨k=6)with rfl|rfl|rfl|rfl|rfl|rfl|rfl
  · repeat (first|refine st ?_|refine qb fun bx=>?_)
    refine Q_op fun ho=>A0s ho A6b rfl rfl rfl rfl rfl A3k ?_
    clear ho
    refine Q_op fun ho=>A3d ho rfl rfl rfl rfl (fun h=>?_) (fun h=>?_)
    · have h:=of_decide_eq_false h
      (refine pn ?_;refine A1k tab [] (Back.here fun p=>Nat.zero_le _) ⟨rfl,?_⟩)
      exact A3a (by unfold A2k;(repeat' split)<;>omega) dM
    have ha:=of_decide_eq_true h
    clear h ho
    repeat (first|refine st ?_|refine qb fun bx=>?_)
    refine Q_op fun ho=>A0s ho B3v rfl rfl rfl rfl rfl (B3y (k:=x.kind) oM oM) ?_
    clear ho
    repeat (first|refine st ?_|refine qb fun bx=>?_)
    refine Q_op fun ho=>A3d ho rfl rfl rfl rfl (fun h=>?_) (fun h=>?_)
    · have h:x.b≠0:=by simpa using h
      (refine pn ?_;refine A1k tab [] (Back.here fun p=>Nat.zero_le _) ⟨rfl,?_⟩)
      exact A3a (by unfold A2k;(repeat' split)<;>omega) dM
    have hb:x.b=0:=by simpa using h
    clear h ho
    repeat (first|refine st ?_|refine qb fun bx=>?_)
    exact A1t tab [] .nil (Back.here fun p=>Nat.zero_le _) ⟨rfl,A7p (by unfold A2k;(repeat' split)<;>omega)⟩
  · repeat (first|refine st ?_|refine qb fun bx=>?_)
    refine Q_op fun ho=>A0s ho A6b rfl rfl rfl rfl rfl A3k ?_
    clear ho
    refine Q_op fun ho=>A3d ho rfl rfl rfl rfl (fun h=>?_) (fun h=>?_)
    · have h:=of_decide_eq_false h
      (refine pn ?_;refine A1k tab [] (Back.here fun p=>Nat.zero_le _) ⟨rfl,?_⟩)
      exact A3a (by unfold A2k;(repeat' split)<;>omega) dM
    have ha:=of_decide_eq_true h
    clear h ho
    repeat (first|refine st ?_|refine qb fun bx=>?_)
    refine Q_op fun ho=>A0s ho B3v rfl rfl rfl rfl rfl (B3y (k:=x.kind) oM oM) ?_
    clear ho
    repeat (first|refine st ?_|refine qb fun bx=>?_)
    refine Q_op fun ho=>A3d ho rfl rfl rfl rfl (fun h=>?_) (fun h=>?_)
    · have h:x.b≠0:=by simpa using h
      (refine pn ?_;refine A1k tab [] (Back.here fun p=>Nat.zero_le _) ⟨rfl,?_⟩)
      exact A3a (by unfold A2k;(repeat' split)<;>omega) dM
    have hb:x.b=0:=by simpa using h
    clear h ho
    repeat (first|refine st ?_|refine qb fun bx=>?_)
    exact A1t tab [] .nil (Back.here fun p=>Nat.zero_le _) ⟨rfl,A7p (by unfold A2k;(repeat' split)<;>omega)⟩
  · repeat (first|refine st ?_|refine qb fun bx=>?_)
    refine Q_op fun ho=>A0s ho A6b rfl rfl rfl rfl rfl A3k ?_
    clear ho
    refine Q_op fun ho=>A3d ho rfl rfl rfl rfl (fun h=>?_) (fun h=>?_)
    · have h:=of_decide_eq_false h
      (refine pn ?_;refine A1k tab [] (Back.here fun p=>Nat.zero_le _) ⟨rfl,?_⟩)
      exact A3a (by unfold A2k;(repeat' split)<;>omega) dM
    have ha:=of_decide_eq_true h
    clear h ho
    repeat (first|refine st ?_|refine qb fun bx=>?_)
    refine Q_op fun ho=>A0s ho B3v rfl rfl rfl rfl rfl (B3y (k:=x.kind) oM oM) ?_
    clear ho
    repeat (first|refine st ?_|refine qb fun bx=>?_)
    refine Q_op fun ho=>A3d ho rfl rfl rfl rfl (fun h=>?_) (fun h=>?_)
    · have h:x.b≠0:=by simpa using h
      (refine pn ?_;refine A1k tab [] (Back.here fun p=>Nat.zero_le _) ⟨rfl,?_⟩)
      exact A3a (by unfold A2k;(repeat' split)<;>omega) dM
    have hb:x.b=0:=by simpa using h
    clear h ho
    repeat (first|refine st ?_|refine qb fun bx=>?_)
    exact A1t tab [] .nil (Back.here fun p=>Nat.zero_le _) ⟨rfl,A7p (by unfold A2k;(repeat' split)<;>omega)⟩
  · repeat (first|refine st ?_|refine qb fun bx=>?_)
    refine Q_op fun ho=>A0s ho A6b rfl rfl rfl rfl rfl A3k ?_
    clear ho
    refine Q_op fun ho=>A3d ho rfl rfl rfl rfl (fun h=>?_) (fun h=>?_)
    · have h:=of_decide_eq_false h
      (refine pn ?_;refine A1k tab [] (Back.here fun p=>Nat.zero_le _) ⟨rfl,?_⟩)
      exact A3a (by unfold A2k;(repeat' split)<;>omega) dM
    have ha:=of_decide_eq_true h
    clear h ho
    repeat (first|refine st ?_|refine qb fun bx=>?_)
    refine Q_op fun ho=>A0s ho B3v rfl rfl rfl rfl rfl (B3y (k:=x.kind) oM oM) ?_
    clear ho
    repeat (first|refine st ?_|refine qb fun bx=>?_)
    refine Q_op fun ho=>A3d ho rfl rfl rfl rfl (fun h=>?_) (fun h=>?_)
    · have h:x.b≠0:=by simpa using h
      (refine pn ?_;refine A1k tab [] (Back.here fun p=>Nat.zero_le _) ⟨rfl,?_⟩)
      exact A3a (by unfold A2k;(repeat' split)<;>omega) dM
    have hb:x.b=0:=by simpa using h
    clear h ho
    repeat (first|refine st ?_|refine qb fun bx=>?_)
    exact A1t tab [] .nil (Back.here fun p=>Nat.zero_le _) ⟨rfl,A7p (by unfold A2k;(repeat' split)<;>omega)⟩
  · repeat (first|refine st ?_|refine qb fun bx=>?_)
    refine Q_op fun ho=>A0s ho A6b rfl rfl rfl rfl rfl A3k ?_
    clear ho
    by_cases ha:0≤x.a∧x.a≤(F:Int)-1
    · rw [decide_eq_true ha]
      repeat (first|refine st ?_|refine qb fun bx=>?_)
      refine Q_op fun ho=>A0s ho A6b rfl rfl rfl rfl rfl A3k ?_
      clear ho
      repeat (first|refine st ?_|refine qb fun bx=>?_)
      refine Q_op fun ho=>A3d ho rfl rfl rfl rfl (fun h=>?_) (fun h=>?_)
      · have h:=of_decide_eq_false h
        (refine pn ?_;refine A1k tab [] (Back.here fun p=>Nat.zero_le _) ⟨rfl,?_⟩)
        exact A3a (by unfold A2k;(repeat' split)<;>omega) dM
      have hb:=of_decide_eq_true h
      clear h ho
      repeat (first|refine st ?_|refine qb fun bx=>?_)
      refine Q_op fun ho=>A0s ho B3v rfl rfl rfl rfl rfl (args_x2 (k:=x.kind) oM) ?_
      clear ho
      repeat (first|refine st ?_|refine qb fun bx=>?_)
      refine Q_op fun ho=>A3d ho rfl rfl rfl rfl (fun h=>by cases h) (fun h=>?_)
      clear h ho
      repeat (first|refine st ?_|refine qb fun bx=>?_)
      exact A1t tab [] .nil (Back.here fun p=>Nat.zero_le _) ⟨rfl,A7p (by unfold A2k;(repeat' split)<;>omega)⟩
    · rw [decide_eq_false ha]
      repeat (first|refine st ?_|refine qb fun bx=>?_)
      refine Q_op fun ho=>A3d ho rfl rfl rfl rfl (fun h=>?_) (fun h=>by cases h)
      (refine pn ?_;refine A1k tab [] (Back.here fun p=>Nat.zero_le _) ⟨rfl,?_⟩)
      exact A3a (by unfold A2k;(repeat' split)<;>omega) dM
  · repeat (first|refine st ?_|refine qb fun bx=>?_)
    refine Q_op fun ho=>A0s ho A6b rfl rfl rfl rfl rfl A3k ?_
    clear ho
    by_cases ha:0≤x.a∧x.a≤(P:Int)-1
    · rw [decide_eq_true ha]
      repeat (first|refine st ?_|refine qb fun bx=>?_)
      refine Q_op fun ho=>A0s ho A6b rfl rfl rfl rfl rfl A3k ?_
      clear ho
      repeat (first|refine st ?_|refine qb fun bx=>?_)
      refine Q_op fun ho=>A3d ho rfl rfl rfl rfl (fun h=>?_) (fun h=>?_)
      · have h:=of_decide_eq_false h
        (refine pn ?_;refine A1k tab [] (Back.here fun p=>Nat.zero_le _) ⟨rfl,?_⟩)
        exact A3a (by unfold A2k;(repeat' split)<;>omega) dM
      have hb:=of_decide_eq_true h
      clear h ho
      repeat (first|refine st ?_|refine qb fun bx=>?_)
      refine Q_op fun ho=>A3d ho rfl rfl rfl rfl (fun h=>?_) (fun h=>?_)
      · have h:=of_decide_eq_false h
        (refine pn ?_;refine A1k tab [] (Back.here fun p=>Nat.zero_le _) ⟨rfl,?_⟩)
        exact A3a (by unfold A2k;(repeat' split)<;>omega) dM
      have hab:=of_decide_eq_true h
      clear h ho
      repeat (first|refine st ?_|refine qb fun bx=>?_)
      refine Q_op fun ho=>A0s ho B3v rfl rfl rfl rfl rfl (args_x2 (k:=x.kind) oM) ?_
      clear ho
      repeat (first|refine st ?_|refine qb fun bx=>?_)
      refine Q_op fun ho=>A3d ho rfl rfl rfl rfl (fun h=>by cases h) (fun h=>?_)
      clear h ho
      repeat (first|refine st ?_|refine qb fun bx=>?_)
      exact A1t tab [] .nil (Back.here fun p=>Nat.zero_le _) ⟨rfl,A7p (by unfold A2k;(repeat' split)<;>omega)⟩
    · rw [decide_eq_false ha]
      repeat (first|refine st ?_|refine qb fun bx=>?_)
      refine Q_op fun ho=>A3d ho rfl rfl rfl rfl (fun h=>?_) (fun h=>by cases h)
      (refine pn ?_;refine A1k tab [] (Back.here fun p=>Nat.zero_le _) ⟨rfl,?_⟩)
      exact A3a (by unfold A2k;(repeat' split)<;>omega) dM
  · repeat (first|refine st ?_|refine qb fun bx=>?_)
    refine Q_op fun ho=>A0s ho A6b rfl rfl rfl rfl rfl A3k ?_
    clear ho
    refine Q_op fun ho=>A3d ho rfl rfl rfl rfl (fun h=>?_) (fun h=>?_)
    · have h:=of_decide_eq_false h
      (refine pn ?_;refine A1k tab [] (Back.here fun p=>Nat.zero_le _) ⟨rfl,?_⟩)
      exact A3a (by unfold A2k;(repeat' split)<;>omega) dM
    have ha:=of_decide_eq_true h
    clear h ho
    repeat (first|refine st ?_|refine qb fun bx=>?_)
    refine Q_op fun ho=>A0s ho B3v rfl rfl rfl rfl rfl (B3y (k:=x.kind) oM oM) ?_
    clear ho
    repeat (first|refine st ?_|refine qb fun bx=>?_)
    refine Q_op fun ho=>A3d ho rfl rfl rfl rfl (fun h=>?_) (fun h=>?_)
    · have h:x.b≠0:=by simpa using h
      (refine pn ?_;refine A1k tab [] (Back.here fun p=>Nat.zero_le _) ⟨rfl,?_⟩)
      exact A3a (by unfold A2k;(repeat' split)<;>omega) dM
    have hb:x.b=0:=by simpa using h
    clear h ho
    repeat (first|refine st ?_|refine qb fun bx=>?_)
    exact A1t tab [] .nil (Back.here fun p=>Nat.zero_le _) ⟨rfl,A7p (by unfold A2k;(repeat' split)<;>omega)⟩
end
end Go.Proofs.YtiolobmgibdfmaaGreat
end
