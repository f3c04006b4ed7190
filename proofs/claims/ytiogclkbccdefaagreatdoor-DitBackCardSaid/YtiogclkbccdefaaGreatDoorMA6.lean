import Derived.Test.YtiogclkbccdefaaGreatDoorMA4
import Derived.Test.YtiogclkbccdefaaGreatDoorMA5
import Derived.Test.YtiogclkbccdefaaGreatDoorLA5
import Derived.Test.YtiogclkbccdefaaGreatDoorLA6
set_option linter.unusedSimpArgs false
set_option linter.unusedVariables false
set_option maxRecDepth 100000
theorem TS{p:Prop}(h:p:=by first|exact⟨⟨i+1,_,_,_,rfl,rfl,J0,hR.add _ _ _ _ hsm.2.1⟩,Wa⟩|exact⟨⟨i+1,_,_,_,rfl,rfl,J0,hR⟩,Wa⟩):p:=h
section
namespace Go.Proofs.YtiogclkbccdefaaGreatDoor
open Go.RowKit Go.Bo Go.Ab
def ZIb(os:J7)(t:Nat):W0:=match os[t]? with
 |some (.box [.ptr s _,.mref a,.mref b])=>match os[s]? with
  |some (.box [.mref x,.mref c])=>t::s::x::c::a::b::(match os[b]? with
   |some (.mpo _ _ l)=>l.filterMap λq=>match q.2 with
    | [.ref i _ _ _]=>some i
    |_=>none
   |_=> [])
  |_=> []
 |_=> []
def ZMJ(Y:J7)(l:W2):List TB:=l.filterMap λq=>match q with
 |([.str s],[.ref i _ _ _])=>match Y[i-6]? with
  |some (.rows _ _ _ R)=>(ZM ZC R).map λl=>(s,i-6,l)
  |_=>none
 |_=>none
def Zbo(Y:J7)(B:List TB):Bool:=decide ((B.map (·.1)).Nodup/\(B.map (·.2.1)).Nodup)&&B.all λx=>decide (x.2.2.length<=1000000)&&match Y[x.2.1]? with
 |some o=>Ob.beq o (.rows false 9 1 (rows ZC x.2.2))
 |none=>false
theorem Ze0{Y:J7}{B:List TB}(h:Zbo Y B=true):okB Y B:=by
 simp only[Zbo,Zk,Ym]at h;refine⟨h.1.1,h.1.2,λx hx=> ?_⟩;have h2:=Yg.1 h.2 x hx;simp only[Zk,Ym]at h2;refine⟨?_,h2.1⟩;have h3:=h2.2;split at h3
 .rename_i o ho;rw[ho,Ob.beq_eq h3]
 .cases h3
theorem Zc5{α:Type}{a b:α}{l:List α}(h:l.Perm [a,b]):l= [a,b]\/l= [b,a]:=by
 have hl:=h.length_eq
 match l,hl with
 | [x,y],_=>
  have hx:x=a\/x=b:=by have:=h.mem_iff.1 (ZAw (a:=x) (l:= [y]));exact V4
  rcases hx with rfl|rfl
  .have:=(List.perm_cons _).1 h;left;rw[List.singleton_perm_singleton.1 this]
  .have:=(List.perm_cons x).1 (h.trans (List.Perm.swap x a []));right;rw[List.singleton_perm_singleton.1 this]
def awR(G:FuncId->Option IFn)(res:List IRes)(rest:IC)(l2:List IOp)(dst:Option Nat)(φ2:J4)(os2:J7)(ρ:W0)(P1 P2 m:W2)(B:List TB)(Y:J7)(l:List (Tx×List Tx)):Bool:=
 match QC ZIH (putO φ2 dst ((D.ptr (Y.length+8) 0).ren (KH ρ os2.length (cpO P1 P2 m Y (.mpo .str false (B.map Ye)) l).length))) (KS ρ os2 (cpO P1 P2 m Y (.mpo .str false (B.map Ye)) l)) l2 with
 |some (true,φ4,os4)=>match ev ZIH [] G 300 rest φ4 os4 with
  |some (.ret,φ5,os5)=>match QG true (λ_ _=>none) φ5 os5 res with
   |some (true,[.x (.bool true)],_)=>true
   |_=>false
  |_=>false
 |_=>false
def awC(G:FuncId->Option IFn)(res:List IRes)(rest:IC)(f:IO)(xs:List IO)(l2:List IOp)(dst:Option Nat)(φ2:J4)(os2:J7):Bool:=
 match(ZG φ2 f).val,xs.map λy=>(ZG φ2 y).val with
 | .fn g [],[.ptr t 0]=>match Yb (ZIb os2 t) os2 with
  | .box _:: .box _:: .mpo _ _ P1:: .mpo _ _ P2:: .mpo _ _ m:: .mpo _ _ b::Y=>
   decide (g=19)&&((ZG φ2 f).cond&&((xs.all λy=>(ZG φ2 y).cond)&&(Kx (ZIb os2 t) [.ptr t 0] os2&&(Nat.beq (inv (ZIb os2 t) t) 0&&(decide ((ZIb os2 t).length<=Y.length+6)&&
    (ZFa (Yb (ZIb os2 t) os2) (KL P1 P2 (.mpo .str true m:: .mpo .str false ((ZMJ Y b).map Ye)::Y))&&(Zbo Y (ZMJ Y b)&&match(ZMJ Y b).map YP with
     | [x,y]=>awR G res rest l2 dst φ2 os2 (ZIb os2 t) P1 P2 m (ZMJ Y b) Y [x,y]&&awR G res rest l2 dst φ2 os2 (ZIb os2 t) P1 P2 m (ZMJ Y b) Y [y,x]
     |_=>false)))))))
  |_=>false
 |_,_=>false
def awT(G:FuncId->Option IFn)(k:Nat):Option IFn->Bool
 |some p=>match evSeq ZIH [] G 300 k p.body [] []with
  |some (φ1,os1)=>match Zc1 k p.body with
   | .seq (.reg (o::⟨dst,.call f xs,none⟩::l2)) rest=>match QC ZIH φ1 os1 [o]with
    |some (true,φ2,os2)=>awC G p.res rest f xs l2 dst φ2 os2
    |_=>false
   |_=>false
  |_=>false
 |none=>false
theorem ZYJ{c:Ctx}{E0:Env}{n:Nat}{res:List IRes}{rest:IC}{l2:List IOp}{dst:Option Nat}{φ2:J4}{os2:J7}{ρ:W0}{P1 P2 m:W2}{B:List TB}{Y:J7}{l:List (Tx×List Tx)}(h:awR (GP Tryz.prog) res rest l2 dst φ2 os2 ρ P1 P2 m B Y l=true):
  ∃φ' os',QC ZIH (putO φ2 dst ((D.ptr (Y.length+8) 0).ren (KH ρ os2.length (cpO P1 P2 m Y (.mpo .str false (B.map Ye)) l).length))) (KS ρ os2 (cpO P1 P2 m Y (.mpo .str false (B.map Ye)) l)) l2=some (true,φ',os')/\
   WI Tryz.prog c E0 [] n rest (λx φ' os'=>(x= .normal\/x= .ret)/\ ∃ds os2,QG true (λ_ _=>none) φ' os' res=some (true,ds,os2)/\mkR ds= .x (.bool true)) φ' os':=by
 unfold awR at h;split at h
 .rename_i φ4 os4 h1;split at h
  .rename_i φ5 os5 h2;split at h
   .rename_i q h3;exact⟨φ4,os4,h1,WI.evE ZKk [] (ZNb _) 300 h2 ⟨.inr rfl,_,_,h3,rfl⟩⟩
   .cases h
  .cases h
 .cases h
theorem ZZF:ZK Tryz.prog 16 [] (.x (.bool true)):=by
 have h:awT (GP Tryz.prog) 6 (GP Tryz.prog 16)=true:=by kernel_rfl
 refine ZH.pure (FG.calls (fz:=true) ?_) rfl;generalize hG:GP Tryz.prog 16=q at h|-;unfold awT at h;split at h
 .rename_i p;refine FG.mk (λC0 E0=> ?_) (KG _);split at h
  .rename_i φ1 os1 hev;split at h
   .rename_i o dst f xs l2 rest hsq;split at h
    .rename_i φ2 os2 hr;refine WI.evSeq ZKk [] (ZNb _) 300 6 hev ?_;rw[hsq];refine WI.seq ?_;unfold awC at h;split at h
     .rename_i g t hv hx;split at h
      .rename_i P1 _ _ P2 _ _ m _ _ b Y hO;simp only[Zk,Ym]at h;obtain⟨rfl,c1,c2,k1,k2,k3,k4,k5,k6⟩:=h;have hB:=Ze0 k5;have hcp:=ZgA P1 P2 m (ZMJ Y b) Y hB;have hin:YA (inv (ZIb os2 t)) [D.ptr t 0]= [.ptr 0 0]:=by
        simp only[YA,D.ren,ZL5 k2]
       have hcp2:=ZH.lift (P:=Tryz.prog) (ρ:=ZIb os2 t) (args:= [.ptr t 0]) (OS:=os2) (Post:=CpP P1 P2 m (ZMJ Y b) Y) k1 (by rw[hin,ZG5 k4];exact hcp) (λr os' ⟨l,_,_,h⟩=>by
        rw[h];refine ZEQ k3 ?_;simp[cpO])
       refine WI.regF ZKk 1 rfl hr (QZ 19) hv c1 c2 (by rw[hx,Ks];exact hcp2) ?_;rintro r os3 ⟨r1,os',⟨l,hl,rfl,rfl⟩,rfl,rfl⟩;split at k6
       .rename_i x y hxy;simp only[Zk]at k6;rw[hxy]at hl;rcases Zc5 hl with rfl|rfl
        .exact ZYJ k6.1
        .exact ZYJ k6.2
       .cases k6
      .cases h
     .cases h
    .cases h
   .cases h
  .cases h
 .cases h
abbrev ZW2:=JF (ZCL .i64) (JF Zn QV)
abbrev ZhI:=Int×(Zc×Unit)
def ZLz:J8->J5
 | []=>some (true,.x (.bool true))
 |_=>none
theorem ZUA:QK Tryz.prog ZLz 16:=by
 intro args r h;unfold ZLz at h;split at h
 .obtain rfl:=Qv h;exact ZZF
 .cases h
theorem ZK.nn1{P:Program}{f:FuncId}{args ds:J8}(h:ZK P f args (.agg ds)):ZK P f args (.agg (ds.map D.nn1)):=by
 intro w st vs hst hvl;refine(h w st vs hst hvl).mono ?_;rintro e w' ⟨v,st',h1,h2,h3,h4,h5⟩;refine⟨v,st',h1,h2,h3,h4,?_⟩;cases h5 with
 |agg us hl h6 hv=>
 refine .agg us Us h6 (λj d u hd hu=> ?_);rw[YE]at hd;obtain⟨d0,hd0,rfl⟩:=Za hd;exact(hv j d0 u hd0 hu).nn1
theorem Zbp:ZK Tryz.prog 17 [] (.agg [.x (.sl [[.str [99,110],.int .i64 1,.bool false],[.str [115,110],.int .i64 1,.bool false],[.str [111,117],.int .i64 1,.bool false],[.str [100,99],.int .i64 1,.bool false],[.str [111],.int .i64 1,.bool false],[.str [100,101,115,99,114,105,112,116,105,111,110],.int .i64 1,.bool false],[.str [109,97,105,108],.int .i64 1,.bool false],[.str [111,98,106,101,99,116,99,108,97,115,115],.int .i64 1,.bool false],[.str [117,115,101,114,112,97,115,115,119,111,114,100],.int .i64 4,.bool true],[.str [117,105,100],.int .i64 1,.bool true],[.str [117,105,100,110,117,109,98,101,114],.int .i64 3,.bool true],[.str [109,101,109,98,101,114],.int .i64 5,.bool false],[.str [115,101,114,105,97,108,110,117,109,98,101,114],.int .i64 2,.bool false]]),.x (.sl [[.str [116,111,112],.sl [],.sl []],[.str [112,101,114,115,111,110],.sl [[.str [99,110]],[.str [115,110]]],.sl [[.str [100,101,115,99,114,105,112,116,105,111,110]],[.str [117,115,101,114,112,97,115,115,119,111,114,100]],[.str [109,97,105,108]],[.str [117,105,100]],[.str [117,105,100,110,117,109,98,101,114]],[.str [115,101,114,105,97,108,110,117,109,98,101,114]],[.str [109,101,109,98,101,114]]]],[.str [111,114,103,97,110,105,122,97,116,105,111,110,97,108,117,110,105,116],.sl [[.str [111,117]]],.sl [[.str [100,101,115,99,114,105,112,116,105,111,110]],[.str [109,101,109,98,101,114]]]],[.str [100,111,109,97,105,110],.sl [[.str [100,99]]],.sl [[.str [100,101,115,99,114,105,112,116,105,111,110]],[.str [111]]]],[.str [103,114,111,117,112],.sl [[.str [99,110]]],.sl [[.str [109,101,109,98,101,114]],[.str [100,101,115,99,114,105,112,116,105,111,110]]]]])]):=
 ZK.nn1 (ds:= [.x (.sl [[.str [99,110],.int .i64 1,.bool false],[.str [115,110],.int .i64 1,.bool false],[.str [111,117],.int .i64 1,.bool false],[.str [100,99],.int .i64 1,.bool false],[.str [111],.int .i64 1,.bool false],[.str [100,101,115,99,114,105,112,116,105,111,110],.int .i64 1,.bool false],[.str [109,97,105,108],.int .i64 1,.bool false],[.str [111,98,106,101,99,116,99,108,97,115,115],.int .i64 1,.bool false],[.str [117,115,101,114,112,97,115,115,119,111,114,100],.int .i64 4,.bool true],[.str [117,105,100],.int .i64 1,.bool true],[.str [117,105,100,110,117,109,98,101,114],.int .i64 3,.bool true],[.str [109,101,109,98,101,114],.int .i64 5,.bool false],[.str [115,101,114,105,97,108,110,117,109,98,101,114],.int .i64 2,.bool false]]),.x (.sl [[.str [116,111,112],.nils,.nils],[.str [112,101,114,115,111,110],.sl [[.str [99,110]],[.str [115,110]]],.sl [[.str [100,101,115,99,114,105,112,116,105,111,110]],[.str [117,115,101,114,112,97,115,115,119,111,114,100]],[.str [109,97,105,108]],[.str [117,105,100]],[.str [117,105,100,110,117,109,98,101,114]],[.str [115,101,114,105,97,108,110,117,109,98,101,114]],[.str [109,101,109,98,101,114]]]],[.str [111,114,103,97,110,105,122,97,116,105,111,110,97,108,117,110,105,116],.sl [[.str [111,117]]],.sl [[.str [100,101,115,99,114,105,112,116,105,111,110]],[.str [109,101,109,98,101,114]]]],[.str [100,111,109,97,105,110],.sl [[.str [100,99]]],.sl [[.str [100,101,115,99,114,105,112,116,105,111,110]],[.str [111]]]],[.str [103,114,111,117,112],.sl [[.str [99,110]]],.sl [[.str [109,101,109,98,101,114]],[.str [100,101,115,99,114,105,112,116,105,111,110]]]]])]) (evP 300 17 ZB [])
theorem Zbz:ZK Tryz.prog 17 [] (.agg [.x (.sl (rows YC plT)),.x (.sl (rows Yl plC))]):=Zbp
def ZL0:J8->J5
 | []=>some (true,.agg [.x (.sl (rows YC plT)),.x (.sl (rows Yl plC))])
 |_=>none
theorem ZUG:QK Tryz.prog ZL0 17:=by
 intro args r h;unfold ZL0 at h;split at h
 .obtain rfl:=Qv h;exact Zbz
 .cases h
theorem ZgO:ZDt plC:=Un
theorem ZfV:ZHx (Zw plT):=Un
theorem ZUb{e:Zc}(h:ZJZ e=true):smE e.2.1:=by
 obtain⟨h1,h2,h3⟩:=ZYu h;exact⟨⟨J0,λa ha=>⟨by have:=(h3 a ha).1;omega,by have:=(h3 a ha).2.1;omega⟩⟩,λa ha v hv=>by have:=(h3 a ha).2.2 v hv;omega⟩
theorem ZYl{L:List (Tx×Zd)}{M:List (Tx×Zo)}{m:EM}{dn:Tx}{a:List ZN}(h:Kf L M m dn a=0):JG dn=true/\ZF m dn=none:=by
 unfold Kf at h;split at h
 .cases h
 .rename_i h1;split at h
  .cases h
  .rename_i h2;exact⟨WC,U9⟩
theorem RelD.back{m:EM}{B:BM}{l:List Zc}(h:RelD m B l)(L:List (Tx×Zd))(M:List (Tx×Zo))(dn:Tx)(a:List ZN)(hs:QD (Zg a))(h0:Kf L M m dn a=0):
  (ZF (Zu m dn (dn,Zg a,())) dn).isSome=true/\(Zu m dn (dn,Zg a,())).length=l.length+1/\ZBV (Zu m dn (dn,Zg a,())) (QT 0 B dn) dn=0/\RelD (Zh (Zu m dn (dn,Zg a,())) dn) (ZCK 0 (QT 0 B dn) dn) l:=by
 obtain⟨hd,hn⟩:=ZYl h0;have hi:=h.inv.add L M dn a hs;unfold ZAj at hi;rw[h0,if_pos rfl]at hi;have hk:dn∉m.map (·.1):=Jy.1 hn;have hne:dn≠ []:=λe=>by rw[e]at hd;exact absurd hd Un
 have hlk:ZF (Zu m dn (dn,Zg a,())) dn=some (dn,Zg a,()):=by rw[ZFo,if_pos rfl]
 have hrow:YJ (QT 0 B dn) dn= []:=by
  apply Zal.2;intro s hs1;obtain⟨h1,h2⟩:=(hi.row dn s).1 hs1;rw[ZMP]at h1;rcases h1 with rfl|h1
  .exact ZRc hd h2
  .rcases h.inv.par s h1 with h3|h3
   .exact hne (h2.symm.trans h3)
   .rw[h2]at h3;exact hk h3
 have hdel:ZBV (Zu m dn (dn,Zg a,())) (QT 0 B dn) dn=0:=by
  unfold ZBV;rw[hlk,hrow,if_neg J1,if_neg J1]
 have hi2:=hi.del dn;rw[hdel]at hi2;unfold ZDi at hi2;rw[if_pos rfl]at hi2;refine⟨by rw[hlk];rfl,by rw[ZBR hn,ZW,h.len];rfl,hdel,hi2,h.so,λe=> ?_,λp hp=> ?_⟩
 .rw[ZHE _ _ hi.kn,ZFo,h.mem];by_cases he:e.1=dn
  .rw[if_pos he,he,hn]
  .rw[if_neg he,if_neg he]
 .have hp2:=(ZA2 _ dn).mem hp;rw[ZBR hn]at hp2;rcases KV.1 hp2 with hp2|hp2
  .exact h.cl p hp2
  .rw[Qf]at hp2;subst hp2;exact ZLe a
def Zb3:J8->J7->Option (Bool×D×J7)
 | [.iref 0 0,.agg [.x (.sl A),.x (.sl B'),.x (.sl R)],.agg [.x (.int .i64 k),.x (.str dn),.x (.sl E)]],[o]=>(unT o).bind λq=>(ZM YC A).bind λT=>(ZM Yl B').bind λC=>(ZM Zn R).bind λl=>(ZM ZL E).map λa=>
  (decide (k=0/\(smT T/\ZDt C/\ZHx (Zw T)/\l.length<=100000/\QD a/\smE a)/\(okT q.2.2.1 q.2.2.2/\QD a/\ZG1 q.2.1 a)),.tup [.agg [.x (.sl (rows YC T)),.x (.sl (rows Yl C)),.x (.sl (rows Zn (ZIn (ZE3 (Zw T) (YQ C) l dn a) l dn a)))],.x (.bool (decide (Kf q.1 q.2.1 q.2.2.1 dn a=ZE3 (Zw T) (YQ C) l dn a)))],[Kv q.1 q.2.1 (ZAj (Kf q.1 q.2.1 q.2.2.1 dn a) q.2.2.1 dn a) (QT (Kf q.1 q.2.1 q.2.2.1 dn a) q.2.2.2 dn)])
 |_,_=>none
theorem Zdt: ∀args os r os',Zb3 args os=some (true,r,os')->ZQ Tryz.prog 20 args os r os':=by
 intro args os r os' h;unfold Zb3 at h;split at h
 .obtain⟨⟨L,M,m,B⟩,h1,h⟩:=Zf h;obtain⟨T,h2,h⟩:=Zf h;obtain⟨C,h3,h⟩:=Zf h;obtain⟨l,h4,h⟩:=Zf h;obtain⟨a,h5,h⟩:=Za h;simp only[YN,Ym]at h;obtain⟨⟨rfl,h6,h7⟩,rfl,rfl⟩:=h;rw[ZFK h1,<-YU JI h2,<-YU JT h3,<-YU Yn h4,<-YU Ze h5];exact ZiK L M m B T C l _ a h6 h7
 .cases h
set_option maxHeartbeats 4000000 in
theorem ZZh(l:List ZhI)(e:Zc):ZK Tryz.prog 7 [.x (.sl (rows ZW2 l)),.agg [.x (.str e.1),.x (.sl (rows ZL e.2.1))]] (.x (.bool true)):=by
 have hrl:=ZP ZW2 l;have hun:=ZTZ (Zw plT) (YQ plC);have hue:ZM ZL (rows ZL e.2.1)=some e.2.1:=ZX Ze e.2.1;have huT:=ZFS plT;have huC:=ZGP plC;refine ZH.pure (fC 7 true ?_) rfl;intro C0 E0;have uu:=ξ9 @ZCt @ZDE @ZDh @ZDa @ZA1 @ZAu @ZJ2.eq_1 @ZJ2.eq_2 (ξ9 @ZQp.eq_1 @ZQp.eq_2 @ZLL.eq_1 @ZLL.eq_2 @ZQ5.eq_1 @ZQ5.eq_2 @Zb3.eq_1 @ZK2.eq_1 (ξ9 @ZK2.eq_2 @ZK3.eq_1 @ZK3.eq_2 @ZQ2.eq_1 @ZQ2.eq_2 @ZWd.eq_1 @ZL0.eq_1 @ZLz.eq_1 (Qt hrl hue huT huC)));have tT:=aR (aR (aR (aT (aT (aT (aT (aT (aQ (aQ (aQ ZB ZUA) ZcA) ZUG) ZQB) Zb2) ZRe) Zc6) Zdt) ZRC) ZSs) ZbN;refine rg [0,3] ?_;refine rg [0,3,19] ?_;refine cd (λh0=> ?_) (λh0=> ?_)
 .refine Wj ?_
  exact Wp
 .have hfe:ZJZ (e.1,e.2.1,())=true:=Wv
  have hse:=ZZE hfe;have hsE:=ZUb hfe;refine rg [0,3,5,6] ?_;refine WI.nnA ?_;refine WI.pickA [6,1,2,3,4,5,0,7] ?_ (ho:=by simp (maxSteps:=10000000) (disch:=decide) only[zV,zO,Ob.mpb,frzL,ZBg,ZCs,onF,Ob.onI,mpP,Jn,Yr,ZAC,D.vw,vwL,D.on,D.inP,JE,Zi,D.ren,YA,inv,Yb,Ob.mp,Ob.ren,D.nn,ZDv,Nat.reduceBEq,Nat.reduceEqDiff,Nat.reduceAdd,↓reduceIte,ZiR,ZiG,ZCt,ZDE];rfl);refine WI.famT 9 Zel [_,_] ?_;refine rg [0,3,5,6,26] ?_;refine ce (λh1=> ?_) (λh1=> ?_)
  .simp at h1
  .refine rg [0,3,5,6,7] ?_;refine WI.loop (λφ os=> ∃(i:Nat) (m:EM) (B:BM) (L:List Zc),φ= [(0,.x (.sl (rows ZW2 l))),(3,.ptr 1 0),(6,.ptr 2 0),(5,.iref 0 0),(7,.x (.int .i64 i))]/\os= [Kv (Zw plT) (YQ plC) m B,.box [.x (.str e.1),.x (.sl (rows ZL e.2.1))],.box [.x (.sl (rows YC plT)),.x (.sl (rows Yl plC)),.x (.sl (rows Zn L))]]/\i<=l.length/\RelD m B L) (ZJ l.length 7) ?_ (λφ os hI=> ?_)
   .exact⟨0,[],[],[],rfl,rfl,J0,Za9⟩
   .obtain⟨i,m,B,L,rfl,rfl,hi,hR⟩:=hI;have hunm:=hun m B;have hLl:L.length<=1024:=by rw[hR.len];exact hR.inv.ln
    have huL:ZM Zn (rows Zn L)=some L:=ZX Yn L;have hrL:=ZP Zn L;have uu:=Qt uu hunm huL hrL;refine rg [0,3,5,6,7,30] ?_;refine cd (λh2=> ?_) (λh2=> ?_)
    .have hi4:i<l.length:=VN
     have hux:ZM ZL (rows ZL l[i].2.1.2.1)=some l[i].2.1.2.1:=ZX Ze _;have uu:=Zz uu hux;refine rg [0,3,5,6,7,46] ?_;refine cd (λh3=> ?_) (λh3=> ?_)
     .have hfx:ZJZ (l[i].2.1.1,l[i].2.1.2.1,())=true/\l[i].1=0:=by clear uu;exact h3
      have hsm:=ZZE hfx.1;have hd1:decide (l[i].1=0/\(smT plT/\ZDt plC/\ZHx (Zw plT)/\L.length<=100000/\QD l[i].2.1.2.1/\smE l[i].2.1.2.1)/\(okT m B/\QD l[i].2.1.2.1/\ZG1 (YQ plC) l[i].2.1.2.1))=true:=ZI ⟨hfx.2,⟨ZaP,ZgO,ZfV,J0,hsm.1,ZUb hfx.1⟩,hR.inv.ok,hsm.1,hsm.2.2⟩;have uu:=Zz uu hd1;refine WI.dregL tT [] [0,3,5,6,7,8] (.box [.x .nils,.x .nils,.x .nils]) ?_;refine lFG ?_;refine lQG ?_;refine lFG ?_;refine lFG ?_;refine lQG ?_;refine lQG ?_;refine lAC ?_;refine lFG ?_;refine lFG ?_;refine lFG ?_;refine lLG ?_;refine lBG ?_;refine lFG ?_;refine lN ?_;refine rg [0,3,5,6,7] ?_;refine WI.pickA [0,1,2] ?_;refine WI.orderA [0,3,6,5,7] ?_;refine rg [0,3,5,6,7] ?_
      exact TS
     .refine WI.pickA [0,1,2] ?_;refine WI.orderA [0,3,6,5,7] ?_;refine rg [0,3,5,6,7] ?_
      exact TS
    .have hd2:decide (okT m B/\QD e.2.1/\ZG1 (YQ plC) e.2.1)=true:=ZI ⟨hR.inv.ok,hse.1,hse.2.2⟩;have uu:=Zz uu hd2;refine rg [3,5,6,61] ?_;refine cd (λh4=> ?_) (λh4=> ?_)
     .have hne: ¬Kf (Zw plT) (YQ plC) m e.1 e.2.1=0:=Nn
      have hs5:=ZI hR.same;rw[show ZAj (Kf (Zw plT) (YQ plC) m e.1 e.2.1) m e.1 e.2.1=m from if_neg hne,show QT (Kf (Zw plT) (YQ plC) m e.1 e.2.1) B e.1=B from if_neg hne];have uu:=Zz uu hs5;refine Wj ?_
      exact Wp
     .have hc0:Kf (Zw plT) (YQ plC) m e.1 e.2.1=0:=Nn
      obtain⟨f1,f2,f3,f4⟩:=hR.back (Zw plT) (YQ plC) e.1 e.2.1 hse.2.1 hc0;have hi2:=hR.inv.add (Zw plT) (YQ plC) e.1 e.2.1 hse.2.1;rw[hc0]at hi2|-;rw[show ZAj 0 m e.1 e.2.1=Zu m e.1 (e.1,Zg e.2.1,())from if_pos rfl]at hi2|-;generalize Zu m e.1 (e.1,Zg e.2.1,())=m2 at f1 f2 f3 f4 hi2|-;generalize QT 0 B e.1=B2 at f3 f4 hi2|-;have g1:=hun m2 B2;have g2:=hun (Zh m2 e.1) (ZCK 0 B2 e.1);have g3:=ZI hi2.ok;have g4:=ZI (hi2.okDn e.1);have g5:=ZI f4.same;have g6:ZDi 0 m2 e.1=Zh m2 e.1:=if_pos rfl;have g7:(m2.length:Int)=(L.length:Int)+1:=Wl
      have uu:=ξ9 uu f1 f3 g1 g2 g3 g4 g5 (Zz g6 g7);refine rg [3,5,6,11] ?_;refine WI.dregB tT [4] ?_
      refine Wo ?_;refine Zm ?_;refine dQC ?_;refine Zm ?_;refine VK ?_;refine Vo ?_;refine Zm ?_;refine ZU ?_;refine Vo ?_;refine Qx ?_;refine dAC ?_;refine Vo ?_;refine ZU ?_;refine Zm ?_;refine Qx ?_;refine dAC ?_;refine Zm ?_;refine ZU ?_;refine dAC ?_;refine Zm ?_;refine ZU ?_;refine VJ ?_;refine lf ?_
      exact Wp
end Go.Proofs.YtiogclkbccdefaaGreatDoor
end
