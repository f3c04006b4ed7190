import Derived.Test.YtpjfdjcejamebaaGreatDoorMA2
import Derived.Test.YtpjfdjcejamebaaGreatDoorMA1
import Derived.Test.YtpjfdjcejamebaaGreatDoorLA5
set_option linter.unusedSimpArgs false
set_option linter.unusedVariables false
set_option maxRecDepth 100000
section
namespace Go.Proofs.YtpjfdjcejamebaaGreatDoor
open Go.RowKit Go.Bo Go.Ab
def ZIy:J8->J5
 | [.x (.str s)]=>some (decide (s.length<=1000000),.x (.str (fld s)))
 |_=>none
theorem ZW6: ∀args r,ZIy args=some (true,r)->ZC Tryz.prog 140 args r:=by
 intro args r h;unfold ZIy at h;split at h
 .rename_i s;simp only[Ze,Za,ZT,Zc,true_and]at h;obtain⟨h1,rfl⟩:=h;exact(ZhG s h1)
 .cases h
theorem ZTp:Enters Tryz.prog 131:=ZU 131
def ZGp:Tabs:=Jt (ZR (ZR (ZR (ZO) 37 QO) 140 ZIy) 143 Qo) 143 (Qz Qo)
theorem Kb:SsOk Tryz.prog ZGp:=Yz (ZG (ZG (ZG (ZD) (ZU 37) ZJy) (ZU 140) ZW6) (ZU 143) ZG4) (ZU 143) (ZEI ZG4)
theorem ZdW:(∀a,ZGp.q 37 a=QO a)/\(∀a,ZGp.q 140 a=ZIy a)/\(∀a,ZGp.q 143 a=Qo a)/\(∀a o,ZGp.t 143 a o=Yo (Qz Qo) a o)/\(∀f a o,ZGp.r f a o=none)/\(∀f a o,ZGp.k f a o=none):=⟨λ_=>rfl,λ_=>rfl,λ_=>rfl,λ_ _=>rfl,λ_ _ _=>rfl,λ_ _ _=>rfl⟩
def FZ(d:Dn):J7:=ZF8 2 (d.map (rows Zn))
theorem Zhx(d:Dn):(FZ d).length=d.length:=by unfold FZ;rw[ZHE,Yb]
theorem Ze6(d:Dn):frzL (List.range' 1 d.length) (obD d)= .drw 159 1 (RF d)::FZ d:=by
 have h:=ZUj (.drw 159 1 (RF d)) 161 2 (d.map (rows Zn)) [];rw[Yb]at h;exact h
theorem Zfl(d:Dn):ZCs [0] (.drw 159 1 (RF d)::FZ d)= [.drw 159 1 (KN (rows JV d))]:=by
 have h3:=Zf4 159 2 (d.map (rows Zn));have h4:((d.map (rows Zn)).map λrs=> [X.sl rs])=rows JV d:=by rw[Js];rfl
 rw[h4]at h3;exact h3
set_option maxHeartbeats 4000000 in
theorem ZeI(s:Tx)(d:Dn)(hq:YN s=(d,0))(hne:s≠ []):ZC Tryz.prog 106 [.x (.str s)] (.tup [.x (.str (JA s).1),.x (.int .i64 (JA s).2)]):=by
 obtain⟨hs4,-,hd0,-,hck⟩:=ZJz s d hq hne;have hsm:smD d:=by
  have:=ZG2 s J0;unfold ZAk ZCN at this;rw[Js]at this;rw[hd0];exact this
 obtain⟨hd32,hmay⟩:=ZEL hck;have hn:JA s=if d.all KB=true then QU (d.map Jk)else([],5):=by
  unfold JA;rw[hq];simp
 have hread:=ZfQ s d hq hne;clear hq hne hs4 hd0 hck;rcases hu:JA s with⟨u,e⟩
 rw[hn]at hu;clear hn;refine ZI.pure (fC 106 true ?_) rfl;intro C0 E0;have uu:=KJ @QO.eq_1 @QO.eq_2 @ZIy.eq_1 @ZIy.eq_2 @Qo.eq_1 @Qo.eq_2 @ZJR @ZJn (ξ4 @ZJQ @ZJj @ZdW @Qz.eq_1);refine WI.seq ?_;refine WI.regB Kb [0] ?_
 iterate 2 refine oS ?_
 refine oN ?_;refine ZB ?_;refine WI.seq ?_;refine WI.regB (ZDZ ZD ZTp hread) [4,5] ?_;refine oS ?_;refine oC ?_;refine oS ?_
 iterate 2 refine oG ?_
 iterate 2 refine oS ?_
 refine oN ?_;refine ZB ?_;refine WI.seq ?_;refine WI.seq ?_;refine WI.regB Kb [4,5,16] ?_;refine oS ?_;refine oG ?_;refine oN ?_;refine ZB ?_;refine WI.cond (b:=_) rfl rfl (λh0=> ?_) (λh0=> ?_)
 .exfalso;simp at h0
 .try simp only[zB]at h0
  refine WI.skip ?_;refine ZB ?_;refine WI.seq ?_;refine WI.seq ?_;have uu:=YZ uu (ZOV d);refine WI.regB Kb [4,18,19,20] ?_;refine oS ?_;refine oG ?_;refine oS ?_;refine oN ?_;refine ZB ?_;refine WI.block ?_;refine WI.loop (λφ os=> ∃(j:Nat) (M:Dn),φ= [(4,.ref 0 d.length 0 d.length),(18,.ref 0 d.length 0 d.length),(19,.x (.int .i64 d.length)),(20,.x (.int .i64 j))]/\os=obD M/\j<=d.length/\M=ZDE d j/\(d.take j).all KB=true) (ZK d.length 20) ?_ (λφ os hI=> ?_)
  .exact⟨0,d,rfl,rfl,J0,(ZZt d).symm,rfl⟩
  .obtain⟨j,M,rfl,rfl,hj,hM,hall⟩:=hI;have hMl:M.length=d.length:=by rw[hM,Zat]
   have hRl:=ZOV M;have hFl:=ZLG M;rw[hMl]at hRl hFl;refine WI.seq ?_;refine WI.regB Kb [4,18,19,20,21] ?_;refine oG ?_;refine oN ?_;refine ZB ?_;refine WI.seq ?_;refine WI.cond (b:=_) rfl rfl (λh1=> ?_) (λh1=> ?_)
   .try simp only[zB]at h1
    refine WI.skip ?_;refine ZB ?_;refine WI.seq ?_;refine WI.block ?_;refine WI.seq ?_;have hj4:j<d.length:=by omega
    have hMj:M.getD j []=d.getD j []:=by rw[hM];exact Zf2 d j hj4
    have hrf:=ZXn M j J0;have hfm:=ZL1 M j J0;rw[hMj]at hrf hfm;have hdj:d[j]=d.getD j []:=by simp[hj4]
    have hmr:Yh (d.getD j [])=true:=by rw[<-hdj];exact hmay _ (YM hj4)
    have hM2:ZDE d (j+1)=M.set j (Jk (d.getD j [])):=by rw[hM];exact(Zcg d j hj4).symm
    have hM0:M=M.set j (ZBM (d.getD j []) 0):=by rw[ZYh,<-hMj];exact(ZPz M j).symm
    have hall3:(d.take (j+1)).all KB=((d.take j).all KB&&KB (d.getD j [])):=by rw[JL _ d j hj4,hdj]
    have hnf:KB (d.getD j [])=false->d.all KB=false:=λh=>Zw KB d j hj4 (by rw[hdj];exact h)
    generalize hr:d.getD j []=r at hMj hrf hfm hmr hM2 hM0 hall3 hnf;obtain⟨hr8,hr1,hpb⟩:=ZBz hmr;have uu:=ξ4 uu hrf hfm hRl;refine WI.regB Kb [4,7,18,19,20] ?_
    iterate 2 refine oG ?_
    refine oS ?_;refine oN ?_;refine ZB ?_;refine WI.seq ?_;refine WI.seq ?_;refine WI.regB Kb [4,7,18,19,20,24,25,26] ?_;refine oS ?_;refine oG ?_;refine oS ?_;refine oN ?_;refine ZB ?_;refine WI.block ?_;refine WI.orderA [4,7,18,19,20,24,25,26] ?_;have hFs: ∀x:List Av,(FM (M.set j x)).length=d.length:=λx=>by rw[ZLG,ZJq,hMl]
    have hFb: ∀(x:List Av) (y:Ob),(FM (M.set j x)++ [y])[d.length]? =some y:=λx y=>by rw[Qe (by rw[hFs];exact Zm _),hFs,ZIN];rfl
    have hFc: ∀(x:List Av) (y z:Ob),(FM (M.set j x)++ [y]).set d.length z=FM (M.set j x)++ [z]:=λx y z=>by rw[ZEy _ _ (by rw[hFs];exact Zm _),hFs,ZIN];rfl
    have hFg: ∀(x:List Av) (Y:J7),(FM (M.set j x)++Y)[j]? =some (.rows false 161 2 (rows Zn x)):=λx Y=>by rw[ZXN _ _ j (by rw[ZJq];omega),show(M.set j x).getD j []=x by simp[hMl,hj4]]
    have hFg': ∀(x:List Av),(FM (M.set j x))[j]? =some (.rows false 161 2 (rows Zn x)):=λx=>by have:=hFg x [];rwa [Kj]at this
    have hFt: ∀(x z:List Av) (Y:J7),(FM (M.set j x)++Y).set j (.rows false 161 2 (rows Zn z))=FM (M.set j z)++Y:=λx z Y=>by rw[ZZ1 _ _ j (by rw[ZJq];omega),List.set_set]
    have hIn: ∀x:List Av,x.length=r.length->(Ob.drw 159 1 (RF M)::FM (M.set j x)).all (Ob.inP (λi=>decide (i<(Ob.drw 159 1 (RF M)::FM (M.set j x)).length)))=true:=λx hx=>by rw[<-ZaI M j x (by rw[hMj];exact hx)];exact ZUx _
    have uu:=ξ7 uu hFs hFb hFc hFg hFg' hFt;refine WI.loop (λφ os=> ∃(k:Nat),φ= [(4,.ref 0 d.length 0 d.length),(7,.ref (j+1) r.length 0 r.length),(18,.ref 0 d.length 0 d.length),(19,.x (.int .i64 d.length)),(20,.x (.int .i64 j)),(24,.ref (j+1) r.length 0 r.length),(25,.x (.int .i64 r.length)),(26,.x (.int .i64 k))]/\os= .drw 159 1 (RF M)::FM (M.set j (ZBM r k))/\k<=r.length/\(r.take k).all (λp=> !(fld p.2== []))=true) (ZK r.length 26) ?_ (λφ os hI=> ?_)
    .exact⟨0,rfl,by rw[<-hM0],J0,rfl⟩
    .obtain⟨k,rfl,rfl,hk,hkall⟩:=hI;refine WI.seq ?_;refine WI.regB Kb [4,7,18,19,20,24,25,26,27] ?_;refine oG ?_;refine oN ?_;refine ZB ?_;refine WI.seq ?_;refine WI.cond (b:=_) rfl rfl (λh2=> ?_) (λh2=> ?_)
     .try simp only[zB]at h2
      refine WI.skip ?_;refine ZB ?_;refine WI.seq ?_;refine WI.block ?_;refine WI.seq ?_;have hk4:k<r.length:=by omega
      have hka:=Zfb r k hk4;have hka2:=ZdE r k hk4;have hks:=ZcN r k hk4;have hml:=ZTX r k;have hml2:=ZTX r (k+1);have hpk:(r.getD k ([],[])).1.length<=64/\(r.getD k ([],[])).2.length<=256:=by rw[show r.getD k ([],[])=r[k] by simp[hk4]];exact hpb _ (YM hk4)
      have hka3:(r.take (k+1)).all (λp=> !(fld p.2== []))=((r.take k).all (λp=> !(fld p.2== []))&& !(fld (r.getD k ([],[])).2== [])):=by rw[JL _ r k hk4,show r.getD k ([],[])=r[k] by simp[hk4]]
      have hnk:fld (r.getD k ([],[])).2= []->KB r=false:=λh=>Zw _ r k hk4 (by rw[show r[k]=r.getD k ([],[]) by simp[hk4],h];rfl)
      generalize r.getD k ([],[])=p at hka hka2 hks hpk hka3 hnk;have hs1:decide (p.1.length<=1000000)=true:=ZL J0;have hs2:decide (p.2.length<=1000000)=true:=ZL J0;have uu:=ξ8 uu hka hml hs1 hs2 hka2 hml2 hks;refine WI.regB Kb [4,7,8,9,18,19,20,24,25,26] ?_;refine oS ?_
      iterate 3 refine oG ?_
      refine oS ?_;refine oG ?_;refine oN ?_;refine ZB ?_;refine WI.seq ?_;refine WI.post ?_;refine WI.dregB Kb [4,7,8,18,19,20,24,25,26] ?_
      iterate 3 refine YD ?_
      refine JO ?_;refine dQC ?_;refine YD ?_;refine JO ?_;refine dAC ?_;refine KR ?_
      iterate 2 refine dAG ?_
      refine dP ?_;refine ZNh (.drw 159 1 (RF M)::FM (M.set j (ZBM r (k+1)))) _ rfl (KE _) (hIn _ hml2) (by simp only[ZAe,ZGw,D.inP,JG,hFs];simp;omega) ?_;refine KM ?_;refine ZB ?_;refine WI.seq ?_;refine WI.regB Kb [4,7,18,19,20,24,25,26,46] ?_
      iterate 2 refine oS ?_
      refine oG ?_;refine oS ?_
      iterate 2 refine oG ?_
      refine oN ?_;refine ZB ?_;refine WI.cond (b:=_) rfl rfl (λh3=> ?_) (λh3=> ?_)
      .try simp only[zB]at h3
       have hfe:fld p.2= []:=by simpa using h3
       rw[if_neg (by rw[hnf (hnk hfe)];decide)]at hu;cases hu;refine WI.seq ?_;refine WI.regB Kb [2,3] ?_
       iterate 2 refine oS ?_
       refine oN ?_;refine ZB ?_;refine WI.ret ?_;refine ZAA ?_;refine Yy ?_;refine Yy ?_;refine ZAA ?_;refine Yy ?_;refine ZAA ?_;refine Yy ?_;refine Yy ?_;refine ZAA ?_;refine Yy ?_
       first|refine lfR ?_|refine ZCE ?_|refine ZBv ?_|refine ZCG ?_
       rfl
      .try simp only[zB]at h3
       have hkall2:(r.take (k+1)).all (λp=> !(fld p.2== []))=true:=by rw[hka3,hkall];simpa using h3
       refine WI.skip ?_;refine QR ?_;refine ZB ?_;refine WI.orderA [4,7,18,19,20,24,25,26] ?_;refine WI.regB Kb [4,7,18,19,20,24,25,26] ?_;refine oG ?_;refine oS ?_;refine oN ?_;refine ZB ?_;exact⟨⟨k+1,rfl,rfl,J0,hkall2⟩,by simp[ZK,Ab.get,D.val,ZE];omega⟩
     .try simp only[zB]at h2
      refine WI.exit ?_;refine KP ?_;refine KP ?_;refine ZBx ?_;refine ZB ?_;obtain rfl:k=r.length:=by omega
      rw[JS]at hkall;rw[Zbc];have hrn:(r.map ZCr).length=r.length:=Yb ..;have hsc:=Zf8 161 (r.map ZCr) (ZXu hmr) (by intro hh;rw[hh]at hrn;simp at hrn;omega) J0;rw[hrn]at hsc;have hsr:=ZN.row (args:= [.ref (j+1) r.length 0 r.length,.fn 142 []]) (OS:= .drw 159 1 (RF M)::FM (M.set j (r.map ZCr))) (j+1) (by rw[show Zy (inv [j+1]) [D.ref (j+1) r.length 0 r.length,.fn 142 []]= [D.ref 0 r.length 0 r.length,.fn 142 []] by simp only[Zy,D.ren,inv,if_true]];exact hsc) (by rw[ZCD];exact hFg' _) rfl (by simp[Yr,D.inP,Zq]) (λf=>rfl);have hft2:=hFt (r.map ZCr) (ZAd (r.map ZCr)) [];rw[Kj,Kj]at hft2;rw[ZCp,hft2]at hsr;have hM3:RF M=RF (ZDE d (j+1)):=by rw[hM2];exact(ZaI M j _ (by rw[ZRf,hMj])).symm
      have hM4:FM (M.set j (ZAd (r.map ZCr)))=FM (ZDE d (j+1)):=by rw[hM2];rfl
      rw[hM4]at hsr;rw[hM3]at hsr|-;have hall2:(d.take (j+1)).all KB=true:=by rw[hall3,hall];exact hkall
      have uu:=YZ uu hrn;refine WI.regB (ZDZ ZD ZRt hsr) [4,18,19,20] ?_;refine oS ?_;refine oC ?_;refine oN ?_;refine QR ?_;refine ZB ?_;refine WI.orderA [4,18,19,20] ?_;refine WI.regB Kb [4,18,19,20] ?_;refine oG ?_;refine oS ?_;refine oN ?_;refine ZB ?_;exact⟨⟨j+1,ZDE d (j+1),rfl,rfl,J0,rfl,hall2⟩,by simp[ZK,Ab.get,D.val,ZE];omega⟩
   .try simp only[zB]at h1
    refine WI.exit ?_;refine KP ?_;refine KP ?_;refine ZBx ?_;refine ZB ?_;refine WI.seq ?_;obtain rfl:j=d.length:=by omega
    rw[JS]at hall;rw[if_pos hall]at hu;rw[Zax]at hM;subst hM;have hdl:(d.map Jk).length=d.length:=Yb ..;rw[<-hdl];refine WI.orderA [4] ?_;refine WI.freeze (List.range' 1 (d.map Jk).length) ?_;rw[Ze6];refine WI.pickA [0] (φ':= [(4,.ref 0 (d.map Jk).length 0 (d.map Jk).length)]) ?_ (hok:=by rw[JG,Zhx];simp[ZPc,QY,Zq]) (hp:=rfl) (ho:=Zfl (d.map Jk));refine WI.toXA 0 ?_;have hsn:smD (d.map Jk):=by
     intro r hr p hp;obtain⟨q,hq,rfl⟩:=YT.1 hr;obtain⟨x,hx,rfl⟩:=YT.1 ((ZFu _).mem_iff.1 hp);have:=((ZBz (hmay q hq)).2.2 x hx).1;show(ZH x.1).length<=900000;unfold ZH;rw[Yb];omega
    have hsnd:decide (smD (d.map Jk))=true:=ZL hsn;have htk:(d.map Jk).take (d.map Jk).length=d.map Jk:=JS;have uu:=ξ4 uu hsnd (ZLR (d.map Jk)) htk;refine WI.regB Kb [2,3] ?_;refine oS ?_;refine oC ?_
    iterate 2 refine oG ?_
    iterate 2 refine oS ?_
    refine oN ?_;refine ZB ?_;refine WI.ret ?_
    first|refine lfR ?_|refine ZCE ?_|refine ZBv ?_|refine ZCG ?_
    rw[hu]
theorem ZPu:YN []=([],0):=by unfold YN;simp
def ZLl:Tabs:=ZR (ZR (ZO) 131 Qk) 143 Qo
theorem ZQr:SsOk Tryz.prog ZLl:=ZG (ZG (ZD) (ZU 131) ZIA) (ZU 143) ZG4
theorem ZS3:(∀a,ZLl.q 131 a=Qk a)/\(∀a,ZLl.q 143 a=Qo a)/\(∀f a o,ZLl.r f a o=none)/\(∀f a o,ZLl.k f a o=none):=⟨λ_=>rfl,λ_=>rfl,λ_ _ _=>rfl,λ_ _ _=>rfl⟩
theorem Zfa(s:Tx)(h:(YN s).2≠0):ZC Tryz.prog 106 [.x (.str s)] (.tup [.x (.str (JA s).1),.x (.int .i64 (JA s).2)]):=by
 rcases hu:JA s with⟨u,e⟩
 unfold JA at hu;rw[if_pos h]at hu;cases hu;refine ZI.pure (fC 106 true ?_) rfl;intro C0 E0;have uu:=ξ5 @Qk.eq_1 @Qk.eq_2 @ZS3 @Qo.eq_1 @Qo.eq_2;have tT:=ZQr;refine nz ?_;refine rg tT [0] ?_;refine rg tT [4,5] ?_;refine rg tT [4,5,16] ?_;refine cd (λh0=> ?_) (λh0=> ?_)
 .refine rg tT [2,3] ?_;refine lf ?_
  first|rfl|exact⟨rfl,rfl⟩|trivial
 .exact absurd (by simpa using h0) h
theorem Zef:ZC Tryz.prog 106 [.x (.str [])] (.tup [.x (.str (JA []).1),.x (.int .i64 (JA []).2)]):=by
 have h1:YN []=([],0):=ZPu;have h2:JA []=QU []:=by unfold JA;rw[h1];simp
 have h3:decide (smD [])=true:=by decide
 have h4:ZV JV (rows JV [])=some []:=ZLR [];rw[h2];refine ZI.pure (fC 106 true ?_) rfl;intro C0 E0;have uu:=ξ8 @Qk.eq_1 @Qk.eq_2 @Qo.eq_1 @Qo.eq_2 h1 h3 h4 @ZS3;have tT:=ZQr;refine nz ?_;refine rg tT [0] ?_;refine rg tT [4,5] ?_;refine rg tT [4,5,16] ?_;refine ce (λh0=> ?_) (λh0=> ?_)
 .simp at h0
 .refine rg tT [4,18,19,20] ?_;refine WI.loop (λφ os=>φ= [(4,.x (.sl (rows JV []))),(18,.x (.sl (rows JV []))),(19,.x (.int .i64 0)),(20,.x (.int .i64 0))]/\os= []) (ZK 0 20) ?_ (λφ os hI=> ?_)
  .exact⟨rfl,rfl⟩
  .obtain⟨rfl,rfl⟩:=hI;refine nz ?_;refine rg tT [4,18,19,20,21] ?_;refine ce (λh1=> ?_) (λh1=> ?_)
   .simp at h1
   .refine rg tT [2,3] ?_;refine lf ?_
    first|rfl|exact⟨rfl,rfl⟩|trivial
theorem Zfj(s:Tx):ZC Tryz.prog 106 [.x (.str s)] (.tup [.x (.str (JA s).1),.x (.int .i64 (JA s).2)]):=by
 by_cases h:(YN s).2=0
 .by_cases hs:s= []
  .subst hs;exact Zef
  .exact ZeI s (YN s).1 (by rw[<-h]) hs
 .exact Zfa s h
def ZCU(p:Av):List Av->Nat
 | []=>0
 |q::o=>if Op.bytesLess q.1 p.1=true then ZCU p o+1 else 0
theorem ZVM(p:Av): ∀o,ZCU p o<=o.length
 | []=>by simp[ZCU]
 |q::o=>by have:=ZVM p o;unfold ZCU;split<;>simp;omega
theorem ZUN(p:Av): ∀o,ZDI p o=o.take (ZCU p o)++p::o.drop (ZCU p o)
 | []=>rfl
 |q::o=>by
  unfold ZDI ZCU;split
  .rw[ZUN p o];rfl
  .rfl
theorem ZUh(p:Av): ∀(o:List Av) (k:Nat),k<=ZCU p o-> ∀h:k<o.length,Op.bytesLess o[k].1 p.1=true->k+1<=ZCU p o
 |q::o,0,_,_,hb=>by unfold ZCU;rw[if_pos (by simpa using hb)];omega
 |q::o,k+1,hk,h,hb=>by
  unfold ZCU at hk|-;split at hk
  .rename_i hl;rw[if_pos hl];have:=ZUh p o k J0 (by simpa using h) (by simpa using hb);omega
  .omega
theorem ZLU(p:Av): ∀(o:List Av) (k:Nat),k<=ZCU p o->(∀h:k<o.length,Op.bytesLess o[k].1 p.1=false)->k=ZCU p o
 | [],k,hk,_=>by simp[ZCU]at hk|-;omega
 |q::o,0,_,h=>by
  unfold ZCU;have:=h J1;rw[if_neg (by simpa using this)]
 |q::o,k+1,hk,h=>by
  unfold ZCU at hk|-;split at hk
  .rename_i hl;rw[if_pos hl];have:=ZLU p o k J0 (λh2=>h (Nat.succ_lt_succ h2));omega
  .omega
theorem ZVB(s:List UInt8):ZH (ZH s)=ZH s:=by
 unfold ZH;rw[Js];refine ZBF λc _=> ?_
 show QF (QF c)=QF c;by_cases h:65<=c.toNat/\c.toNat<=90
 .have:=ZIt h;exact ZEx J0
 .rw[ZEx h,ZEx h]
theorem ZUl(c:UInt8):QF c=32↔c=32:=by
 by_cases h:65<=c.toNat/\c.toNat<=90
 .have h1:=ZIt h;constructor
  .intro e;rw[e]at h1;simp at h1;omega
  .rintro rfl;simp at h
 .rw[ZEx h]
theorem ZU6: ∀s,Ki 32 (ZH s)=(Ki 32 s).map ZH
 | []=>rfl
 |b::l=>by
  have ih:=ZU6 l;show Ki 32 (QF b::ZH l)=_;unfold Ki;by_cases h:b=32
  .rw[if_pos ((ZUl b).2 h),if_pos h,ih];rfl
  .rw[if_neg (λk=>h ((ZUl b).1 k)),if_neg h,ih];cases Ki 32 l with
   |nil=>rfl
   |cons x r=>rfl
theorem ZYD(s:List UInt8):ZEb (ZH s)=(ZEb s).map ZH:=by
 unfold ZEb;rw[ZU6,List.filter_map];congr 1;refine List.filter_congr λx _=> ?_
 simp[ZH]
theorem ZZm: ∀l:List (List UInt8),jn (l.map ZH)=ZH (jn l)
 | []=>rfl
 | [x]=>rfl
 |x::y::r=>by
  have:=ZZm (y::r);show ZH x++32::jn ((y::r).map ZH)=ZH (x++32::jn (y::r));rw[this];unfold ZH;rw[Ji,YO];rfl
theorem Zfw(s:Tx):blk (ZH s)=ZH (blk s):=by
 show jn (ZEb (ZH s))=ZH (jn (ZEb s));rw[ZYD,ZZm]
def stW:Tx->Bool
 | []=>false
 |c::_=> !decide (c=32)
def gB:Bool->Tx->Tx
 |_,[]=> []
 |st,c::r=>if c=32 then(if(st&&stW r)=true then 32::gB st r else gB st r)else c::gB true r
def jW(l:List Tx):Tx:=if l= []then []else 32::jn l
theorem ZUy(x:Tx)(l:List Tx):jn (x::l)=x++jW l:=by
 unfold jW;split
 .rename_i h;subst h;simp[jn]
 .rename_i h;rw[Zd2 h]
theorem ZUo(r:Tx): ∃h t,Ki 32 r=h::t/\(stW r=true↔h≠ []):=by
 rcases r with _|⟨c,r⟩
 .exact⟨[],[],rfl,by simp[stW]⟩
 .unfold Ki;by_cases hc:c=32
  .exact⟨[],Ki 32 r,by rw[if_pos hc],by simp[stW,hc]⟩
  .rw[if_neg hc];split
   .rename_i x l _;exact⟨c::x,l,rfl,by simp[stW,hc]⟩
   .exact⟨[c],[],rfl,by simp[stW,hc]⟩
theorem ZT6: ∀(s:Tx) (h:Tx) (t:List Tx),Ki 32 s=h::t->gB true s=h++jW (t.filter λx=>decide (x≠ []))/\gB false s=jn ((h::t).filter λx=>decide (x≠ []))
 | [],h,t,e=>by
  simp only[Ki,ZF1]at e;obtain⟨rfl,rfl⟩:=e;simp[gB,jW,jn]
 |c::r,h,t,e=>by
  obtain⟨h',t',e',hst⟩:=ZUo r;obtain⟨ih1,ih2⟩:=ZT6 r h' t' e';by_cases hc:c=32
  .have e2:Ki 32 (c::r)= []::Ki 32 r:=by rw[Ki,if_pos hc]
   rw[e2,e',ZF1]at e;obtain⟨rfl,rfl⟩:=e;unfold gB;rw[if_pos hc,if_pos hc];refine⟨?_,?_⟩
   .by_cases hs:stW r=true
    .have hn:=hst.1 hs;rw[hs,ZBP,if_pos rfl,ih1,ZAy,ZIF,if_pos (by simpa using hn)]
     conv=>rhs;unfold jW
     rw[if_neg J1,ZUy]
    .have hn:h'= []:=by by_cases hh:h'= [];exact hh;exact absurd (hst.2 hh) hs
     subst hn;rw[if_neg (by simp[hs]),ih1,ZIF];simp
   .rw[ZHM,if_neg (by decide),ih2];exact congrArg jn (by conv=>rhs;rw[ZIF,if_neg J1])
  .have e2:Ki 32 (c::r)=(c::h')::t':=by rw[Ki,if_neg hc,e']
   rw[e2,ZF1]at e;obtain⟨rfl,rfl⟩:=e;unfold gB;rw[if_neg hc,if_neg hc,ih1];refine⟨rfl,?_⟩;rw[ZIF,if_pos J1,ZUy];rfl
theorem ZgT(s:Tx):gB false s=blk s:=by
 obtain⟨h,t,e,-⟩:=ZUo s;rw[(ZT6 s h t e).2,<-e];rfl
theorem ZUT(s:Tx)(j:Nat)(h:j<s.length):s.drop j=s.getD j 0::s.drop (j+1):=by
 rw[ZEY h];simp[h]
theorem ZhM(s:Tx)(j:Nat):stW (s.drop j)=decide (j<s.length/\s.getD j 0≠32):=by
 by_cases h:j<s.length
 .rw[ZUT s j h];simp[stW,h]
 .rw[ZBl J0];simp[stW];intro hh;omega
theorem Zfz(s:Tx)(j:Nat)(h:j<s.length):List.drop j (List.take ((j:Int)+1).toNat s)= [s.getD j 0]:=by
 rw[show((j:Int)+1).toNat=j+1 by omega,Jg h,Zbb (by simp;omega),ZBl (by simp;omega)];simp[h]
theorem ZVf{c:UInt8}:c≠32↔(c.toNat:Int)≠32:=⟨λh e=>h (ZMx.1 (by show c.toNat=32;omega)),λh e=>h (by rw[e];rfl)⟩
theorem ZT5(o:Tx)(c:UInt8):((o++ [c])== [])=false:=by cases o<;>rfl
theorem Zgt(s:Tx)(hl:s.length<=1000000):ZC Tryz.prog 108 [.x (.str s)] (.x (.str (blk s))):=by
 refine ZI.pure (fC 108 true ?_) rfl;intro C0 E0;have uu:=trivial;have tT:=(ZD:SsOk Tryz.prog ZO);refine nz ?_;refine rg tT [0] ?_;refine rg tT [0,3] ?_;refine rg tT [0,3,4] ?_;refine WI.loop (λφ os=> ∃(j:Nat) (o:Tx),φ= [(0,.x (.str s)),(3,.x (.str o)),(4,.x (.int .i64 j))]/\os= []/\j<=s.length/\o.length<=j/\o++gB (!(o== [])) (s.drop j)=blk s) (ZK s.length 4) ?_ (λφ os hI=> ?_)
 .exact⟨0,[],rfl,rfl,J0,Zm _,by rw[ZBy];exact ZgT s⟩
 .obtain⟨j,o,rfl,rfl,hj,hol,hso⟩:=hI;refine nz ?_;refine rg tT [0,3,4,8] ?_;refine cd (λh0=> ?_) (λh0=> ?_)
  .have hj4:j<s.length:=by omega
   have hda:=ZUT s j hj4;rw[hda]at hso;have hsl:=Zfz s j hj4;have hw:=ZhM s (j+1);have uu:=YZ uu hsl;refine rg tT [0,3,4,14] ?_;refine cd (λh1=> ?_) (λh1=> ?_)
   .have hc:s.getD j 0≠32:=ZVf.2 (by simpa using h1);have hs2:(o++ [s.getD j 0])++gB (!((o++ [s.getD j 0])== [])) (s.drop (j+1))=blk s:=by
     rw[<-hso]
     conv=>rhs;unfold gB
     rw[if_neg hc,ZT5];simp
    refine rg tT [0,3,4] ?_;refine rg tT [0,3,4] ?_;exact⟨⟨j+1,_,rfl,rfl,J0,by first|omega|(rw[Zg];simp;omega),hs2⟩,by simp[ZK,Ab.get,D.val,ZE];omega⟩
   .have hc:s.getD j 0=32:=ZMZ λhh=>ZVf.1 hh (by simpa using h1)
    refine rg tT [0,3,4,37] ?_;refine cd (λh2=> ?_) (λh2=> ?_)
    .have hs2:(o++ [32])++gB (!((o++ [32])== [])) (s.drop (j+1))=blk s:=by
      rw[<-hso]
      conv=>rhs;unfold gB
      have hst:((!(o== []))&&stW (s.drop (j+1)))=true:=by rw[hw];have:= @ZVf (s.getD (j+1) 0);clear uu hso hda hsl;grind
      have ho:(!(o== []))=true:=by rw[ZT]at hst;exact hst.1
      rw[if_pos hc,if_pos hst,ho,ZT5];simp
     refine rg tT [0,3,4] ?_;refine rg tT [0,3,4] ?_;exact⟨⟨j+1,_,rfl,rfl,J0,by first|omega|(rw[Zg];simp;omega),hs2⟩,by simp[ZK,Ab.get,D.val,ZE];omega⟩
    .have hs2:o++gB (!(o== [])) (s.drop (j+1))=blk s:=by
      rw[<-hso]
      conv=>rhs;unfold gB
      have hst: ¬((!(o== []))&&stW (s.drop (j+1)))=true:=by rw[hw];have:= @ZVf (s.getD (j+1) 0);clear uu hso hda hsl;grind
      rw[if_pos hc,if_neg hst]
     refine rg tT [0,3,4] ?_;exact⟨⟨j+1,_,rfl,rfl,J0,by first|omega|(rw[Zg];simp;omega),hs2⟩,by simp[ZK,Ab.get,D.val,ZE];omega⟩
  .refine rg tT [2] ?_;refine lf ?_;rw[ZBl J0]at hso;simp only[gB,Kj]at hso;rw[hso]
def ZFM:J8->J5
 | [.x (.str s)]=>some (decide (s.length<=1000000),.x (.str (blk s)))
 |_=>none
theorem ZTU: ∀args r,ZFM args=some (true,r)->ZC Tryz.prog 108 args r:=by
 intro args r h;unfold ZFM at h;split at h
 .rename_i s;simp only[Ze,Za,ZT,Zc,true_and]at h;obtain⟨h1,rfl⟩:=h;exact(Zgt s h1)
 .cases h
def ZDi:J8->J5
 | [.x (.str s)]=>some (decide (s.length<=1000000),.x (.str (ZH s)))
 |_=>none
theorem ZQH: ∀args r,ZDi args=some (true,r)->ZC Tryz.prog 32 args r:=by
 intro args r h;unfold ZDi at h;split at h
 .rename_i s;simp only[Ze,Za,ZT,Zc,true_and]at h;obtain⟨h1,rfl⟩:=h;exact(ZNL s J0)
 .cases h
def ZKb:Tabs:=ZR (ZR (ZO) 108 ZFM) 32 ZDi
theorem ZXp:SsOk Tryz.prog ZKb:=ZG (ZG (ZD) (ZU 108) ZTU) (ZU 32) ZQH
theorem Zas:(∀a,ZKb.q 108 a=ZFM a)/\(∀a,ZKb.q 32 a=ZDi a)/\(∀f a o,ZKb.r f a o=none)/\(∀f a o,ZKb.k f a o=none):=⟨λ_=>rfl,λ_=>rfl,λ_ _ _=>rfl,λ_ _ _=>rfl⟩
theorem Zg3(s:Tx)(hl:s.length<=1000000):ZC Tryz.prog 107 [.x (.str s)] (.x (.str (fld s))):=by
 have hb:=ZO2 s;have hb2:decide ((blk s).length<=1000000)=true:=ZL (by unfold blk;omega);refine ZI.pure (fC 107 true ?_) rfl;intro C0 E0;have uu:=ξ6 @ZFM.eq_1 @ZFM.eq_2 @ZDi.eq_1 @ZDi.eq_2 hb2 @Zas;have tT:=ZXp;refine nz ?_;refine rg tT [0] ?_;refine rg tT [2] ?_;refine lf ?_
 first|rfl|exact⟨rfl,rfl⟩|trivial
def ZFU:J8->J5
 | [.x (.str s)]=>some (decide (s.length<=1000000),.x (.str (fld s)))
 |_=>none
theorem ZS9: ∀args r,ZFU args=some (true,r)->ZC Tryz.prog 107 args r:=by
 intro args r h;unfold ZFU at h;split at h
 .rename_i s;simp only[Ze,Za,ZT,Zc,true_and]at h;obtain⟨h1,rfl⟩:=h;exact(Zg3 s h1)
 .cases h
theorem ZdL(l:List Av):((rows Zn l).all λr=>decide (r.length=2))=true:=by
 unfold rows;rw[ZF6];exact Yc.2 λ_ _=>rfl
def ZK8:Tabs:=ZR (ZR (ZO) 32 ZDi) 107 ZFU
theorem ZYJ:SsOk Tryz.prog ZK8:=ZG (ZG (ZD) (ZU 32) ZQH) (ZU 107) ZS9
theorem Zbq:(∀a,ZK8.q 32 a=ZDi a)/\(∀a,ZK8.q 107 a=ZFU a)/\(∀f a o,ZK8.r f a o=none)/\(∀f a o,ZK8.k f a o=none):=⟨λ_=>rfl,λ_=>rfl,λ_ _ _=>rfl,λ_ _ _=>rfl⟩
set_option maxHeartbeats 1000000 in
theorem Zei(r:List Av)(hr:Yh r=true):ZC Tryz.prog 144 [.x (.sl (rows Zn r))] (.tup [.x (.sl (rows Zn (if KB r=true then Jk r else []))),.x (.bool (KB r))]):=by
 obtain⟨hr8,hr1,hpb⟩:=ZBz hr;have hcr: ∀(T:FuncId->J8->J7->J5) (φ:J4) (os:J7) (n:Nat) (ag:Bool) (x:IO),ZCJ T φ os (.ld n ag x)=none:=λ_ _ _ _ _ _=>rfl
 refine ZI.pure (fC 144 true ?_) rfl;intro C0 E0;have uu:=ξ7 @ZDi.eq_1 @ZDi.eq_2 @ZFU.eq_1 @ZFU.eq_2 @ZdL hcr @Zbq;have tT:=ZYJ;refine nz ?_;refine rg tT [0] ?_;refine rg tT [0,4] ?_;refine rg tT [0,4,5] ?_;refine WI.ownA 4 161 2 ?_;refine WI.loop (λφ os=> ∃(i:Nat) (o:List Av),φ= [(0,.x (.sl (rows Zn r))),(4,.ref 0 i 0 i),(5,.x (.int .i64 i))]/\os= [.rows false 161 2 (rows Zn o)]/\i<=r.length/\o=ZAd ((r.take i).map ZCr)/\(r.take i).all (λp=> !(fld p.2== []))=true) (ZK r.length 5) ?_ (λφ os hI=> ?_)
 .exact⟨0,[],rfl,rfl,J0,rfl,rfl⟩
 .obtain⟨i,o,rfl,rfl,hi,ho,hall⟩:=hI;have hol:o.length=i:=by rw[ho,ZKH,Yb,Yu];omega
  refine nz ?_;refine rg tT [0,4,5,12] ?_;refine cd (λh0=> ?_) (λh0=> ?_)
  .have hi4:i<r.length:=by omega
   have hia:=ZC2 r i hi4;have hpi:(r.getD i ([],[])).1.length<=64/\(r.getD i ([],[])).2.length<=256:=by rw[show r.getD i ([],[])=r[i] by simp[hi4]];exact hpb _ (YM hi4)
   have hka3:(r.take (i+1)).all (λp=> !(fld p.2== []))=((r.take i).all (λp=> !(fld p.2== []))&& !(fld (r.getD i ([],[])).2== [])):=by rw[JL _ r i hi4,show r.getD i ([],[])=r[i] by simp[hi4]]
   have hnk:fld (r.getD i ([],[])).2= []->KB r=false:=λh=>Zw _ r i hi4 (by rw[show r[i]=r.getD i ([],[]) by simp[hi4],h];rfl)
   have hso:ZDI (ZCr (r.getD i ([],[]))) o=ZAd ((r.take (i+1)).map ZCr):=by rw[Jg hi4,Ji,ZMj,ZYf,<-ho,show r.getD i ([],[])=r[i] by simp[hi4]]
   generalize r.getD i ([],[])=p at hia hpi hka3 hnk hso;have hs1:decide (p.1.length<=1000000)=true:=ZL J0;have hs2:decide (p.2.length<=1000000)=true:=ZL J0;obtain⟨P,hP⟩: ∃P:Av,P=ZCr p:=⟨_,rfl⟩;have hP1:ZH p.1=P.1:=by rw[hP];rfl
   have hP2:fld p.2=P.2:=by rw[hP];rfl
   rw[<-hP]at hso;have hins:=ZUN P o;have hpl:=ZVM P o;have uu:=ξ6 uu hia hs1 hs2 hP1 hP2;refine WI.dregB tT [0,4,5,6] ?_
   iterate 2 refine YD ?_
   refine JO ?_;refine YD ?_;refine JO ?_;refine dQC ?_
   iterate 2 refine YD ?_
   refine JO ?_;refine YD ?_;refine JO ?_;refine dQC ?_;refine KR ?_;refine dKG ?_;refine dAG ?_;refine dN ?_;refine nz ?_;refine rg tT [0,4,5,6,30] ?_;refine cd (λh1=> ?_) (λh1=> ?_)
   .have hfe:fld p.2= []:=by rw[hP2];simpa using h1
    refine rg tT [2,3] ?_;refine WI.nnA ?_;refine lf ?_;rw[hnk hfe];rfl
   .have hall2:(r.take (i+1)).all (λp=> !(fld p.2== []))=true:=by rw[hka3,hall,hP2];simpa using h1
    refine rg tT [0,4,5,6,7] ?_;refine WI.loop (λφ os=> ∃(k:Nat),φ= [(0,.x (.sl (rows Zn r))),(4,.ref 0 i 0 i),(5,.x (.int .i64 i)),(6,.ptr 1 0),(7,.x (.int .i64 k))]/\os= [.rows false 161 2 (rows Zn o),.box [.x (.str P.1),.x (.str P.2)]]/\k<=ZCU P o) (ZK i 7) ?_ (λφ os hI=> ?_)
    .exact⟨0,rfl,rfl,J0⟩
    .obtain⟨k,rfl,rfl,hk⟩:=hI;refine nz ?_;by_cases hko:k<i
     .have hka:=ZC2 o k J0;have hdl:=ZL (show(k:Int)<(i:Int) by omega);have hgo:o.getD k ([],[])=o[k]:=by simp[show k<o.length by omega]
      have uu:=ξ4 uu hka hdl hol;refine WI.dregB tT [0,4,5,6,7,44] ?_
      iterate 2 refine YD ?_
      refine JO ?_;refine KR ?_;refine YD ?_
      iterate 2 refine KR ?_
      refine JO ?_;refine KR ?_;refine JO ?_;refine KR ?_;refine JO ?_
      iterate 2 refine KR ?_
      refine dN ?_;refine nz ?_;refine cd (λh2=> ?_) (λh2=> ?_)
      .have hk2:=ZUh P o k hk J0 (by rw[<-hgo];clear uu;grind);refine rg tT [0,4,5,6,7] ?_;exact⟨⟨k+1,rfl,rfl,hk2⟩,by simp[ZK,Ab.get,D.val,ZE];omega⟩
      .have hkp:=ZLU P o k hk (λhh=>by rw[<-hgo];clear uu;grind);have hki:k<=i:=by omega
       rw[<-hkp]at hins;have e1:(o.take k).length=k:=by rw[Yu];omega
       have e2:(o.drop k).take (i-k)=o.drop k:=YX (by rw[Jj];omega);have e3:(o.drop k).length=i-k:=by rw[Jj];omega
       have e4:(rows Zn (o.take k)++ [[X.str P.1,X.str P.2]]).length=k+1:=by rw[Zg,Zh,e1];rfl
       have uu:=ξ6 uu e1 e2 e3 e4 hol;refine rg tT [0,4,5,6,7,8] ?_;refine rg tT [0,4,5,6,7,8] ?_;refine rg tT [0,4,5,7,8] ?_;refine rg tT [0,5,8] ?_;refine rgp tT [0,4,5] ?_;refine Je [2] ?_;refine KM ?_;refine nz ?_;have hfr:rows Zn (o.take k)++ [[X.str P.1,X.str P.2]]++rows Zn (o.drop k)=rows Zn (ZDI P o):=by rw[hins];unfold rows;simp[Zn]
       rw[hfr,show k+1+(i-k)=i+1 by omega];refine WI.orderA [0,4,5] ?_;refine rg tT [0,4,5] ?_;exact⟨⟨i+1,ZDI P o,rfl,rfl,J0,hso,hall2⟩,by simp[ZK,Ab.get,D.val,ZE];omega⟩
     .have hdl:=decide_eq_false (show ¬(k:Int)<(i:Int) by omega);have hka:(rows Zn o)[k]? =none:=ZCW (by rw[Zh];omega);have uu:=ξ4 uu hdl hol hka;refine WI.dregB tT [0,4,5,6,7,44] ?_
      iterate 2 refine YD ?_
      refine JO ?_;refine KR ?_;refine YD ?_
      iterate 2 refine KR ?_
      refine JO ?_;refine KR ?_;refine JO ?_;refine KR ?_;refine JO ?_
      iterate 2 refine KR ?_
      refine dN ?_;refine nz ?_;refine ce (λh2=> ?_) (λh2=> ?_)
      .simp at h2
      .have hkp:=ZLU P o k hk (λhh=>J0);have hki:k<=i:=by omega
       rw[<-hkp]at hins;have e1:(o.take k).length=k:=by rw[Yu];omega
       have e2:(o.drop k).take (i-k)=o.drop k:=YX (by rw[Jj];omega);have e3:(o.drop k).length=i-k:=by rw[Jj];omega
       have e4:(rows Zn (o.take k)++ [[X.str P.1,X.str P.2]]).length=k+1:=by rw[Zg,Zh,e1];rfl
       have uu:=ξ6 uu e1 e2 e3 e4 hol;refine rg tT [0,4,5,6,7,8] ?_;refine rg tT [0,4,5,6,7,8] ?_;refine rg tT [0,4,5,7,8] ?_;refine rg tT [0,5,8] ?_;refine rgp tT [0,4,5] ?_;refine Je [2] ?_;refine KM ?_;refine nz ?_;have hfr:rows Zn (o.take k)++ [[X.str P.1,X.str P.2]]++rows Zn (o.drop k)=rows Zn (ZDI P o):=by rw[hins];unfold rows;simp[Zn]
       rw[hfr,show k+1+(i-k)=i+1 by omega];refine WI.orderA [0,4,5] ?_;refine rg tT [0,4,5] ?_;exact⟨⟨i+1,ZDI P o,rfl,rfl,J0,hso,hall2⟩,by simp[ZK,Ab.get,D.val,ZE];omega⟩
  .obtain rfl:i=r.length:=by omega
   rw[JS]at ho hall;have hf:KB r=true:=hall;have ho2:Jk r=o:=ho.symm;rw[hf,if_pos rfl,ho2];have e5:(rows Zn o).take r.length=rows Zn o:=YX (by rw[Zh];omega);have e6:o.take r.length=o:=YX J0;have uu:=ξ4 uu e5 e6 hol;refine rg tT [2,3] ?_;refine WI.nnA ?_;refine lf ?_
   first|rfl|exact⟨rfl,rfl⟩|trivial
def ZIx:J8->J5
 | [.x (.sl R)]=>(ZV Zn R).bind λr=>some (decide (Yh r=true),.tup [.x (.sl (rows Zn (if KB r=true then Jk r else []))),.x (.bool (KB r))])
 |_=>none
theorem ZZK: ∀args r,ZIx args=some (true,r)->ZC Tryz.prog 144 args r:=by
 intro args r h;unfold ZIx at h;split at h
 .rename_i R;obtain⟨r,hr0,h⟩:=Zp h;simp only[Ze,Za,ZT,Zc,true_and]at h;obtain⟨h1,rfl⟩:=h;rw[<-ZY ZEG hr0];exact(Zei r h1)
 .cases h
def ZEt:Tabs:=Jt (ZR (ZR (ZR (ZO) 119 ZBQ) 144 ZIx) 145 ZHu) 145 (Qz ZHu)
theorem ZVZ:SsOk Tryz.prog ZEt:=Yz (ZG (ZG (ZG (ZD) (ZU 119) ZJ1) (ZU 144) ZZK) (ZU 145) ZSU) (ZU 145) (ZEI ZSU)
theorem ZaN:(∀a,ZEt.q 119 a=ZBQ a)/\(∀a,ZEt.q 144 a=ZIx a)/\(∀a,ZEt.q 145 a=ZHu a)/\(∀a o,ZEt.t 145 a o=Yo (Qz ZHu) a o)/\(∀f a o,ZEt.r f a o=none)/\(∀f a o,ZEt.k f a o=none):=⟨λ_=>rfl,λ_=>rfl,λ_=>rfl,λ_ _=>rfl,λ_ _ _=>rfl,λ_ _ _=>rfl⟩
theorem ZZ3{d:Dn}(hmay: ∀r∈d,Yh r=true):smD (d.map Jk)/\ ∀r∈d.map Jk,r.length<=1000000:=by
 refine⟨λr hr p hp=> ?_,λr hr=> ?_⟩
 .obtain⟨q,hq,rfl⟩:=YT.1 hr;obtain⟨x,hx,rfl⟩:=YT.1 ((ZFu _).mem_iff.1 hp);have:=((ZBz (hmay q hq)).2.2 x hx).1;show(ZH x.1).length<=900000;unfold ZH;rw[Yb];omega
 .obtain⟨q,hq,rfl⟩:=YT.1 hr;have:=(ZBz (hmay q hq)).1;rw[ZRf];omega
set_option maxHeartbeats 1000000 in
theorem Zd8(s:Tx):ZC Tryz.prog 110 [.x (.str s)] (.tup [.x (.str (JA s).1),.x (.int .i64 (JA s).2)]):=by
 rcases hu:JA s with⟨u,e⟩
 unfold JA at hu;rcases hq:YN s with⟨d,e0⟩
 rw[hq]at hu;simp only at hu;refine ZI.pure (fC 110 true ?_) rfl;intro C0 E0;have uu:=KJ @ZBQ.eq_1 @ZBQ.eq_2 @ZIx.eq_1 @ZIx.eq_2 @ZHu.eq_1 @ZHu.eq_2 @ZLR @ZO6 (JW hq @ZaN @Qz.eq_1);have tT:=ZVZ;refine nz ?_;refine rg tT [0] ?_;refine rg tT [4,5] ?_;refine rg tT [4,5,16] ?_;refine cd (λh0=> ?_) (λh0=> ?_)
 .refine rg tT [2,3] ?_;refine WI.nnA ?_;refine lf ?_;rw[if_pos (by simpa using h0)]at hu;cases hu;rfl
 .obtain rfl:e0=0:=by simpa using h0
  rw[if_neg J1]at hu;have hck:Jb d=0:=by
   by_cases hs:s= []
   .subst hs;rw[ZPu]at hq;cases hq;rfl
   .exact(ZJz s d hq hs).2.2.2.2
  obtain⟨hd32,hmay⟩:=ZEL hck;refine rg tT [4,6] ?_;refine rg tT [4,6,7] ?_;refine WI.ownA 6 159 1 ?_;refine WI.loop (λφ os=> ∃(j:Nat),φ= [(4,.x (.sl (rows JV d))),(6,.ref 0 j 0 j),(7,.x (.int .i64 j))]/\os= [.rows false 159 1 (rows JV ((d.take j).map Jk))]/\j<=d.length/\(d.take j).all KB=true) (ZK d.length 7) ?_ (λφ os hI=> ?_)
  .exact⟨0,rfl,rfl,J0,rfl⟩
  .obtain⟨j,rfl,rfl,hj,hall⟩:=hI;refine nz ?_;refine rg tT [4,6,7,21] ?_;refine cd (λh1=> ?_) (λh1=> ?_)
   .have hj4:j<d.length:=by omega
    have hdj:d[j]=d.getD j []:=by simp[hj4]
    have hmr:Yh (d.getD j [])=true:=by rw[<-hdj];exact hmay _ (YM hj4)
    have hst:(d.take (j+1)).map Jk=(d.take j).map Jk++ [Jk (d.getD j [])]:=by rw[Jg hj4,Ji,hdj];rfl
    have hall3:(d.take (j+1)).all KB=((d.take j).all KB&&KB (d.getD j [])):=by rw[JL _ d j hj4,hdj]
    have hnf:KB (d.getD j [])=false->d.all KB=false:=λh=>Zw KB d j hj4 (by rw[hdj];exact h)
    have hmd:=ZL hmr;have uu:=JW uu (ZE1 d j hj4) hmd;refine rg tT [4,6,7,8,9] ?_;refine rg tT [4,6,7,8,33] ?_;refine cd (λh2=> ?_) (λh2=> ?_)
    .have hff:KB (d.getD j [])=false:=by simpa using h2
     rw[if_neg (by rw[hnf hff];decide)]at hu;refine rg tT [2,3] ?_;refine WI.nnA ?_;refine lf ?_;cases hu;rfl
    .have hff:KB (d.getD j [])=true:=by simpa using h2
     have hall2:(d.take (j+1)).all KB=true:=by rw[hall3,hall,hff];rfl
     rw[hff,if_pos rfl];refine rgp tT [4,6,7] ?_;refine Je [0] ?_;refine KM ?_;refine nz ?_;refine WI.orderA [4,6,7] ?_;refine rg tT [4,6,7] ?_;exact⟨⟨j+1,rfl,by rw[hst,<-ZJ4];first|done|rfl,J0,hall2⟩,by simp[ZK,Ab.get,D.val,ZE];omega⟩
   .obtain rfl:j=d.length:=by omega
    rw[JS]at hall|-;rw[if_pos hall]at hu;obtain⟨hn1,hn2⟩:=ZZ3 hmay;have hnl:(d.map Jk).length=d.length:=Yb ..;have hcc:(decide (smD (d.map Jk))&&(decide ((d.map Jk).length<=1000000)&&decide (∀r∈d.map Jk,r.length<=1000000)))=true:=by rw[ZL hn1,ZL hn2,ZL (show(d.map Jk).length<=1000000 by omega)];rfl
    generalize d.map Jk=M at hu hnl hcc|-;rw[<-hnl];have uu:=ξ4 uu hcc (ZLR M) (@JS _ M);refine rg tT [2,3] ?_;refine WI.nnA ?_;refine lf ?_;rw[hu]
def ZDW:J8->J5
 | [.x (.str s)]=>some (true,.tup [.x (.str (JA s).1),.x (.int .i64 (JA s).2)])
 |_=>none
theorem ZQd: ∀args r,ZDW args=some (true,r)->ZC Tryz.prog 110 args r:=by
 intro args r h;unfold ZDW at h;split at h
 .rename_i s;simp only[Ze,Za,ZT,Zc,true_and]at h;obtain rfl:=h;exact(Zd8 s)
 .cases h
theorem ZLS(c:UInt8)(r:Tx):Jw (c::r)=(if c=45 then r else c::r)/\ZFW (c::r)=decide (c=45):=by
 by_cases h:c=45
 .subst h;simp[Jw,ZFW,Lib.trimPrefix,Lib.hasPrefix,List.isPrefixOf]
 .have h2: ¬45=c:=λe=>h e.symm
  simp[Jw,ZFW,Lib.trimPrefix,Lib.hasPrefix,List.isPrefixOf,h,h2]
theorem Zgp{c:UInt8}:c=45↔(c.toNat:Int)=45:=⟨λh=>by rw[h];rfl,λh=>ZMx.1 (by show c.toNat=45;omega)⟩
theorem ZZn(c:UInt8):ZDJ c=false↔((c.toNat:Int)<48\/(c.toNat:Int)>57):=by
 unfold ZDJ;rw[decide_eq_false_iff_not];omega
theorem ZVH{s:Tx}(h:dgs (Jw s)=true):ZAr s=(if ZFW s=true/\stp (Jw s)≠ [48]then 45::stp (Jw s)else stp (Jw s),true):=by unfold ZAr;rw[if_pos h]
theorem ZZJ{s:Tx}(h:dgs (Jw s)=false):ZAr s=([],false):=by unfold ZAr;rw[if_neg (by rw[h];simp)]
theorem Zga(s:Tx)(hl:s.length<=1000000):ZC Tryz.prog 109 [.x (.str s)] (.tup [.x (.str (ZAr s).1),.x (.bool (ZAr s).2)]):=by
 obtain⟨T,hT⟩: ∃T,Jw s=T:=⟨_,rfl⟩;obtain⟨sg,hsg⟩: ∃sg:Tx,sg=if ZFW s=true then [45]else []:=⟨_,rfl⟩
 refine ZI.pure (fC 109 true ?_) rfl;intro C0 E0;have uu:=trivial;refine WI.seq ?_;refine WI.regB ZD [0] ?_
 iterate 2 refine oS ?_
 refine oN ?_;refine ZB ?_;refine WI.seq ?_;refine WI.regB ZD [0,4] ?_;refine oS ?_;refine oN ?_;refine ZB ?_;refine WI.join (λφ os=>φ= [(0,.x (.str T)),(4,.x (.str sg))]/\os= []) ?_ (λφ os hJ=> ?_)
 .refine WI.seq ?_;refine WI.regB ZD [0,4,12] ?_;refine oS ?_;refine oG (hok:=by first|exact se|(clear uu;grind)|(rcases s with _|⟨c,r⟩<;>simp;done)|exact sd) ?_;refine oS ?_
  iterate 4 refine oG (hok:=by first|exact se|(clear uu;grind)|(rcases s with _|⟨c,r⟩<;>simp;done)|exact sd) ?_
  refine oN ?_;refine ZB ?_;refine WI.cond (b:=_) rfl rfl (λh0=> ?_) (λh0=> ?_)
  .try simp only[zB]at h0
   have hse:s=s.getD 0 0::s.drop 1:=by rcases s with _|⟨c,r⟩;simp at h0;simp
   have h45:s.getD 0 0=45:=Zgp.2 (by clear uu;grind);have htc:=ZLS (s.getD 0 0) (s.drop 1);rw[<-hse,if_pos h45,ZL h45]at htc;have hq1:T=s.drop 1:=by rw[<-hT,htc.1]
   have hq2:sg= [45]:=by rw[hsg,htc.2];rfl
   refine WI.seq ?_;refine WI.regB ZD [0,4] ?_;refine oS ?_;refine oN ?_;refine ZB ?_;refine WI.regB ZD [0,4] ?_;refine oS ?_;refine oG (hok:=by first|exact se|(clear uu;grind)|(rcases s with _|⟨c,r⟩<;>simp;done)|exact sd) ?_;refine oS ?_;refine oN ?_;refine ZB ?_;exact⟨by rw[hq1,hq2],rfl⟩
  .try simp only[zB]at h0
   have hq:T=s/\sg= []:=by
    rcases s with _|⟨c,r⟩
    .rw[<-hT,hsg];simp[Jw,ZFW,Lib.trimPrefix,Lib.hasPrefix]
    .have h45: ¬c=45:=λe=>by have:=Zgp.1 e;simp at h0;omega
     have htc:=ZLS c r;rw[if_neg h45,decide_eq_false h45]at htc;rw[<-hT,hsg,htc.1,htc.2];simp
   obtain⟨hq1,hq2⟩:=hq;refine WI.orderA [0,4] ?_;refine WI.skip ?_;refine ZB ?_;exact⟨by rw[hq1,hq2],rfl⟩
 .obtain⟨rfl,rfl⟩:=hJ;have hTl:T.length<=s.length:=by
   rw[<-hT];rcases s with _|⟨c,r⟩
   .simp[Jw,Lib.trimPrefix,Lib.hasPrefix]
   .rw[(ZLS c r).1];split<;>simp
  refine WI.seq ?_;refine WI.seq ?_;refine WI.regB ZD [0,4,22] ?_;refine oS ?_
  iterate 2 refine oG (hok:=by first|exact se|(clear uu;grind)|(rcases s with _|⟨c,r⟩<;>simp;done)|exact sd) ?_
  refine oS ?_
  iterate 4 refine oG (hok:=by first|exact se|(clear uu;grind)|(rcases s with _|⟨c,r⟩<;>simp;done)|exact sd) ?_
  refine oN ?_;refine ZB ?_;refine WI.cond (b:=_) rfl rfl (λh1=> ?_) (λh1=> ?_)
  .try simp only[zB]at h1
   refine WI.seq ?_;refine WI.regB ZD [2,3] ?_
   iterate 2 refine oS ?_
   refine oN ?_;refine ZB ?_;refine WI.ret ?_;refine Yy ?_
   first|refine lfR ?_|refine ZCE ?_|refine ZBv ?_|refine ZCG ?_
   rw[ZZJ (by rw[hT];unfold dgs;rw[ZWX];left;rw[decide_eq_false_iff_not];rintro⟨h2,h3⟩;have:=ZLa.2 h2;omega)]
  .try simp only[zB]at h1
   have hT1:1<=T.length/\T.length<=32:=by omega
   refine WI.skip ?_;refine ZB ?_;refine WI.seq ?_;refine WI.seq ?_;refine WI.regB ZD [0,4,5] ?_;refine oS ?_;refine oN ?_;refine ZB ?_;refine WI.block ?_;refine WI.loop (λφ os=> ∃(i:Nat),φ= [(0,.x (.str T)),(4,.x (.str sg)),(5,.x (.int .i64 i))]/\os= []/\i<=T.length/\(T.take i).all ZDJ=true) (ZK T.length 5) ?_ (λφ os hI=> ?_)
   .exact⟨0,rfl,rfl,J0,rfl⟩
   .obtain⟨i,rfl,rfl,hi,hall⟩:=hI;refine WI.seq ?_;refine WI.seq ?_;refine WI.regB ZD [0,4,5,26] ?_
    iterate 2 refine oS ?_
    iterate 2 refine oG (hok:=by first|exact se|(clear uu;grind)|(rcases s with _|⟨c,r⟩<;>simp;done)|exact sd) ?_
    refine oN ?_;refine ZB ?_;refine WI.cond (b:=_) rfl rfl (λh2=> ?_) (λh2=> ?_)
    .try simp only[zB]at h2
     have hi4:i<T.length:=by omega
     have hgi:T[i]=T.getD i 0:=by simp[hi4]
     refine WI.skip ?_;refine ZB ?_;refine WI.seq ?_;refine WI.block ?_;refine WI.seq ?_;refine WI.regB ZD [0,4,5,38] ?_
     iterate 2 refine oS ?_
     iterate 2 refine oG (hok:=by first|exact se|(clear uu;grind)|(rcases s with _|⟨c,r⟩<;>simp;done)|exact sd) ?_
     refine oS ?_
     iterate 5 refine oG (hok:=by first|exact se|(clear uu;grind)|(rcases s with _|⟨c,r⟩<;>simp;done)|exact sd) ?_
     refine oN ?_;refine ZB ?_;refine WI.cond (b:=_) rfl rfl (λh3=> ?_) (λh3=> ?_)
     .try simp only[zB]at h3
      refine WI.seq ?_;refine WI.regB ZD [2,3] ?_
      iterate 2 refine oS ?_
      refine oN ?_;refine ZB ?_;refine WI.ret ?_;refine ZAA ?_;refine Yy ?_;refine Yy ?_;refine ZAA ?_;refine Yy ?_
      first|refine lfR ?_|refine ZCE ?_|refine ZBv ?_|refine ZCG ?_
      rw[ZZJ (by rw[hT];unfold dgs;rw[ZU8 T ZDJ i hi4 (by rw[hgi];exact(ZZn _).2 J0),ZDv])]
     .try simp only[zB]at h3
      have hdg:ZDJ T[i]=true:=by rw[hgi];cases hh:ZDJ (T.getD i 0)with|true=>rfl|false=>exact absurd ((ZZn _).1 hh) J0
      refine WI.skip ?_;refine QR ?_;refine ZB ?_;refine WI.regB ZD [0,4,5] ?_;refine oS ?_;refine oG (hok:=by first|exact se|(clear uu;grind)|(rcases s with _|⟨c,r⟩<;>simp;done)|exact sd) ?_;refine oS ?_;refine oN ?_;refine ZB ?_;exact⟨⟨i+1,rfl,rfl,J0,by rw[ZTY T ZDJ i hi4,hall,hdg];rfl⟩,by simp[ZK,Ab.get,D.val,ZE];omega⟩
    .try simp only[zB]at h2
     have hall2:T.all ZDJ=true:=by rw[YX J0]at hall;exact hall
     have hdT:dgs (Jw s)=true:=by rw[hT];unfold dgs;rw[hall2,QS];exact ZL ⟨ZLa.1 J0,J0⟩
     refine WI.exit ?_;refine KP ?_;refine KP ?_;refine ZBx ?_;refine ZB ?_;refine WI.seq ?_;refine WI.block ?_;refine WI.orderA [0,4] ?_;refine WI.loop (λφ os=> ∃(t:Tx),φ= [(0,.x (.str t)),(4,.x (.str sg))]/\os= []/\stp t=stp T/\1<=t.length/\t.length<=32) (λφ _=>match φ with|(_,.x (.str t))::_=>t.length|_=>0) ?_ (λφ os hI=> ?_)
     .exact⟨T,rfl,rfl,rfl,J0,J0⟩
     .obtain⟨t,rfl,rfl,ht,htl⟩:=hI;have ht0:t.getD 0 0=t[0]:=by simp[show 0<t.length by omega]
      refine WI.seq ?_;refine WI.seq ?_;refine WI.regB ZD [0,4,46] ?_;refine oS ?_
      iterate 2 refine oG (hok:=by first|exact se|(clear uu;grind)|(rcases s with _|⟨c,r⟩<;>simp;done)|exact sd) ?_
      refine oS ?_
      iterate 4 refine oG (hok:=by first|exact se|(clear uu;grind)|(rcases s with _|⟨c,r⟩<;>simp;done)|exact sd) ?_
      refine oN ?_;refine ZB ?_;refine WI.cond (b:=_) rfl rfl (λh4=> ?_) (λh4=> ?_)
      .try simp only[zB]at h4
       have ht2:stp (t.drop 1)=stp T:=by rw[<-ht,ZS2 t (by clear uu;grind) (by rw[<-ht0];exact b48.2 (by clear uu;grind))]
       refine WI.skip ?_;refine ZB ?_;refine WI.block ?_;refine WI.regB ZD [0,4] ?_;refine oS ?_;refine oG (hok:=by first|exact se|(clear uu;grind)|(rcases s with _|⟨c,r⟩<;>simp;done)|exact sd) ?_;refine oS ?_;refine oN ?_;refine QR ?_;refine ZB ?_;exact⟨⟨t.drop 1,rfl,rfl,ht2,by rw[Jj];omega,by rw[Jj];omega⟩,by simp;omega⟩
      .try simp only[zB]at h4
       have hts:stp t=t:=ZMo t (λhh=>by have:=b48.1 (hh.2 J0);rw[<-ht0]at this;clear uu;grind);have htt:=ht.symm.trans hts;refine WI.exit ?_;refine KP ?_;refine KP ?_;refine ZBx ?_;refine ZB ?_;refine WI.seq ?_;refine WI.seq ?_;refine WI.regB ZD [0,4,50] ?_;refine oS ?_;refine oG (hok:=by first|exact se|(clear uu;grind)|(rcases s with _|⟨c,r⟩<;>simp;done)|exact sd) ?_;refine oN ?_;refine ZB ?_;refine WI.cond (b:=_) rfl rfl (λh5=> ?_) (λh5=> ?_)
       .try simp only[zB]at h5
        refine WI.seq ?_;refine WI.regB ZD [2,3] ?_
        iterate 3 refine oS ?_
        refine oN ?_;refine ZB ?_;refine WI.ret ?_;refine Yy ?_
        first|refine lfR ?_|refine ZCE ?_|refine ZBv ?_|refine ZCG ?_
        have h48:t= [48]:=by simpa using h5
        rw[ZVH hdT,hT,htt,h48,if_neg J1]
       .try simp only[zB]at h5
        refine WI.skip ?_;refine ZB ?_;refine WI.seq ?_;refine WI.regB ZD [2,3] ?_
        iterate 2 refine oS ?_
        refine oG (hok:=by first|exact se|(clear uu;grind)|(rcases s with _|⟨c,r⟩<;>simp;done)|exact sd) ?_
        iterate 2 refine oS ?_
        refine oN ?_;refine ZB ?_;refine WI.ret ?_
        first|refine lfR ?_|refine ZCE ?_|refine ZBv ?_|refine ZCG ?_
        have h48:t≠ [48]:=by simpa using h5
        rw[ZVH hdT,hT,htt,hsg];by_cases hn:ZFW s=true
        .simp[hn,h48]
        .simp[hn]
def ZL6:J8->J5
 | [.x (.str s)]=>some (decide (s.length<=1000000),.tup [.x (.str (ZAr s).1),.x (.bool (ZAr s).2)])
 |_=>none
theorem Zca: ∀args r,ZL6 args=some (true,r)->ZC Tryz.prog 109 args r:=by
 intro args r h;unfold ZL6 at h;split at h
 .rename_i s;simp only[Ze,Za,ZT,Zc,true_and]at h;obtain⟨h1,rfl⟩:=h;exact(Zga s h1)
 .cases h
def JR(k:Int)(s:Tx):Tx×Bool:=
 if s.length>4096 then([],false)else if k=1 then(fld s,!(fld s== []))else if k=2 then(blk s,!(blk s== []))else if k=3 then ZAr s
 else if k=4 then(s,true)else if k=5 then((JA s).1,(JA s).2==0)else([],false)
def ZB8:J8->J5
 | [.x (.str s)]=>some (true,.tup [.x (.str (JA s).1),.x (.int .i64 (JA s).2)])
 |_=>none
theorem ZNx: ∀args r,ZB8 args=some (true,r)->ZC Tryz.prog 106 args r:=by
 intro args r h;unfold ZB8 at h;split at h
 .rename_i s;simp only[Ze,Za,ZT,Zc,true_and]at h;obtain rfl:=h;exact(Zfj s)
 .cases h
def ZL3:J8->J5
 | [.x (.str s)]=>some (decide (s.length<=1000000),.x (.str (blk s)))
 |_=>none
theorem Zcs: ∀args r,ZL3 args=some (true,r)->ZC Tryz.prog 104 args r:=by
 intro args r h;unfold ZL3 at h;split at h
 .rename_i s;simp only[Ze,Za,ZT,Zc,true_and]at h;obtain⟨h1,rfl⟩:=h;exact(ZSa s h1)
 .cases h
def ZL0:J8->J5
 | [.x (.str s)]=>some (true,.tup [.x (.str (ZAr s).1),.x (.bool (ZAr s).2)])
 |_=>none
theorem ZbJ: ∀args r,ZL0 args=some (true,r)->ZC Tryz.prog 105 args r:=by
 intro args r h;unfold ZL0 at h;split at h
 .rename_i s;simp only[Ze,Za,ZT,Zc,true_and]at h;obtain rfl:=h;exact(Zh9 s)
 .cases h
def ZHC:Tabs:=ZR (ZR (ZR (ZR (ZO) 37 QO) 104 ZL3) 105 ZL0) 106 ZB8
theorem ZZc:SsOk Tryz.prog ZHC:=ZG (ZG (ZG (ZG (ZD) (ZU 37) ZJy) (ZU 104) Zcs) (ZU 105) ZbJ) (ZU 106) ZNx
theorem Zbg:(∀a,ZHC.q 37 a=QO a)/\(∀a,ZHC.q 104 a=ZL3 a)/\(∀a,ZHC.q 105 a=ZL0 a)/\(∀a,ZHC.q 106 a=ZB8 a)/\(∀f a o,ZHC.r f a o=none)/\(∀f a o,ZHC.k f a o=none):=⟨λ_=>rfl,λ_=>rfl,λ_=>rfl,λ_=>rfl,λ_ _ _=>rfl,λ_ _ _=>rfl⟩
theorem ZeW(k:Int)(s:Tx):ZC Tryz.prog 65 [.x (.int .i64 k),.x (.str s)] (.tup [.x (.str (JR k s).1),.x (.bool (JR k s).2)]):=by
 rcases hu:JR k s with⟨u,b⟩
 unfold JR at hu;have hbl:=Zfw s;have hfl:fld s=ZH (blk s):=rfl;have hll:(ZH s).length=s.length:=by unfold ZH;rw[Yb]
 refine ZI.pure (fC 65 true ?_) rfl;intro C0 E0;have uu:=KJ @QO.eq_1 @QO.eq_2 @ZL3.eq_1 @ZL3.eq_2 @ZL0.eq_1 @ZL0.eq_2 @ZB8.eq_1 @ZB8.eq_2 (JW hbl hll @Zbg);have tT:=ZZc;refine nz ?_;refine rg tT [0,1] ?_;refine rg tT [0,1,11] ?_;refine cd (λh0=> ?_) (λh0=> ?_)
 .refine rg tT [4,5] ?_;refine lf ?_
  (clear uu;grind)
 .refine rg tT [0,1,6] ?_;refine rg tT [1,6,13] ?_;refine rg tT [1,6,13,14] ?_;refine cd (λh1=> ?_) (λh1=> ?_)
  .refine rg tT [6] ?_;refine rg tT [6] ?_;refine rg tT [4,5] ?_;refine lf ?_
   (clear uu;grind)
  .refine rg tT [1,6,13,16] ?_;refine cd (λh2=> ?_) (λh2=> ?_)
   .refine rg tT [6] ?_;refine rg tT [4,5] ?_;refine lf ?_
    (clear uu;grind)
   .refine rg tT [1,13,18] ?_;refine cd (λh3=> ?_) (λh3=> ?_)
    .refine rg tT [4,5] ?_;refine lf ?_
     (clear uu;grind)
    .refine rg tT [1,13,20] ?_;refine cd (λh4=> ?_) (λh4=> ?_)
     .refine rg tT [4,5] ?_;refine lf ?_
      (clear uu;grind)
     .refine rg tT [1,22] ?_;refine cd (λh5=> ?_) (λh5=> ?_)
      .refine rg tT [7,8] ?_;refine rg tT [4,5] ?_;refine lf ?_
       (clear uu;grind)
      .refine rg tT [4,5] ?_;refine lf ?_
       (clear uu;grind)
def Kv:J8->J5
 | [.x (.int .i64 k),.x (.str s)]=>some (true,.tup [.x (.str (JR k s).1),.x (.bool (JR k s).2)])
 |_=>none
theorem ZKr: ∀args r,Kv args=some (true,r)->ZC Tryz.prog 65 args r:=by
 intro args r h;unfold Kv at h;split at h
 .rename_i k s;simp only[Ze,Za,ZT,Zc,true_and]at h;obtain rfl:=h;exact(ZeW k s)
 .cases h
def ZGx:Tabs:=ZR (ZR (ZR (ZR (ZO) 107 ZFU) 108 ZFM) 109 ZL6) 110 ZDW
theorem ZaG:SsOk Tryz.prog ZGx:=ZG (ZG (ZG (ZG (ZD) (ZU 107) ZS9) (ZU 108) ZTU) (ZU 109) Zca) (ZU 110) ZQd
theorem Za4:(∀a,ZGx.q 107 a=ZFU a)/\(∀a,ZGx.q 108 a=ZFM a)/\(∀a,ZGx.q 109 a=ZL6 a)/\(∀a,ZGx.q 110 a=ZDW a)/\(∀f a o,ZGx.r f a o=none)/\(∀f a o,ZGx.k f a o=none):=⟨λ_=>rfl,λ_=>rfl,λ_=>rfl,λ_=>rfl,λ_ _ _=>rfl,λ_ _ _=>rfl⟩
theorem Zb0(k:Int)(s:Tx):ZC Tryz.prog 70 [.x (.int .i64 k),.x (.str s)] (.tup [.x (.str (JR k s).1),.x (.bool (JR k s).2)]):=by
 rcases hu:JR k s with⟨u,b⟩
 unfold JR at hu;refine ZI.pure (fC 70 true ?_) rfl;intro C0 E0;have uu:=KJ @ZFU.eq_1 @ZFU.eq_2 @ZFM.eq_1 @ZFM.eq_2 @ZL6.eq_1 @ZL6.eq_2 @ZDW.eq_1 @ZDW.eq_2 @Za4;have tT:=ZaG;refine nz ?_;refine rg tT [0,1] ?_;refine rg tT [0,1,12] ?_;refine cd (λh0=> ?_) (λh0=> ?_)
 .refine rg tT [4,5] ?_;refine lf ?_
  (clear uu;grind)
 .refine rg tT [1,13] ?_;refine rg tT [1,13,14] ?_;refine cd (λh1=> ?_) (λh1=> ?_)
  .refine rg tT [6] ?_;refine rg tT [4,5] ?_;refine lf ?_
   (clear uu;grind)
  .refine rg tT [1,13,21] ?_;refine cd (λh2=> ?_) (λh2=> ?_)
   .refine rg tT [7] ?_;refine rg tT [4,5] ?_;refine lf ?_
    (clear uu;grind)
   .refine rg tT [1,13,28] ?_;refine cd (λh3=> ?_) (λh3=> ?_)
    .refine rg tT [4,5] ?_;refine lf ?_
     (clear uu;grind)
    .refine rg tT [1,13,34] ?_;refine cd (λh4=> ?_) (λh4=> ?_)
     .refine rg tT [4,5] ?_;refine lf ?_
      (clear uu;grind)
     .refine rg tT [1,37] ?_;refine cd (λh5=> ?_) (λh5=> ?_)
      .refine rg tT [8,9] ?_;refine rg tT [4,5] ?_;refine lf ?_
       (clear uu;grind)
      .refine rg tT [4,5] ?_;refine lf ?_
       (clear uu;grind)
def ZEv:J8->J5
 | [.x (.int .i64 k),.x (.str s)]=>some (true,.tup [.x (.str (JR k s).1),.x (.bool (JR k s).2)])
 |_=>none
theorem ZOO: ∀args r,ZEv args=some (true,r)->ZC Tryz.prog 70 args r:=by
 intro args r h;unfold ZEv at h;split at h
 .rename_i k s;simp only[Ze,Za,ZT,Zc,true_and]at h;obtain rfl:=h;exact(Zb0 k s)
 .cases h
def eqV(k:Int)(a b:Tx):Int:=if(JR k a).2=true/\(JR k b).2=true then(if(JR k a).1=(JR k b).1 then 1 else 0)else 2
theorem Zb7(b:Bool):ZC Tryz.prog 122 [.x (.bool b)] (.x (.int .i64 (if b=true then 1 else 0))):=by
 refine ZI.pure (fC 122 true ?_) rfl;intro C0 E0;have uu:=trivial;have tT:=(ZD:SsOk Tryz.prog ZO);refine nz ?_;refine rg tT [0] ?_;refine rg tT [3] ?_;refine cd (λh0=> ?_) (λh0=> ?_)
 .refine rg tT [2] ?_;refine lf ?_
  (clear uu;grind)
 .refine rg tT [2] ?_;refine lf ?_
  (clear uu;grind)
def ZGZ:J8->J5
 | [.x (.bool b)]=>some (true,.x (.int .i64 (if b=true then 1 else 0)))
 |_=>none
theorem ZWc: ∀args r,ZGZ args=some (true,r)->ZC Tryz.prog 122 args r:=by
 intro args r h;unfold ZGZ at h;split at h
 .rename_i b;simp only[Ze,Za,ZT,Zc,true_and]at h;obtain rfl:=h;exact(Zb7 b)
 .cases h
def ZLL:Tabs:=ZR (ZR (ZO) 70 ZEv) 122 ZGZ
theorem ZZr:SsOk Tryz.prog ZLL:=ZG (ZG (ZD) (ZU 70) ZOO) (ZU 122) ZWc
theorem Zcb:(∀a,ZLL.q 70 a=ZEv a)/\(∀a,ZLL.q 122 a=ZGZ a)/\(∀f a o,ZLL.r f a o=none)/\(∀f a o,ZLL.k f a o=none):=⟨λ_=>rfl,λ_=>rfl,λ_ _ _=>rfl,λ_ _ _=>rfl⟩
theorem ZXS(k:Int)(a b:Tx):ZC Tryz.prog 91 [.x (.int .i64 k),.x (.str a),.x (.str b)] (.x (.int .i64 (eqV k a b))):=by
 rcases hu:eqV k a b with u
 unfold eqV at hu;refine ZI.pure (fC 91 true ?_) rfl;intro C0 E0;have uu:=ξ5 @ZEv.eq_1 @ZEv.eq_2 @ZGZ.eq_1 @ZGZ.eq_2 @Zcb;have tT:=ZZr;refine nz ?_;refine rg tT [0,1,2] ?_;refine rg tT [0,2,7,8] ?_;refine rg tT [7,8,9,10] ?_;refine rg tT [7,9,28] ?_;refine cd (λh0=> ?_) (λh0=> ?_)
 .refine rg tT [6] ?_;refine lf ?_
  (clear uu;grind)
 .refine rg tT [6] ?_;refine lf ?_
  (clear uu;grind)
def ZMh:J8->J5
 | [.x (.int .i64 k),.x (.str a),.x (.str b)]=>some (true,.x (.int .i64 (eqV k a b)))
 |_=>none
theorem ZTx: ∀args r,ZMh args=some (true,r)->ZC Tryz.prog 91 args r:=by
 intro args r h;unfold ZMh at h;split at h
 .rename_i k a b;simp only[Ze,Za,ZT,Zc,true_and]at h;obtain rfl:=h;exact(ZXS k a b)
 .cases h
abbrev Zi:=Tx×(Int×(Bool×Unit))
abbrev Yd:RC Zi:=Jh ZA (Jh (ZDq .i64) (Jh ZN0 ZA0))
theorem JE:Yd.Good:=Yx ZM (Yx (ZBd .i64) (Yx ZVd ZBa))
abbrev Zt:=Tx×(List Tx×(List Tx×Unit))
abbrev Jy:RC Zt:=Jh ZA (Jh (rSl ZA) (Jh (rSl ZA) ZA0))
theorem JN:Jy.Good:=Yx ZM (Yx (ZCf ZM) (Yx (ZCf ZM) ZBa))
def Zhe(t:Zi):Zi:=(ZH t.1,t.2)
def ZGJ(c:Zt):Zt:=(ZH c.1,c.2.1.map ZH,c.2.2.1.map ZH,())
def tyL(T:List Zi):List (Tx×Zi):=T.map λt=>(ZH t.1,Zhe t)
def clL(C:List Zt):List (Tx×Zt):=C.map λc=>(ZH c.1,ZGJ c)
def JM(L:List (Tx×Zi)):W2:=Yk Ka Yd.enc L
def JH(M:List (Tx×Zt)):W2:=Yk Ka Jy.enc M
abbrev scO(L:List (Tx×Zi))(M:List (Tx×Zt)):J7:= [.box [.mref 1,.mref 2],.mpo .str true (JM L),.mpo .str true (JH M)]
def tyV(L:List (Tx×Zi))(k:Tx):Zi:=(ZJ L k).getD ([],0,false,())
def clV(M:List (Tx×Zt))(k:Tx):Zt:=(ZJ M k).getD ([],[],[],())
def tyD(t:Zi):D:= .agg [.x (.str t.1),.x (.int .i64 t.2.1),.x (.bool t.2.2.1)]
def clD(c:Zt):D:= .agg [.x (.str c.1),.x (.sl (rows ZA c.2.1)),.x (.sl (rows ZA c.2.2.1))]
theorem ZgW(L:List (Tx×Zi))(k:Tx):JX (JM L) [X.str k]=(ZJ L k).map λt=> [.x (.str t.1),.x (.int .i64 t.2.1),.x (.bool t.2.2.1)]:=by
 unfold JM;rw[ZEq Ka Yd.enc hkS L k];rfl
theorem Zgr(M:List (Tx×Zt))(k:Tx):JX (JH M) [X.str k]=(ZJ M k).map λc=> [.x (.str c.1),.x (.sl (rows ZA c.2.1)),.x (.sl (rows ZA c.2.2.1))]:=by
 unfold JH;rw[ZEq Ka Jy.enc hkS M k];rfl
theorem Zgs(L:List (Tx×Zi))(k:Tx)(t:Zi):Yg (JM L) [X.str k] [.x (.str t.1),.x (.int .i64 t.2.1),.x (.bool t.2.2.1)]=JM (Zv L k t):=ZD3 Ka Yd.enc hkS L k t
theorem Zgz(M:List (Tx×Zt))(k:Tx)(c:Zt):Yg (JH M) [X.str k] [.x (.str c.1),.x (.sl (rows ZA c.2.1)),.x (.sl (rows ZA c.2.2.1))]=JH (Zv M k c):=ZD3 Ka Jy.enc hkS M k c
theorem ZCZ(f:Nat->Nat)(L:List (Tx×Zi)):(JM L).map (JZ f)=JM L:=ZAN _ _ _ _
theorem ZCk(f:Nat->Nat)(M:List (Tx×Zt)):(JH M).map (JZ f)=JH M:=ZAN _ _ _ _
theorem ZDe(L:List (Tx×Zi)):ZCw (JM L)= []:=ZCc _ _ _
theorem ZDd(M:List (Tx×Zt)):ZCw (JH M)= []:=ZCc _ _ _
theorem ZAU(p:Nat->Bool)(L:List (Tx×Zi)):(JM L).all (ZAT p)=true:=Qr _ _ _ _
theorem ZAS(p:Nat->Bool)(M:List (Tx×Zt)):(JH M).all (ZAT p)=true:=Qr _ _ _ _
theorem ZiB(ρ:W0)(os:J7)(L:List (Tx×Zi)):(JM L).map (mpP (onF ρ os))=JM L:=ZFK _ _ _ _ _
theorem ZiQ(ρ:W0)(os:J7)(M:List (Tx×Zt)):(JH M).map (mpP (onF ρ os))=JH M:=ZFK _ _ _ _ _
theorem ZC1(L:List (Tx×Zi)):Jz ZA Yd (JM L)=some L:=ZRQ ZM JE L
theorem ZCy(M:List (Tx×Zt)):Jz ZA Jy (JH M)=some M:=ZRQ ZM JN M
theorem ZB7(L:List (Tx×Zi))(M:List (Tx×Zt)):(scO L M).all (Ob.inP (λi=>decide (i<(scO L M).length)))=true:=by
 simp[Ob.inP,Yr,D.inP,ZAU,ZAS]
def YA:J8->J5
 | [.x (.str s)]=>some (decide (s.length<=140737488355328),.x (.str (ZH s)))
 |_=>none
theorem ZAt: ∀args r,YA args=some (true,r)->ZC Tryz.prog 37 args r:=by
 intro args r h;unfold YA at h;split at h
 .rename_i s;simp only[Ze,Za,ZT,Zc,true_and]at h;obtain⟨h1,rfl⟩:=h;exact(ZPZ s h1)
 .cases h
def ZOa:Tabs:=ZR (ZO) 37 YA
theorem ZP5:SsOk Tryz.prog ZOa:=ZG (ZD) (ZU 37) ZAt
theorem ZSH:(∀a,ZOa.q 37 a=YA a)/\(∀f a o,ZOa.r f a o=none)/\(∀f a o,ZOa.k f a o=none):=⟨λ_=>rfl,λ_ _ _=>rfl,λ_ _ _=>rfl⟩
theorem ZYK(L:List (Tx×Zi))(M:List (Tx×Zt))(n:Tx)(hn:n.length<=140737488355328):ZN Tryz.prog 36 [.ptr 0 0,.x (.str n)] (scO L M) (.tup [tyD (tyV L (ZH n)),.x (.bool (ZJ L (ZH n)).isSome)]) (scO L M):=by
 have hg:=ZgW L (ZH n);have hO:=ZB7 L M;unfold tyV;rcases hm:ZJ L (ZH n)with _|⟨a,k,b,u⟩
 .rw[hm,ZAD]at hg;refine ZI.mcallsX (fC 36 true ?_) (by first|decide|(simp;done)) hO (by first|rfl|exact hR);intro C0 E0;have uu:=ξ4 @YA.eq_1 @YA.eq_2 hg @ZSH;have tT:=ZP5;refine nz ?_;refine rg tT [0,1,4] ?_;refine WI.dregB tT [4,6,7] ?_
  iterate 3 refine YD ?_
  refine JO ?_;refine YD ?_;refine dQC ?_;refine JO ?_;refine YD ?_
  iterate 2 refine KR ?_
  refine dKG ?_;refine dAG ?_;refine YD ?_;refine dN ?_;refine nz ?_;refine rg tT [4,5] ?_;refine lf ?_;exact⟨rfl,_,rfl⟩
 .rw[hm,Yl]at hg;refine ZI.mcallsX (fC 36 true ?_) (by first|decide|(simp;done)) hO (by first|rfl|exact hR);intro C0 E0;have uu:=ξ4 @YA.eq_1 @YA.eq_2 hg @ZSH;have tT:=ZP5;refine nz ?_;refine rg tT [0,1,4] ?_;refine WI.dregB tT [4,6,7] ?_
  iterate 3 refine YD ?_
  refine JO ?_;refine YD ?_;refine dQC ?_;refine JO ?_;refine YD ?_
  iterate 2 refine KR ?_
  refine dKG ?_;refine dAG ?_;refine YD ?_;refine dN ?_;refine nz ?_;refine rg tT [4,5] ?_;refine lf ?_;exact⟨rfl,_,rfl⟩
def ZFX:J8->J7->Option (Bool×D×J7)
 | [.ptr 0 0,.x (.str n)],[.box [.mref 1,.mref 2],.mpo .str true P1,.mpo .str true P2]=>(Jz ZA Yd P1).bind λL=>(Jz ZA Jy P2).bind λM=>some (decide (n.length<=140737488355328),.tup [tyD (tyV L (ZH n)),.x (.bool (ZJ L (ZH n)).isSome)],[.box [.mref 1,.mref 2],.mpo .str true (JM L),.mpo .str true (JH M)])
 |_,_=>none
theorem ZSk: ∀args os r os',ZFX args os=some (true,r,os')->ZN Tryz.prog 36 args os r os':=by
 intro args os r os' h;unfold ZFX at h;split at h
 .rename_i n P1 P2;obtain⟨L,hm0,h⟩:=Zp h;obtain⟨M,hm1,h⟩:=Zp h;simp only[Ze,Za,ZT,Zc,true_and]at h;obtain⟨h1,rfl,rfl⟩:=h;rw[Ye ZM JE hm0];rw[Ye ZM JN hm1];exact ZYK L M n h1
 .cases h
def ZB4:J8->J7->J5
 | [.ptr 0 0,.x (.str n)],[.box [.mref 1,.mref 2],.mpo .str true P1,.mpo .str true P2]=>(Jz ZA Yd P1).bind λL=>(Jz ZA Jy P2).bind λM=>some (decide (n.length<=140737488355328),.tup [tyD (tyV L (ZH n)),.x (.bool (ZJ L (ZH n)).isSome)])
 |_,_=>none
theorem ZQ3: ∀args os r,ZB4 args os=some (true,r)->r.clean=true/\ ∃X,ZN Tryz.prog 36 args os r (os++X):=by
 intro args os r h;unfold ZB4 at h;split at h
 .rename_i n P1 P2;obtain⟨L,hm0,h⟩:=Zp h;obtain⟨M,hm1,h⟩:=Zp h;simp only[Ze,Za,ZT,Zc,true_and]at h;obtain⟨h1,rfl⟩:=h;rw[Ye ZM JE hm0];rw[Ye ZM JN hm1];exact⟨rfl,[],by rw[Kj];exact ZYK L M n h1⟩
 .cases h
def ZLj:Tabs:=ZDB (ZO) 36 ZB4
theorem ZAq:SsOk Tryz.prog ZLj:=ZAJ (ZD) (ZU 36) ZQ3
theorem ZcP:(∀a,ZLj.q 36 a=none)/\(∀a o,ZLj.t 36 a o=(JI ZB4 a o).map λr=>(r.1,r.2,o))/\(∀a o,ZLj.r 36 a o=JI ZB4 a o)/\(∀f a o,ZLj.k f a o=none):=⟨λ_=>rfl,λ_ _=>rfl,λ_ _=>rfl,λ_ _ _=>rfl⟩
def ZK9:Tabs:=Jt (ZO) 36 ZFX
theorem ZYt:SsOk Tryz.prog ZK9:=Yz (ZD) (ZU 36) ZSk
theorem ZcE:(∀a,ZK9.q 36 a=none)/\(∀a o,ZK9.t 36 a o=Yo ZFX a o)/\(∀f a o,ZK9.r f a o=none)/\(∀f a o,ZK9.k f a o=none):=⟨λ_=>rfl,λ_ _=>rfl,λ_ _ _=>rfl,λ_ _ _=>rfl⟩
theorem ZY6(L:List (Tx×Zi))(M:List (Tx×Zt))(n:Tx)(hn:n.length<=140737488355328):ZN Tryz.prog 12 [.ptr 0 0,.x (.str n)] (scO L M) (.tup [tyD (tyV L (ZH n)),.x (.bool (ZJ L (ZH n)).isSome)]) (scO L M):=by
 have hO:=ZB7 L M;have h1:=ZC1 L;have h2:=ZCy M;unfold tyD;refine ZI.mcallsX (fC 12 true ?_) (by first|decide|(simp;done)) hO (by first|rfl|exact hR);intro C0 E0;have uu:=KJ @ZFX.eq_1 @ZFX.eq_2 h1 h2 @tyD.eq_1 @ZCZ @ZCk @ZDe (ξ4 @ZDd @ZAU @ZAS @ZcE);have tT:=ZYt;refine nz ?_;refine rg tT [0,1,4] ?_;refine rg tT [0,1,4,7] ?_;refine ce (λh0=> ?_) (λh0=> ?_)
 .simp at h0
 .refine rg tT [4,5] ?_;refine lf ?_;exact⟨rfl,_,rfl⟩
def ZNT:Tabs:=ZR (ZO) 37 YA
theorem ZQK:SsOk Tryz.prog ZNT:=ZG (ZD) (ZU 37) ZAt
theorem ZSV:(∀a,ZNT.q 37 a=YA a)/\(∀f a o,ZNT.r f a o=none)/\(∀f a o,ZNT.k f a o=none):=⟨λ_=>rfl,λ_ _ _=>rfl,λ_ _ _=>rfl⟩
theorem Zfc(L:List (Tx×Zi))(M:List (Tx×Zt))(n:Tx)(hn:n.length<=140737488355328):ZN Tryz.prog 14 [.ptr 0 0,.x (.str n)] (scO L M) (.tup [clD (clV M (ZH n)),.x (.bool (ZJ M (ZH n)).isSome)]) (scO L M):=by
 have hg:=Zgr M (ZH n);have hO:=ZB7 L M;unfold clV;rcases hm:ZJ M (ZH n)with _|⟨a,m,y,u⟩
 .rw[hm,ZAD]at hg;refine ZI.mcallsX (fC 14 true ?_) (by first|decide|(simp;done)) hO (by first|rfl|exact hR);intro C0 E0;have uu:=ξ4 @YA.eq_1 @YA.eq_2 hg @ZSV;have tT:=ZQK;refine nz ?_;refine rg tT [0,1,4] ?_;refine rg tT [0,1,4,9] ?_;refine ce (λh0=> ?_) (λh0=> ?_)
  .simp at h0
  .refine WI.dregB tT [4,6,7] ?_
   iterate 4 refine YD ?_
   refine JO ?_;refine YD ?_;refine dQC ?_;refine JO ?_;refine YD ?_
   iterate 2 refine KR ?_
   refine dKG ?_;refine dAG ?_;refine YD ?_;refine dN ?_;refine nz ?_;refine rg tT [4,5] ?_;refine WI.nnA ?_;refine lf ?_;exact⟨rfl,_,rfl⟩
 .rw[hm,Yl]at hg;refine ZI.mcallsX (fC 14 true ?_) (by first|decide|(simp;done)) hO (by first|rfl|exact hR);intro C0 E0;have uu:=ξ4 @YA.eq_1 @YA.eq_2 hg @ZSV;have tT:=ZQK;refine nz ?_;refine rg tT [0,1,4] ?_;refine rg tT [0,1,4,9] ?_;refine ce (λh0=> ?_) (λh0=> ?_)
  .simp at h0
  .refine WI.dregB tT [4,6,7] ?_
   iterate 4 refine YD ?_
   refine JO ?_;refine YD ?_;refine dQC ?_;refine JO ?_;refine YD ?_
   iterate 2 refine KR ?_
   refine dKG ?_;refine dAG ?_;refine YD ?_;refine dN ?_;refine nz ?_;refine rg tT [4,5] ?_;refine lf ?_;exact⟨rfl,_,rfl⟩
def ZIr:J8->J7->Option (Bool×D×J7)
 | [.ptr 0 0,.x (.str n)],[.box [.mref 1,.mref 2],.mpo .str true P1,.mpo .str true P2]=>(Jz ZA Yd P1).bind λL=>(Jz ZA Jy P2).bind λM=>some (decide (n.length<=140737488355328),.tup [clD (clV M (ZH n)),.x (.bool (ZJ M (ZH n)).isSome)],[.box [.mref 1,.mref 2],.mpo .str true (JM L),.mpo .str true (JH M)])
 |_,_=>none
theorem ZZR: ∀args os r os',ZIr args os=some (true,r,os')->ZN Tryz.prog 14 args os r os':=by
 intro args os r os' h;unfold ZIr at h;split at h
 .rename_i n P1 P2;obtain⟨L,hm0,h⟩:=Zp h;obtain⟨M,hm1,h⟩:=Zp h;simp only[Ze,Za,ZT,Zc,true_and]at h;obtain⟨h1,rfl,rfl⟩:=h;rw[Ye ZM JE hm0];rw[Ye ZM JN hm1];exact Zfc L M n h1
 .cases h
def ZMB:J8->J7->Option (Bool×D×J7)
 | [.ref 0 n 0 n',.x (.int .i64 i),.ref 1 1 0 1],[.rows false e 2 rs,.rows false e' 2 [r]]=>some (decide (n=rs.length/\n'=rs.length/\0<=i/\i<=rs.length/\rs.length<=1000000/\e=72/\e'=72),.ref 0 (n+1) 0 (n+1),[.rows false e 2 (YJ rs i.toNat [r]),.rows false e' 2 [r]])
 |_,_=>none
theorem ZdD: ∀args os r os',ZMB args os=some (true,r,os')->ZN Tryz.prog 132 args os r os':=by
 intro args os r os' h;unfold ZMB at h;split at h
 .rename_i n n' i e rs e' r0;simp only[Ze,Za,Zc]at h;obtain⟨⟨rfl,rfl,h0,h1,h2,rfl,rfl⟩,rfl,rfl⟩:=h;have h:=Zgl rs r0 i.toNat J0 h2;rwa [show((i.toNat:Nat):Int)=i by omega]at h
 .cases h
def ZDm:J8->J5
 | [.x (.sl [[.nils],[.sl R]])]=>(ZV ZA R).map λb=>(decide (b.length<=100000),.x (.sl (rows ZA b)))
 | [.x (.sl [[.sl R],[.sl R']])]=>(ZV ZA R).bind λa=>(ZV ZA R').map λb=>(decide (a.length<=100000/\b.length<=100000),.x (.sl (rows ZA (a++b))))
 |_=>none
theorem ZTH: ∀args r,ZDm args=some (true,r)->ZC Tryz.prog 47 args r:=by
 intro args r h;unfold ZDm at h;split at h
 .rename_i R;obtain⟨b,h1,h2⟩:=Zd h;simp only[Za,Zc]at h2;obtain⟨h3,rfl⟩:=h2;rw[<-ZY ZM h1];exact ZWb b h3
 .rename_i R R';obtain⟨a,h1,h⟩:=Zp h;obtain⟨b,h2,h3⟩:=Zd h;simp only[Za,Zc]at h3;obtain⟨h4,rfl⟩:=h3;rw[<-ZY ZM h1,<-ZY ZM h2];exact ZRy a b h4.1 h4.2
 .cases h
def QH(l:List ZX)(n:List UInt8)(vs:List (List UInt8)):List ZX:=if vs= []then l else l.take (Zu l n)++ [(n,ZBm [] (Kk l n++vs),())]++ZBj l n
theorem ZGy{l:List ZX}{n:List UInt8}(h:ZBr l n=true):Zu l n<l.length:=by
 unfold ZBr at h;split at h
 .rename_i a ha;exact(Zb ha).1
 .cases h
theorem ZIY{l:List ZX}{n:List UInt8}(h:ZBr l n=true):(rows ZQ l)[Zu l n]? =some [.str n,.sl (rows ZA (Kk l n))]/\ ∀out,(rows ZQ l).set (Zu l n) [.str n,.sl (rows ZA out)]=rows ZQ (l.take (Zu l n)++ [(n,out,())]++ZBj l n):=by
 have hp:=ZGy h;have he:=ZUK l n hp h;constructor
 .rw[ZNz l _ hp];unfold Kk;have e:(l.getD (Zu l n) ([],[],())).1=n:=by rw[show l.getD (Zu l n) ([],[],())=l[Zu l n] by simp[hp]];exact he
  rw[if_pos h,e]
 .intro out;unfold ZBj;rw[if_pos h];have e: [X.str n,.sl (rows ZA out)]=ZQ.enc (n,out,()):=rfl;rw[e];unfold rows;rw[<-ZMl,List.set_eq_take_append_cons_drop,if_pos hp];simp
theorem ZN4{l:List ZX}{n:List UInt8}(h:ZBr l n=false):(YJ (rows ZQ l) (Zu l n) [[.str n,.nils]])[Zu l n]? =some [.str n,.nils]/\ ∀out,(YJ (rows ZQ l) (Zu l n) [[.str n,.nils]]).set (Zu l n) [.str n,.sl (rows ZA out)]=rows ZQ (l.take (Zu l n)++ [(n,out,())]++ZBj l n):=by
 have hp:=ZHH l n;have hl:((rows ZQ l).take (Zu l n)).length=Zu l n:=by rw[Yu,Zh];omega
 constructor
 .unfold YJ;rw[Yp,Qe J0,hl,ZIN];rfl
 .intro out;unfold ZBj YJ;rw[if_neg (by rw[h];decide),Yp,ZEy _ _ J0,hl,ZIN];unfold rows;rw[<-ZWl,<-List.map_drop,Ji,Ji];simp[ZQ,Jh,ZA,rSl,ZA0,rows]
theorem ZU9(l:List (List UInt8))(x:List UInt8):rows ZA (l++ [x])=rows ZA l++ [[X.str x]]:=by simp[rows,ZA]
theorem ZTO{l:List ZX}{n:List UInt8}(hb: ∀a∈l,a.2.1.length<=50000):(Kk l n).length<=50000:=by
 unfold Kk;split
 .rename_i h;have hp:=ZGy h;rw[show l.getD (Zu l n) ([],[],())=l[Zu l n] by simp[hp]];exact hb _ (YM hp)
 .simp
theorem Zdn(acc:List (List UInt8))(v:List UInt8):ZF0 acc v=if v∈acc then acc else acc++ [v]:=rfl
def ZCn:Tabs:=Jt (ZR (Jt (ZR (Jt (ZR (ZR (ZO) 37 YA) 124 ZIV) 132 ZMB) 47 ZDm) 47 (Qz ZDm)) 133 ZH8) 133 (Qz ZH8)
theorem Ja:SsOk Tryz.prog ZCn:=Yz (ZG (Yz (ZG (Yz (ZG (ZG (ZD) (ZU 37) ZAt) (ZU 124) ZUU) (ZU 132) ZdD) (ZU 47) ZTH) (ZU 47) (ZEI ZTH)) ZMS ZR5) ZMS (ZEI ZR5)
theorem Zb2:(∀a,ZCn.q 37 a=YA a)/\(∀a,ZCn.q 124 a=ZIV a)/\(∀a,ZCn.q 132 a=none)/\(∀a o,ZCn.t 132 a o=Yo ZMB a o)/\(∀a,ZCn.q 47 a=ZDm a)/\(∀a o,ZCn.t 47 a o=Yo (Qz ZDm) a o)/\(∀a,ZCn.q 133 a=ZH8 a)/\(∀a o,ZCn.t 133 a o=Yo (Qz ZH8) a o)/\(∀f a o,ZCn.r f a o=none)/\(∀f a o,ZCn.k f a o=none):=⟨λ_=>rfl,λ_=>rfl,λ_=>rfl,λ_ _=>rfl,λ_=>rfl,λ_ _=>rfl,λ_=>rfl,λ_ _=>rfl,λ_ _ _=>rfl,λ_ _ _=>rfl⟩
set_option maxHeartbeats 4000000 in
theorem ZiT(l:List ZX)(attr:List UInt8)(vs:List (List UInt8))(hs:SoA l)(hl:l.length<=100000)(ha:attr.length<=140737488355328)(hv:vs.length<=50000)(hb: ∀a∈l,a.2.1.length<=50000):ZN Tryz.prog 99 [.ref 0 l.length 0 l.length,.x (.str attr),.x (.sl (rows ZA vs))] [.rows false 72 2 (rows ZQ l)] (.ref 0 (QH l (ZH attr) vs).length 0 (QH l (ZH attr) vs).length) [.rows false 72 2 (rows ZQ (QH l (ZH attr) vs))]:=by
 have hO: [Ob.rows false 72 2 (rows ZQ (QH l (ZH attr) vs))].all (Ob.inP (λi=>decide (i< [Ob.rows false 72 2 (rows ZQ (QH l (ZH attr) vs))].length)))=true:=rfl;have hda:=ZL ha;have hds:decide (SoA l/\l.length<=1000000)=true:=ZL ⟨hs,J0⟩;have hul:ZV ZQ (rows ZQ l)=some l:=Zf Zr l;obtain⟨n,hn⟩: ∃n,ZH attr=n:=⟨_,rfl⟩;rw[hn]at hO|-;have hpl:=ZHH l n;rcases hres:QH l n vs with res
 unfold QH at hres;have htl:l.take l.length=l:=JS;have hbl:(Kk l n).length<=50000:=ZTO hb;have hcn:ZBr l n=false->ZDm [.x (.sl [[.nils],[.sl (rows ZA vs)]])]=some (true,.x (.sl (rows ZA (Kk l n++vs)))):=λh=>by
  show((ZV ZA (rows ZA vs)).map λb=>(decide (b.length<=100000),D.x (.sl (rows ZA b))))=_;rw[Zf ZM,show Kk l n= [] by unfold Kk;rw[if_neg (by rw[h];decide)]];simp;omega
 have hcy:ZDm [.x (.sl [[.sl (rows ZA (Kk l n))],[.sl (rows ZA vs)]])]=some (true,.x (.sl (rows ZA (Kk l n++vs)))):=by
  show((ZV ZA (rows ZA (Kk l n))).bind λa=>(ZV ZA (rows ZA vs)).map λb=>(decide (a.length<=100000/\b.length<=100000),D.x (.sl (rows ZA (a++b)))))=_;rw[Zf ZM,Zf ZM];simp;omega
 refine ZI.mcallsX (fC 99 false ?_) (by first|decide|(simp;done)) hO (by first|rfl|exact hR);intro C0 E0;have uu:=KJ @YA.eq_1 @YA.eq_2 @ZIV.eq_1 @ZIV.eq_2 @ZMB.eq_1 @ZMB.eq_2 @ZDm.eq_1 @ZDm.eq_2 (KJ @ZDm.eq_3 @ZH8.eq_1 @ZH8.eq_2 hul hda hds hn htl (YZ @Zb2 @Qz.eq_1));refine WI.seq ?_;refine WI.regB Ja [0,1,2] ?_;refine oS ?_;refine oN ?_;refine ZB ?_;refine WI.seq ?_;refine WI.regB Ja [0,2,7] ?_;refine oS ?_;refine oC ?_;refine oS ?_;refine oN ?_;refine ZB ?_;refine WI.seq ?_;refine WI.seq ?_;refine WI.regB Ja [0,2,7,17] ?_;refine oS ?_
 iterate 2 refine oG ?_
 refine oN ?_;refine ZB ?_;refine WI.cond (b:=_) rfl rfl (λh0=> ?_) (λh0=> ?_)
 .try simp only[zB]at h0
  have hv0:vs= []:=ξS (by simpa using h0);rw[if_pos hv0]at hres;refine WI.seq ?_;refine WI.regB Ja [6] ?_
  iterate 2 refine oS ?_
  refine oN ?_;refine ZB ?_;refine WI.ret ?_;refine Yy ?_
  first|refine lfR ?_|refine ZCE ?_|refine ZBv ?_|refine ZCG ?_
  subst hres;exact⟨rfl,_,rfl⟩
 .try simp only[zB]at h0
  have hv0:vs≠ []:=λe=>by subst e;simp at h0
  rw[if_neg hv0]at hres;refine WI.skip ?_;refine ZB ?_;refine WI.seq ?_;refine WI.regB Ja [0,2,7,8,9] ?_
  iterate 2 refine oS ?_
  refine oC ?_;refine oS ?_
  iterate 2 refine oG ?_
  iterate 2 refine oS ?_
  refine oN ?_;refine ZB ?_;refine WI.join (λφ os=> ∃(m:Nat) (RS:J6) (V:X),φ= [(0,.ref 0 m 0 m),(2,.x (.sl (rows ZA vs))),(8,.x (.int .i64 (Zu l n)))]/\os= [.rows false 72 2 RS]/\RS.length=m/\Zu l n<m/\RS[Zu l n]? =some [.str n,V]/\(∀out,RS.set (Zu l n) [.str n,.sl (rows ZA out)]=rows ZQ (l.take (Zu l n)++ [(n,out,())]++ZBj l n))/\ZDm [.x (.sl [[V],[.sl (rows ZA vs)]])]=some (true,.x (.sl (rows ZA (Kk l n++vs))))) ?_ (λφ os hJ=> ?_)
  .refine WI.seq ?_;refine WI.regB Ja [0,2,7,8,26] ?_;refine oS ?_;refine oG ?_;refine oN ?_;refine ZB ?_;refine WI.cond (b:=_) rfl rfl (λh1=> ?_) (λh1=> ?_)
   .try simp only[zB]at h1
    have hh:ZBr l n=false:=by simpa using h1
    refine WI.post ?_;refine WI.regB Ja [0,2,8] ?_
    iterate 3 refine oS ?_
    iterate 2 refine oG ?_
    refine oC ?_;refine oS ?_;refine oP ?_;refine Je [0] ?_;refine KM ?_;refine ZB ?_
    first|exact⟨l.length+1,_,.nils,rfl,rfl,by rw[ZKk _ _ _ (by rw[Zh];exact hpl),Zh];rfl,J0,(ZN4 hh).1,(ZN4 hh).2,hcn hh⟩|exact⟨l.length,_,.sl (rows ZA (Kk l n)),rfl,rfl,Zh _ _,ZGy hh,(ZIY hh).1,(ZIY hh).2,hcy⟩
   .try simp only[zB]at h1
    have hh:ZBr l n=true:=by simpa using h1
    refine WI.orderA [0,2,8] ?_;refine WI.skip ?_;refine ZB ?_
    first|exact⟨l.length+1,_,.nils,rfl,rfl,by rw[ZKk _ _ _ (by rw[Zh];exact hpl),Zh];rfl,J0,(ZN4 hh).1,(ZN4 hh).2,hcn hh⟩|exact⟨l.length,_,.sl (rows ZA (Kk l n)),rfl,rfl,Zh _ _,ZGy hh,(ZIY hh).1,(ZIY hh).2,hcy⟩
  .obtain⟨m,RS,V,rfl,rfl,hRl,hpm,hRp,hRs,hcv⟩:=hJ;refine WI.seq ?_;refine WI.regB Ja [0,2,8,10] ?_;refine oS ?_;refine oN ?_;refine ZB ?_;refine WI.seq ?_;refine WI.seq ?_;have hcl:(Kk l n++vs).length<=100000:=by rw[Zg];omega
   generalize Kk l n++vs=W at hres hcv hcl;have uu:=ξ4 uu hRp hRl hcv;refine WI.regB Ja [0,8,10,40,41,42] ?_
   iterate 2 refine oS ?_
   refine oG ?_;refine oS ?_;refine oG ?_;refine oS ?_;refine oG ?_;refine oC ?_;refine oG ?_;refine oS ?_;refine oN ?_;refine ZB ?_;refine WI.block ?_;refine WI.pickA [0] ?_;refine WI.ownA 10 9 1 ?_;refine WI.orderA [0,8,10,40,41,42] ?_;refine WI.loop (λφ os=> ∃(j:Nat),φ= [(0,.ref 0 m 0 m),(8,.x (.int .i64 (Zu l n))),(10,.ref 1 (ZBm [] (W.take j)).length 0 (ZBm [] (W.take j)).length),(40,.x (.sl (rows ZA W))),(41,.x (.int .i64 W.length)),(42,.x (.int .i64 j))]/\os= [.rows false 72 2 RS,.rows false 9 1 (rows ZA (ZBm [] (W.take j)))]/\j<=W.length) (ZK W.length 42) ?_ (λφ os hI=> ?_)
   .exact⟨0,rfl,rfl,J0⟩
   .obtain⟨j,rfl,rfl,hj⟩:=hI;refine WI.seq ?_;refine WI.regB Ja [0,8,10,40,41,42,43] ?_;refine oG ?_;refine oN ?_;refine ZB ?_;refine WI.seq ?_;refine WI.cond (b:=_) rfl rfl (λh2=> ?_) (λh2=> ?_)
    .try simp only[zB]at h2
     refine WI.skip ?_;refine ZB ?_;refine WI.seq ?_;refine WI.block ?_;refine WI.seq ?_;refine WI.regB Ja [0,8,10,12,40,41,42] ?_
     iterate 2 refine oG ?_
     refine oS ?_;refine oN ?_;refine ZB ?_;refine WI.seq ?_;have hj4:j<W.length:=by omega
     have hsn:=ZX4 [] W j hj4;have hle:=ZRm [] (W.take j);rw[Yu,ξN]at hle;generalize ZBm [] (W.take j)=acc at hsn hle|-;have hta:acc.take acc.length=acc:=JS;have hd2:decide (acc.length<=1000000)=true:=ZL J0;have hua:ZV ZA (rows ZA acc)=some acc:=Zf ZM acc;have uu:=ξ4 uu hta hd2 hua;refine WI.regB Ja [0,8,10,12,40,41,42,49] ?_
     iterate 2 refine oS ?_
     refine oC ?_;refine oG ?_;refine oN ?_;refine ZB ?_;refine WI.cond (b:=_) rfl rfl (λh3=> ?_) (λh3=> ?_)
     .try simp only[zB]at h3
      have hst:ZBm [] (W.take (j+1))=acc++ [W[j]]:=by rw[hsn,Zdn,if_neg (by simpa using h3)]
      refine WI.regB Ja [0,8,10,40,41,42] ?_
      iterate 2 refine oS ?_
      iterate 2 refine oG ?_
      refine oS ?_;refine oN ?_;refine QR ?_;refine ZB ?_;refine WI.pickA [0,1] ?_;refine WI.regB Ja [0,8,10,40,41,42] ?_;refine oG ?_;refine oS ?_;refine oN ?_;refine ZB ?_
      first|exact⟨⟨j+1,by rw[hst,Zg];rfl,by rw[hst,ZU9],J0⟩,by simp[ZK,Ab.get,D.val,ZE];omega⟩|exact⟨⟨j+1,by rw[hst];rfl,by rw[hst],J0⟩,by simp[ZK,Ab.get,D.val,ZE];omega⟩
     .try simp only[zB]at h3
      have hst:ZBm [] (W.take (j+1))=acc:=by rw[hsn,Zdn,if_pos (by simpa using h3)]
      refine WI.skip ?_;refine QR ?_;refine ZB ?_;refine WI.pickA [0,1] ?_;refine WI.regB Ja [0,8,10,40,41,42] ?_;refine oG ?_;refine oS ?_;refine oN ?_;refine ZB ?_
      first|exact⟨⟨j+1,by rw[hst,Zg];rfl,by rw[hst,ZU9],J0⟩,by simp[ZK,Ab.get,D.val,ZE];omega⟩|exact⟨⟨j+1,by rw[hst];rfl,by rw[hst],J0⟩,by simp[ZK,Ab.get,D.val,ZE];omega⟩
    .try simp only[zB]at h2
     refine WI.exit ?_;refine KP ?_;refine KP ?_;refine ZBx ?_;refine ZB ?_;refine WI.seq ?_;obtain rfl:j=W.length:=by omega
     rw[JS];refine WI.regB Ja [0] ?_
     iterate 3 refine oS ?_
     refine oG ?_;refine oS ?_;refine oG ?_;refine oN ?_;refine ZB ?_;refine WI.seq ?_;refine WI.regB Ja [6] ?_
     iterate 2 refine oS ?_
     refine oN ?_;refine ZB ?_;refine WI.ret ?_
     first|refine lfR ?_|refine ZCE ?_|refine ZBv ?_|refine ZCG ?_
     have hm:m=res.length:=by rw[<-hres,<-Zh ZQ,<-hRs,ZJq,hRl]
     rw[hRs,hres,hm];exact⟨rfl,_,rfl⟩
theorem ZNC{l:List ZX}{n:List UInt8}{a:ZX}(h:a∈ZBj l n):a∈l:=by
 unfold ZBj at h;split at h<;>exact ZB0 h
theorem Zc0(l:List ZX)(n:List UInt8)(vs:List (List UInt8)):(QH l n vs).length<=l.length+1:=by
 have:=ZHH l n;unfold QH ZBj;split
 .omega
 .split<;>simp<;>omega
theorem ZQs(l:List ZX)(n:List UInt8)(vs:List (List UInt8))(B C:Nat)(hb: ∀a∈l,a.2.1.length<=B)(hv:vs.length<=C): ∀a∈QH l n vs,a.2.1.length<=B+C:=by
 intro a ha;unfold QH at ha;split at ha
 .have:=hb a ha;omega
 .rcases Km.1 ha with ha|ha
  .rcases Km.1 ha with ha|ha
   .have:=hb a (ZBL ha);omega
   .rw[ξZ]at ha;subst ha;have h1:=ZRm [] (Kk l n++vs);have h2:(Kk l n).length<=B:=by
     unfold Kk;split
     .rename_i h;have hp:=ZGy h;rw[show l.getD (Zu l n) ([],[],())=l[Zu l n] by simp[hp]];exact hb _ (YM hp)
     .simp
    rw[Zg,ξN]at h1;show(ZBm [] (Kk l n++vs)).length<=B+C;omega
  .have:=hb a (ZNC ha);omega
theorem ZeQ{l:List ZX}(hs:SoA l){n:List UInt8}{a:ZX}(h:a∈ZBj l n):Op.bytesLess n a.1=true:=by
 unfold ZBj at h;split at h
 .rename_i hh;have hp:=ZGy hh;have he:=ZUK l n hp hh;obtain⟨j,hj,rfl⟩:=ZM5.1 h;rw[List.getElem_drop];rw[Jj]at hj;have:=ZJ6.1 hs (Zu l n) (Zu l n+1+j) hp J0 J0;rwa [he]at this
 .rename_i hh;obtain⟨j,hj,rfl⟩:=ZM5.1 h;rw[List.getElem_drop];rw[Jj]at hj;have hp:Zu l n<l.length:=by omega
  have hst:=ZOQ l n hp;have hne:l[Zu l n].1≠n:=λe=>hh (by unfold ZBr;rw[YC hp];simpa using e)
  have h1:Op.bytesLess n l[Zu l n].1=true:=(bl_tot _ _ hne).resolve_left (by rw[hst];decide);rcases ZPk j with h0|h0
  .subst h0;exact h1
  .exact bl_trans _ _ _ h1 (ZJ6.1 hs (Zu l n) (Zu l n+j) hp J0 J0)
theorem ZeH{l:List ZX}(hs:SoA l)(n:List UInt8)(vs:List (List UInt8)):SoA (QH l n vs):=by
 unfold QH;split
 .exact hs
 .have h1: ∀a∈l.take (Zu l n),Op.bytesLess a.1 n=true:=λa ha=>by
   obtain⟨j,hj,rfl⟩:=List.mem_take_iff_getElem.1 ha;exact ZN5 l n j J0
  have h2: ∀a∈ZBj l n,Op.bytesLess n a.1=true:=λa ha=>ZeQ hs ha
  rw[SoA,ZSN,ZSN];refine⟨⟨hs.sublist (List.take_sublist _ _),List.pairwise_singleton _ _,λa ha b hb=> ?_⟩,?_,λa ha b hb=> ?_⟩
  .rw[ξZ]at hb;subst hb;exact h1 a ha
  .unfold ZBj;split<;>exact hs.sublist (List.drop_sublist _ _)
  .rcases Km.1 ha with ha|ha
   .exact bl_trans _ _ _ (h1 a ha) (h2 b hb)
   .rw[ξZ]at ha;subst ha;exact h2 b hb
def Zs(l:List ZX):List ZX:=l.foldl (λacc a=>QH acc (ZH a.1) a.2.1) []
theorem ZCA(l:List ZX)(j:Nat)(h:j<l.length):Zs (l.take (j+1))=QH (Zs (l.take j)) (ZH (l.getD j ([],[],())).1) (l.getD j ([],[],())).2.1:=by
 unfold Zs;rw[Jg h,ZSn];simp[h]
theorem ZHo(l:List ZX): ∀j,j<=l.length->SoA (Zs (l.take j))
 |0,_=>by simp[Zs,SoA]
 |j+1,h=>by rw[ZCA l j J0];exact ZeH (ZHo l j J0) _ _
theorem ZGQ(l:List ZX): ∀j,j<=l.length->(Zs (l.take j)).length<=j
 |0,_=>by simp[Zs]
 |j+1,h=>by
  rw[ZCA l j J0];have:=Zc0 (Zs (l.take j)) (ZH (l.getD j ([],[],())).1) (l.getD j ([],[],())).2.1;have:=ZGQ l j J0;omega
theorem ZIG(l:List ZX)(hb: ∀a∈l,a.2.1.length<=400): ∀j,j<=l.length-> ∀a∈Zs (l.take j),a.2.1.length<=j*400
 |0,_=>by simp[Zs]
 |j+1,h=>by
  rw[ZCA l j J0];have:=ZQs (Zs (l.take j)) (ZH (l.getD j ([],[],())).1) (l.getD j ([],[],())).2.1 (j*400) 400 (ZIG l hb j J0) (by rw[show l.getD j ([],[],())=l[j] by simp[show j<l.length by omega]];exact hb _ (YM _));intro a ha;have:=this a ha;omega
def ZTV:J8->J7->Option (Bool×D×J7)
 | [.ref 0 n 0 n',.x (.str t),.x (.sl R)],[.rows false e 2 rs]=>(ZV ZQ rs).bind λl=>(ZV ZA R).map λvs=>(decide (n=l.length/\n'=l.length/\e=72)&&decide (SoA l/\l.length<=100000/\t.length<=140737488355328/\vs.length<=50000/\ ∀a∈l,a.2.1.length<=50000),.ref 0 (QH l (ZH t) vs).length 0 (QH l (ZH t) vs).length,[.rows false e 2 (rows ZQ (QH l (ZH t) vs))])
 |_,_=>none
theorem Zd0: ∀args os r os',ZTV args os=some (true,r,os')->ZN Tryz.prog 99 args os r os':=by
 intro args os r os' h;unfold ZTV at h;split at h
 .rename_i n n' t R e rs;obtain⟨l,h1,h⟩:=Zp h;obtain⟨vs,h2,h⟩:=Zd h;simp only[Za,ZT,Zc]at h;obtain⟨⟨⟨rfl,rfl,rfl⟩,h3,h4,h5,h6,h7⟩,rfl,rfl⟩:=h;rw[<-ZY Zr h1,<-ZY ZM h2];exact ZiT l t vs h3 h4 h5 h6 h7
 .cases h
def ZKn:Tabs:=Jt (ZO) 99 ZTV
theorem ZYP:SsOk Tryz.prog ZKn:=Yz (ZD) (ZU 99) Zd0
theorem Zcl:(∀a,ZKn.q 99 a=none)/\(∀a o,ZKn.t 99 a o=Yo ZTV a o)/\(∀f a o,ZKn.r f a o=none)/\(∀f a o,ZKn.k f a o=none):=⟨λ_=>rfl,λ_ _=>rfl,λ_ _ _=>rfl,λ_ _ _=>rfl⟩
theorem Zfs(dn:List UInt8)(l:List ZX)(hl:l.length<=100)(ht: ∀a∈l,a.1.length<=1000000)(hb: ∀a∈l,a.2.1.length<=400):ZC Tryz.prog 58 [.agg [.x (.str dn),.x (.sl (rows ZQ l))]] (.agg [.x (.str dn),.x (.sl (rows ZQ (Zs l)))]):=by
 refine ZI.pure (fC 58 true ?_) rfl;intro C0 E0;have uu:=YZ @ZTV.eq_1 @Zcl;have tT:=ZYP;refine nz ?_;refine rg tT [1,2] ?_;refine rg tT [1,2,3] ?_;refine rg tT [2,3,10,11,12] ?_;refine WI.ownBox 2 1 72 2 rfl rfl ?_;dsimp only[List.set_cons_succ,List.set_cons_zero,JG,ξN,List.cons_append,List.nil_append,Nat.reduceAdd,Nat.zero_add];refine WI.pickA [1,2,3] ?_;refine WI.loop (λφ os=> ∃(j:Nat),φ= [(2,.ptr 0 0),(3,.ptr 1 0),(10,.x (.sl (rows ZQ l))),(11,.x (.int .i64 l.length)),(12,.x (.int .i64 j))]/\os= [.box [.x (.str []),.x .nils],.box [.x (.str dn),.ref 2 (Zs (l.take j)).length 0 (Zs (l.take j)).length],.rows false 72 2 (rows ZQ (Zs (l.take j)))]/\j<=l.length) (ZK l.length 12) ?_ (λφ os hI=> ?_)
 .exact⟨0,rfl,rfl,J0⟩
 .obtain⟨j,rfl,rfl,hj⟩:=hI;refine nz ?_;refine rg tT [2,3,10,11,12,13] ?_;refine cd (λh0=> ?_) (λh0=> ?_)
  .have hj4:j<l.length:=by omega
   have hrw:=ZNz l j hj4;have hst:=ZCA l j hj4;have hso:=ZHo l j J0;have hcl:=ZGQ l j J0;have hcv: ∀a∈Zs (l.take j),a.2.1.length<=50000:=λa ha=>by have:=ZIG l hb j J0 a ha;omega
   have hg:l.getD j ([],[],())=l[j]:=by simp[hj4]
   have hxl:=ht l[j] (YM hj4);have hxv:=hb l[j] (YM hj4);rw[<-hg]at hxl hxv;generalize l.getD j ([],[],())=x at hrw hst hxl hxv;generalize Zs (l.take j)=acc at hst hso hcl hcv|-;have hua:ZV ZQ (rows ZQ acc)=some acc:=Zf Zr acc;have hux:ZV ZA (rows ZA x.2.1)=some x.2.1:=Zf ZM x.2.1;have hdd:decide (SoA acc/\acc.length<=100000/\x.1.length<=140737488355328/\x.2.1.length<=50000/\ ∀a∈acc,a.2.1.length<=50000)=true:=ZL ⟨hso,J0,J0,J0,hcv⟩;have uu:=ξ5 uu hrw hua hux hdd;refine rg tT [2,3,5,10,11,12] ?_;refine rg tT [2,3,10,11,12] ?_;refine WI.pickA [0,1,2] ?_;refine rg tT [2,3,10,11,12] ?_;exact⟨⟨j+1,rfl,by rw[hst],J0⟩,by simp[ZK,Ab.get,D.val,ZE];omega⟩
  .obtain rfl:j=l.length:=by omega
   rw[JS];refine rg tT [2] ?_;refine lf ?_
   first|rfl|exact⟨rfl,rfl⟩|trivial
def Ku:J8->J5
 | [.agg [.x (.str dn),.x (.sl R)]]=>(ZV ZQ R).bind λl=>some (decide (l.length<=100/\(∀a∈l,a.1.length<=1000000)/\ ∀a∈l,a.2.1.length<=400),.agg [.x (.str dn),.x (.sl (rows ZQ (Zs l)))])
 |_=>none
theorem ZGT: ∀args r,Ku args=some (true,r)->ZC Tryz.prog 58 args r:=by
 intro args r h;unfold Ku at h;split at h
 .rename_i dn R;obtain⟨l,hr0,h⟩:=Zp h;simp only[Ze,Za,ZT,Zc,true_and]at h;obtain⟨h1,rfl⟩:=h;rw[<-ZY Zr hr0];exact(Zfs dn l h1.1 h1.2.1 h1.2.2)
 .cases h
theorem Zbu(b:Bool):ZC Tryz.prog 163 [.x (.bool b)] (.x (.int .i64 (if b=true then 1 else 0))):=by
 refine ZI.pure (fC 163 true ?_) rfl;intro C0 E0;have uu:=trivial;have tT:=(ZD:SsOk Tryz.prog ZO);refine nz ?_;refine rg tT [0] ?_;refine rg tT [3] ?_;refine cd (λh0=> ?_) (λh0=> ?_)
 .refine rg tT [2] ?_;refine lf ?_
  (clear uu;grind)
 .refine rg tT [2] ?_;refine lf ?_
  (clear uu;grind)
def ZB6:J8->J5
 | [.x (.bool b)]=>some (true,.x (.int .i64 (if b=true then 1 else 0)))
 |_=>none
theorem ZN2: ∀args r,ZB6 args=some (true,r)->ZC Tryz.prog 163 args r:=by
 intro args r h;unfold ZB6 at h;split at h
 .rename_i b;simp only[Ze,Za,ZT,Zc,true_and]at h;obtain rfl:=h;exact(Zbu b)
 .cases h
def ZKq:Tabs:=ZR (ZR (ZO) 65 Kv) 163 ZB6
theorem ZZW:SsOk Tryz.prog ZKq:=ZG (ZG (ZD) (ZU 65) ZKr) (ZU 163) ZN2
theorem ZaR:(∀a,ZKq.q 65 a=Kv a)/\(∀a,ZKq.q 163 a=ZB6 a)/\(∀f a o,ZKq.r f a o=none)/\(∀f a o,ZKq.k f a o=none):=⟨λ_=>rfl,λ_=>rfl,λ_ _ _=>rfl,λ_ _ _=>rfl⟩
theorem Zhn(k:Int)(a b:Tx):ZC Tryz.prog 162 [.x (.int .i64 k),.x (.str a),.x (.str b)] (.tup [.x (.str (JR k a).1),.x (.str (JR k b).1),.x (.bool ((JR k a).2&&(JR k b).2))]):=by
 refine ZI.pure (fC 162 true ?_) rfl;intro C0 E0;have uu:=ξ5 @Kv.eq_1 @Kv.eq_2 @ZaR @ZB6.eq_1 @ZB6.eq_2;have tT:=ZZW;refine nz ?_;refine rg tT [0,1,2] ?_;refine rg tT [0,2,9,10] ?_;refine rg tT [9,10,11,12] ?_;refine rg tT [6,7,8] ?_;refine lf ?_
 first|rfl|exact⟨rfl,rfl⟩|trivial
def ZLt:J8->J5
 | [.x (.int .i64 k),.x (.str a),.x (.str b)]=>some (true,.tup [.x (.str (JR k a).1),.x (.str (JR k b).1),.x (.bool ((JR k a).2&&(JR k b).2))])
 |_=>none
theorem ZcZ: ∀args r,ZLt args=some (true,r)->ZC Tryz.prog 162 args r:=by
 intro args r h;unfold ZLt at h;split at h
 .rename_i k a b;simp only[Ze,Za,ZT,Zc,true_and]at h;obtain rfl:=h;exact(Zhn k a b)
 .cases h
def ZLk:Tabs:=ZR (ZR (ZO) 162 ZLt) 163 ZB6
theorem ZXa:SsOk Tryz.prog ZLk:=ZG (ZG (ZD) (ZU 162) ZcZ) (ZU 163) ZN2
theorem Zcv:(∀a,ZLk.q 162 a=ZLt a)/\(∀a,ZLk.q 163 a=ZB6 a)/\(∀f a o,ZLk.r f a o=none)/\(∀f a o,ZLk.k f a o=none):=⟨λ_=>rfl,λ_=>rfl,λ_ _ _=>rfl,λ_ _ _=>rfl⟩
theorem ZaS(k:Int)(a b:Tx):ZC Tryz.prog 126 [.x (.int .i64 k),.x (.str a),.x (.str b)] (.x (.int .i64 (eqV k a b))):=by
 rcases hu:eqV k a b with u
 unfold eqV at hu;refine ZI.pure (fC 126 true ?_) rfl;intro C0 E0;have uu:=ξ5 @ZLt.eq_1 @ZLt.eq_2 @ZB6.eq_1 @ZB6.eq_2 @Zcv;have tT:=ZXa;refine nz ?_;refine rg tT [0,1,2] ?_;refine rg tT [7,8,9] ?_;refine rg tT [7,8,19] ?_;refine cd (λh0=> ?_) (λh0=> ?_)
 .refine rg tT [6] ?_;refine lf ?_
  (clear uu;grind)
 .refine rg tT [6] ?_;refine lf ?_
  (clear uu;grind)
def ZGh:J8->J5
 | [.x (.int .i64 k),.x (.str a),.x (.str b)]=>some (true,.x (.int .i64 (eqV k a b)))
 |_=>none
theorem ZWK: ∀args r,ZGh args=some (true,r)->ZC Tryz.prog 126 args r:=by
 intro args r h;unfold ZGh at h;split at h
 .rename_i k a b;simp only[Ze,Za,ZT,Zc,true_and]at h;obtain rfl:=h;exact(ZaS k a b)
 .cases h
def QJ(l:List ZX):Prop:=l.length<=100/\(∀a∈l,a.1.length<=1000000)/\ ∀a∈l,a.2.1.length<=400
instance (l:List ZX):Decidable (QJ l):=inferInstanceAs (Decidable (_/\_/\_))
def ZEs(l:List ZX)(n:Tx):List Tx:=Kk (Zs l) (ZH n)
def ZI9:Tabs:=ZR (ZR (ZR (ZO) 37 YA) 58 Ku) 124 ZIV
theorem ZW2:SsOk Tryz.prog ZI9:=ZG (ZG (ZG (ZD) (ZU 37) ZAt) (ZU 58) ZGT) (ZU 124) ZUU
theorem Za8:(∀a,ZI9.q 37 a=YA a)/\(∀a,ZI9.q 58 a=Ku a)/\(∀a,ZI9.q 124 a=ZIV a)/\(∀f a o,ZI9.r f a o=none)/\(∀f a o,ZI9.k f a o=none):=⟨λ_=>rfl,λ_=>rfl,λ_=>rfl,λ_ _ _=>rfl,λ_ _ _=>rfl⟩
theorem ZGI(l:List ZX):Zs (l.take l.length)=Zs l:=by rw[JS]
theorem ZiW(dn:Tx)(l:List ZX)(n:Tx)(h:QJ l)(hn:n.length<=140737488355328):ZC Tryz.prog 93 [.agg [.x (.str dn),.x (.sl (rows ZQ l))],.x (.str n)] (.x (.sl (rows ZA (ZEs l n)))):=by
 have hd1:decide (l.length<=100/\(∀a∈l,a.1.length<=1000000)/\ ∀a∈l,a.2.1.length<=400)=true:=ZL h;have hdn:=ZL hn;have hso:SoA (Zs l):=by have:=ZHo l l.length (Zm _);rwa [ZGI]at this
 have hcl:(Zs l).length<=100:=by have:=ZGQ l l.length (Zm _);rw[ZGI]at this;have:=h.1;omega
 have hul:ZV ZQ (rows ZQ l)=some l:=Zf Zr l;have huc:ZV ZQ (rows ZQ (Zs l))=some (Zs l):=Zf Zr _;have hds:decide (SoA (Zs l)/\(Zs l).length<=1000000)=true:=ZL ⟨hso,J0⟩;unfold ZEs;rcases hb:Kk (Zs l) (ZH n)with V
 refine ZI.pure (fC 93 true ?_) rfl;intro C0 E0;have uu:=KJ @YA.eq_1 @YA.eq_2 @Ku.eq_1 @Ku.eq_2 @ZIV.eq_1 @ZIV.eq_2 hd1 hdn (ξ4 hul huc hds @Za8);have tT:=ZW2;refine nz ?_;refine rg tT [1,2] ?_;refine rg tT [1,5] ?_;refine WI.dregB tT [5,6,7] ?_;refine YD ?_;refine JO ?_;refine YD ?_;refine dQC ?_;refine dAC ?_;refine YD ?_
 iterate 2 refine KR ?_
 iterate 2 refine YD ?_
 refine dN ?_;refine nz ?_;refine rg tT [5,6,19] ?_;refine cd (λh0=> ?_) (λh0=> ?_)
 .have hh:ZBr (Zs l) (ZH n)=false:=by simpa using h0
  have hb0:V= []:=by rw[<-hb];unfold Kk;rw[if_neg (by rw[hh];decide)]
  subst hb0;refine rg tT [4] ?_;refine WI.nnA ?_;refine lf ?_
  first|rfl|exact⟨rfl,rfl⟩|trivial
 .have hh:ZBr (Zs l) (ZH n)=true:=by simpa using h0
  have hrw:=(ZIY hh).1;rw[hb]at hrw;have hlt:=ZGy hh;have hd5:=ZL (show((Zu (Zs l) (ZH n):Nat):Int)<((Zs l).length:Int) by omega);have uu:=JW uu hrw hd5;refine rg tT [4] ?_;refine WI.nnA ?_;refine lf ?_
  first|rfl|exact⟨rfl,rfl⟩|trivial
def ZGz:J8->J5
 | [.agg [.x (.str dn),.x (.sl R)],.x (.str n)]=>(ZV ZQ R).bind λl=>some (decide (QJ l/\n.length<=140737488355328),.x (.sl (rows ZA (ZEs l n))))
 |_=>none
theorem ZPR: ∀args r,ZGz args=some (true,r)->ZC Tryz.prog 93 args r:=by
 intro args r h;unfold ZGz at h;split at h
 .rename_i dn R n;obtain⟨l,hr0,h⟩:=Zp h;simp only[Ze,Za,ZT,Zc,true_and]at h;obtain⟨h1,rfl⟩:=h;rw[<-ZY Zr hr0];exact(ZiW dn l n h1.1 h1.2)
 .cases h
def ZFH(l:List ZX)(n v:Tx)(k:Int):Bool:=(ZEs l n).any λx=>decide (eqV k x v=1)
def ZLf:Tabs:=ZR (ZR (ZO) 93 ZGz) 126 ZGh
theorem ZaE:SsOk Tryz.prog ZLf:=ZG (ZG (ZD) (ZU 93) ZPR) (ZU 126) ZWK
theorem Za1:(∀a,ZLf.q 93 a=ZGz a)/\(∀a,ZLf.q 126 a=ZGh a)/\(∀f a o,ZLf.r f a o=none)/\(∀f a o,ZLf.k f a o=none):=⟨λ_=>rfl,λ_=>rfl,λ_ _ _=>rfl,λ_ _ _=>rfl⟩
theorem ZFR(p:Tx->Bool)(l:List Tx)(j:Nat)(h:j<l.length):(l.take (j+1)).any p=((l.take j).any p||p (l.getD j [])):=by
 rw[Jg h,List.any_append];simp[h]
theorem ZTB(l:List ZX)(n:Tx)(h:QJ l):(ZEs l n).length<=50000:=by
 unfold ZEs;refine ZTO (λa ha=> ?_);have h1:=ZIG l h.2.2 l.length (Zm _) a (by rw[ZGI];exact ha);have:=h.1;omega
theorem ZiY(dn:Tx)(l:List ZX)(n v:Tx)(k:Int)(h:QJ l)(hn:n.length<=140737488355328):ZC Tryz.prog 94 [.agg [.x (.str dn),.x (.sl (rows ZQ l))],.x (.str n),.x (.str v),.x (.int .i64 k)] (.x (.bool (ZFH l n v k))):=by
 have hd1:decide (QJ l/\n.length<=140737488355328)=true:=ZL ⟨h,hn⟩;have hul:ZV ZQ (rows ZQ l)=some l:=Zf Zr l;have hgl:=ZTB l n h;unfold ZFH;rcases hg:ZEs l n with V
 rw[hg]at hgl;refine ZI.pure (fC 94 true ?_) rfl;intro C0 E0;have uu:=ξ8 @ZGz.eq_1 @ZGz.eq_2 @ZGh.eq_1 @ZGh.eq_2 hd1 hul hg @Za1;have tT:=ZaE;refine nz ?_;refine rg tT [1,2,3,4] ?_;refine rg tT [2,3,13,14,15] ?_;refine WI.pickA [] ?_;refine WI.orderA [2,3,13,14,15] ?_;refine WI.loop (λφ os=> ∃(j:Nat),φ= [(2,.x (.str v)),(3,.x (.int .i64 k)),(13,.x (.sl (rows ZA V))),(14,.x (.int .i64 V.length)),(15,.x (.int .i64 j))]/\os= []/\j<=V.length/\(V.take j).any (λx=>decide (eqV k x v=1))=false) (ZK V.length 15) ?_ (λφ os hI=> ?_)
 .exact⟨0,rfl,rfl,J0,rfl⟩
 .obtain⟨j,rfl,rfl,hj,hno⟩:=hI;refine nz ?_;refine rg tT [2,3,13,14,15,16] ?_;refine cd (λh0=> ?_) (λh0=> ?_)
  .have hj4:j<V.length:=by omega
   have hrw:(rows ZA V)[j]? =some [X.str (V.getD j [])]:=by simp[rows,hj4,ZA]
   have hat:=ZFR (λx=>decide (eqV k x v=1)) V j hj4;have hmem:V.getD j []∈V:=by rw[show V.getD j []=V[j] by simp[hj4]];exact YM hj4
   generalize V.getD j []=x at hrw hat hmem;have uu:=YZ uu hrw;refine rg tT [2,3,10,13,14,15] ?_;refine rg tT [2,3,13,14,15,23] ?_;refine cd (λh1=> ?_) (λh1=> ?_)
   .have hx:eqV k x v=1:=by simpa using h1
    refine rg tT [8] ?_;refine lf ?_;rw[ZND.2 ⟨x,hmem,ZL hx⟩]
   .have hx:decide (eqV k x v=1)=false:=by simpa using h1
    refine rg tT [2,3,13,14,15] ?_;exact⟨⟨j+1,rfl,rfl,J0,by rw[hat,hno,hx];rfl⟩,by simp[ZK,Ab.get,D.val,ZE];omega⟩
  .refine rg tT [8] ?_;refine lf ?_;rw[YX J0]at hno;rw[hno]
def ZHI:J8->J5
 | [.agg [.x (.str dn),.x (.sl R)],.x (.str n),.x (.str v),.x (.int .i64 k)]=>(ZV ZQ R).bind λl=>some (decide (QJ l/\n.length<=140737488355328),.x (.bool (ZFH l n v k)))
 |_=>none
theorem ZO4: ∀args r,ZHI args=some (true,r)->ZC Tryz.prog 94 args r:=by
 intro args r h;unfold ZHI at h;split at h
 .rename_i dn R n v k;obtain⟨l,hr0,h⟩:=Zp h;simp only[Ze,Za,ZT,Zc,true_and]at h;obtain⟨h1,rfl⟩:=h;rw[<-ZY Zr hr0];exact(ZiY dn l n v k h1.1 h1.2)
 .cases h
def okS(s:Tx):Bool:=decide (JA s=(s,0))
def YQ(s:Tx):List Tx:=if okS s=true then(YN s).1.map λr=>(QU [r]).1 else []
theorem ZfI(s:Tx)(h:(YN s).2=0):smD (YN s).1:=by
 unfold YN at h|-;split
 .intro r hr;cases hr
 .rename_i h1;split
  .intro r hr;cases hr
  .split
   .rename_i h2;split
    .intro r hr;cases hr
    .split
     .intro r hr;cases hr
     .exact ZG2 s J0
   .intro r hr;cases hr
theorem ZPA(s:Tx)(h:(YN s).2=0):Jb (YN s).1=0:=by
 unfold YN at h|-;split
 .rename_i h1;rw[if_pos h1]at h;cases h
 .rename_i h1;rw[if_neg h1]at h;split
  .rfl
  .rename_i h2;rw[if_neg h2]at h;split
   .rename_i h3;rw[if_pos h3]at h;split
    .rename_i h4;rw[if_pos h4]at h;cases h
    .rename_i h4;rw[if_neg h4]at h;split
     .rename_i h5;rw[if_pos h5]at h;exact absurd h h5
     .rename_i h5;exact ZIC.1 h5
   .rename_i h3;rw[if_neg h3]at h;cases h
def ZGm:Tabs:=Jt (ZR (ZR (ZR (ZO) 106 ZB8) 131 Qk) 143 Qo) 143 (Qz Qo)
theorem ZYL:SsOk Tryz.prog ZGm:=Yz (ZG (ZG (ZG (ZD) (ZU 106) ZNx) (ZU 131) ZIA) (ZU 143) ZG4) (ZU 143) (ZEI ZG4)
theorem ZbX:(∀a,ZGm.q 106 a=ZB8 a)/\(∀a,ZGm.q 131 a=Qk a)/\(∀a,ZGm.q 143 a=Qo a)/\(∀a o,ZGm.t 143 a o=Yo (Qz Qo) a o)/\(∀f a o,ZGm.r f a o=none)/\(∀f a o,ZGm.k f a o=none):=⟨λ_=>rfl,λ_=>rfl,λ_=>rfl,λ_ _=>rfl,λ_ _ _=>rfl,λ_ _ _=>rfl⟩
theorem ZfS(s:Tx):ZC Tryz.prog 127 [.x (.str s)] (.tup [.x (.sl (rows ZA (YQ s))),.x (.bool (okS s))]):=by
 obtain⟨d,hd⟩: ∃d,(YN s).1=d:=⟨_,rfl⟩;rcases hres:YQ s with out
 unfold YQ at hres;rw[hd]at hres;refine ZI.pure (fC 127 true ?_) rfl;intro C0 E0;have uu:=KJ @ZB8.eq_1 @ZB8.eq_2 @Qk.eq_1 @Qk.eq_2 @Qo.eq_1 @Qo.eq_2 hd @ZbX @Qz.eq_1;have tT:=ZYL;refine nz ?_;refine rg tT [0] ?_;refine rg tT [0,4,5] ?_;refine rg tT [0,24] ?_;refine cd (λh0=> ?_) (λh0=> ?_)
 .have hok:okS s=false:=by unfold okS;exact decide_eq_false (λe=>by rw[e]at h0;simp at h0)
  rw[hok]at hres;refine rg tT [2,3] ?_;refine WI.nnA ?_;refine lf ?_;subst hres;rw[hok];rfl
 .have hno:JA s=(s,0):=by
   have h1:(JA s).2=0/\(JA s).1=s:=by clear uu;grind
   exact ZCh h1.2 h1.1
  have hok:okS s=true:=ZL hno;rw[if_pos hok]at hres;have hr0:(YN s).2=0:=by
   unfold JA at hno;split at hno
   .rename_i h;exact absurd (congrArg Prod.snd hno) h
   .rename_i h;exact ZIC.1 h
  have hsm:smD d:=by rw[<-hd];exact ZfI s hr0
  have hdl:d.length<=32:=by rw[<-hd];exact(ZEL (ZPA s hr0)).1
  refine rg tT [6] ?_;refine rg tT [6,8] ?_;refine rg tT [8,30,31,32] ?_;refine WI.ownA 8 9 1 ?_;refine WI.loop (λφ os=> ∃(j:Nat),φ= [(8,.ref 0 ((d.take j).map λr=>(QU [r]).1).length 0 ((d.take j).map λr=>(QU [r]).1).length),(30,.x (.sl (rows JV d))),(31,.x (.int .i64 d.length)),(32,.x (.int .i64 j))]/\os= [.rows false 9 1 (rows ZA ((d.take j).map λr=>(QU [r]).1))]/\j<=d.length) (ZK d.length 32) ?_ (λφ os hI=> ?_)
  .exact⟨0,rfl,rfl,J0⟩
  .obtain⟨j,rfl,rfl,hj⟩:=hI;refine nz ?_;refine rg tT [8,30,31,32,33] ?_;refine cd (λh1=> ?_) (λh1=> ?_)
   .have hj4:j<d.length:=by omega
    have hrw:=ZE1 d j hj4;have htk:(d.take (j+1)).map (λr=>(QU [r]).1)=(d.take j).map (λr=>(QU [r]).1)++ [(QU [d.getD j []]).1]:=by rw[Jg hj4,Ji];simp[hj4]
    have hs1:decide (smD [d.getD j []])=true:=ZL (λr hr p hp=>by
     rw[ξZ]at hr;subst hr;exact hsm _ (by rw[show d.getD j []=d[j] by simp[hj4]];exact YM hj4) p hp)
    have hlen2:((d.take j).map λr=>(QU [r]).1).length<=1000000:=by rw[Yb,Yu];omega
    generalize d.getD j []=r at hrw htk hs1;have hur:ZV JV [[X.sl (rows Zn r)]]=some [r]:=Zf ZD6 [r];have uu:=ξ4 uu hrw hs1 hur;refine rg tT [8,10,30,31,32] ?_;refine rg tT [8,11,30,31,32] ?_;refine rg tT [8,30,31,32] ?_;refine WI.pickA [0] ?_;refine rg tT [8,30,31,32] ?_;exact⟨⟨j+1,by rw[htk,Zg];rfl,by rw[htk];simp[rows,ZA],J0⟩,by simp[ZK,Ab.get,D.val,ZE];omega⟩
   .obtain rfl:j=d.length:=by omega
    rw[JS,hres];refine rg tT [2,3] ?_;refine WI.nnA ?_;refine lf ?_;rw[hok]
def ZFy:J8->J5
 | [.x (.str s)]=>some (true,.tup [.x (.sl (rows ZA (YQ s))),.x (.bool (okS s))])
 |_=>none
theorem ZZl: ∀args r,ZFy args=some (true,r)->ZC Tryz.prog 127 args r:=by
 intro args r h;unfold ZFy at h;split at h
 .rename_i s;simp only[Ze,Za,ZT,Zc,true_and]at h;obtain rfl:=h;exact(ZfS s)
 .cases h
theorem ZRN{s:Tx}(h:okS s=true):(YN s).2=0:=by
 have hno:JA s=(s,0):=of_decide_eq_true h;unfold JA at hno;split at hno
 .rename_i h;exact absurd (congrArg Prod.snd hno) h
 .rename_i h;exact ZIC.1 h
theorem Zcu(d:Dn):(QU d).1.length<=4096:=by
 unfold QU;split
 .simp
 .split
  .simp
  .rename_i h;simpa using h
theorem ZLM(s:Tx):(YQ s).length<=32/\ ∀x∈YQ s,x.length<=4096:=by
 unfold YQ;split
 .rename_i h;refine⟨by rw[Yb];exact(ZEL (ZPA s (ZRN h))).1,λx hx=> ?_⟩;obtain⟨r,_,rfl⟩:=YT.1 hx;exact Zcu _
 .simp
def ZOK:Tabs:=ZR (ZO) 97 ZAV
theorem ZY9:SsOk Tryz.prog ZOK:=ZG (ZD) (ZU 97) ZHK
theorem Zc7:(∀a,ZOK.q 97 a=ZAV a)/\(∀f a o,ZOK.r f a o=none)/\(∀f a o,ZOK.k f a o=none):=⟨λ_=>rfl,λ_ _ _=>rfl,λ_ _ _=>rfl⟩
theorem ZhN(l:List Tx)(hl:l.length<=32)(hb: ∀x∈l,x.length<=4096)(h0:l≠ []):ZC Tryz.prog 96 [.x (.sl (rows ZA l))] (.x (.str (QI 44 (l.drop 1)))):=by
 have hpos:0<l.length:=ZLa.2 h0;have hjl:=ZFD 44 4096 (l.drop 1) (λx hx=>hb x (ZB0 hx));rw[Jj]at hjl;have hd1:decide ((Lib.join (l.drop 1) [44]).length<=140737488355328/\(l.drop 1).length<=140737488355328)=true:=ZL ⟨by rw[ZDy];omega,by rw[Jj];omega⟩;have hj:Lib.join (l.drop 1) [44]=QI 44 (l.drop 1):=ZDy 44 _;refine ZI.pure (fC 96 true ?_) rfl;intro C0 E0;have uu:=ξ5 @ZAV.eq_1 @ZAV.eq_2 hd1 hj @Zc7;have tT:=ZY9;refine nz ?_;refine rg tT [0] ?_;refine rg tT [2] ?_;refine lf ?_
 first|rfl|exact⟨rfl,rfl⟩|trivial
theorem Zej(l:List Tx)(h0:l≠ [])(hl:l.length<=32):ZC Tryz.prog 134 [.x (.sl (rows ZA l))] (.x (.str (l.headD []))):=by
 obtain⟨x,l,rfl⟩:=List.exists_cons_of_ne_nil h0;have hrw:(rows ZA (x::l))[0]? =some [X.str x]:=rfl;refine ZI.pure (fC 134 true ?_) rfl;intro C0 E0;have uu:=hrw;have tT:=(ZD:SsOk Tryz.prog ZO);refine nz ?_;refine rg tT [0] ?_;refine rg tT [2] ?_;refine lf ?_
 first|rfl|exact⟨rfl,rfl⟩|trivial
def ZH7:J8->J5
 | [.x (.sl R)]=>(ZV ZA R).bind λl=>some (decide (l.length<=32/\(∀x∈l,x.length<=4096)/\l≠ []),.x (.str (QI 44 (l.drop 1))))
 |_=>none
theorem ZcF: ∀args r,ZH7 args=some (true,r)->ZC Tryz.prog 96 args r:=by
 intro args r h;unfold ZH7 at h;split at h
 .rename_i R;obtain⟨l,hr0,h⟩:=Zp h;simp only[Ze,Za,ZT,Zc,true_and]at h;obtain⟨h1,rfl⟩:=h;rw[<-ZY ZM hr0];exact(ZhN l h1.1 h1.2.1 h1.2.2)
 .cases h
def ZFq:J8->J5
 | [.x (.sl R)]=>(ZV ZA R).bind λl=>some (decide (l≠ []/\l.length<=32),.x (.str (l.headD [])))
 |_=>none
theorem ZYz: ∀args r,ZFq args=some (true,r)->ZC Tryz.prog 134 args r:=by
 intro args r h;unfold ZFq at h;split at h
 .rename_i R;obtain⟨l,hr0,h⟩:=Zp h;simp only[Ze,Za,ZT,Zc,true_and]at h;obtain⟨h1,rfl⟩:=h;rw[<-ZY ZM hr0];exact(Zej l h1.1 h1.2)
 .cases h
def ZI7:Tabs:=ZR (ZR (ZR (ZO) 127 ZFy) 96 ZH7) 134 ZFq
theorem ZQE:SsOk Tryz.prog ZI7:=ZG (ZG (ZG (ZD) (ZU 127) ZZl) (ZU 96) ZcF) (ZU 134) ZYz
theorem ZTM:(∀a,ZI7.q 127 a=ZFy a)/\(∀a,ZI7.q 96 a=ZH7 a)/\(∀a,ZI7.q 134 a=ZFq a)/\(∀f a o,ZI7.r f a o=none)/\(∀f a o,ZI7.k f a o=none):=⟨λ_=>rfl,λ_=>rfl,λ_=>rfl,λ_ _ _=>rfl,λ_ _ _=>rfl⟩
def YV(s:Tx):Tx:=QI 44 ((YQ s).drop 1)
def YL(s:Tx):Tx:=(YQ s).headD []
def Ke(s:Tx):Bool:=decide (YQ s≠ [])
theorem Zia(s:Tx):ZC Tryz.prog 95 [.x (.str s),.fn 96 []] (.tup [.x (.str (YV s)),.x (.bool (Ke s))]):=by
 obtain⟨hl,hb⟩:=ZLM s;unfold YV Ke;generalize hp:YQ s=l at hl hb|-;have hul:ZV ZA (rows ZA l)=some l:=Zf ZM l;refine ZI.pure (fC 95 true ?_) rfl;intro C0 E0;have uu:=KJ @ZFy.eq_1 @ZFy.eq_2 @ZH7.eq_1 @ZH7.eq_2 hul hp @ZTM @ZFq.eq_1 @ZFq.eq_2;have tT:=ZQE;refine nz ?_;refine rg tT [0,1] ?_;refine rg tT [1,6] ?_;refine rg tT [1,6,15] ?_;refine cd (λh0=> ?_) (λh0=> ?_)
 .obtain rfl:l= []:=ξS (by simpa using h0);refine rg tT [4,5] ?_;refine lf ?_
  first|rfl|exact⟨rfl,rfl⟩|trivial
 .have h0:l≠ []:=λe=>by subst e;simp at h0
  have hd1:decide (l.length<=32/\(∀x∈l,x.length<=4096)/\l≠ [])=true:=ZL ⟨hl,hb,h0⟩;have uu:=YZ uu hd1;refine rg tT [4,5] ?_;refine lf ?_;rw[ZL h0]
theorem ZiE(s:Tx):ZC Tryz.prog 95 [.x (.str s),.fn 134 []] (.tup [.x (.str (YL s)),.x (.bool (Ke s))]):=by
 obtain⟨hl,hb⟩:=ZLM s;unfold YL Ke;generalize hp:YQ s=l at hl hb|-;have hul:ZV ZA (rows ZA l)=some l:=Zf ZM l;refine ZI.pure (fC 95 true ?_) rfl;intro C0 E0;have uu:=KJ @ZFy.eq_1 @ZFy.eq_2 @ZFq.eq_1 @ZFq.eq_2 hul hp @ZTM @ZH7.eq_1 @ZH7.eq_2;have tT:=ZQE;refine nz ?_;refine rg tT [0,1] ?_;refine rg tT [1,6] ?_;refine rg tT [1,6,15] ?_;refine cd (λh0=> ?_) (λh0=> ?_)
 .obtain rfl:l= []:=ξS (by simpa using h0);refine rg tT [4,5] ?_;refine lf ?_
  first|rfl|exact⟨rfl,rfl⟩|trivial
 .have h0:l≠ []:=λe=>by subst e;simp at h0
  have hd1:decide (l≠ []/\l.length<=32)=true:=ZL ⟨h0,hl⟩;have uu:=YZ uu hd1;refine rg tT [4,5] ?_;refine lf ?_;rw[ZL h0]
def ZO3:J8->J5
 | [.x (.str s),.fn 96 []]=>some (true,.tup [.x (.str (YV s)),.x (.bool (Ke s))])
 |_=>none
theorem Ze3: ∀args r,ZO3 args=some (true,r)->ZC Tryz.prog 95 args r:=by
 intro args r h;unfold ZO3 at h;split at h
 .rename_i s;simp only[Ze,Za,ZT,Zc,true_and]at h;obtain rfl:=h;exact(Zia s)
 .cases h
def ZPm:J8->J5
 | [.x (.str s),.fn 134 []]=>some (true,.tup [.x (.str (YL s)),.x (.bool (Ke s))])
 |_=>none
theorem ZeJ: ∀args r,ZPm args=some (true,r)->ZC Tryz.prog 95 args r:=by
 intro args r h;unfold ZPm at h;split at h
 .rename_i s;simp only[Ze,Za,ZT,Zc,true_and]at h;obtain rfl:=h;exact(ZiE s)
 .cases h
def ZNZ:Tabs:=ZR (ZO) 95 ZO3
theorem ZXl:SsOk Tryz.prog ZNZ:=ZG (ZD) (ZU 95) Ze3
theorem ZbW:(∀a,ZNZ.q 95 a=ZO3 a)/\(∀f a o,ZNZ.r f a o=none)/\(∀f a o,ZNZ.k f a o=none):=⟨λ_=>rfl,λ_ _ _=>rfl,λ_ _ _=>rfl⟩
def ZOg:Tabs:=ZR (ZO) 95 ZPm
theorem ZZs:SsOk Tryz.prog ZOg:=ZG (ZD) (ZU 95) ZeJ
theorem ZdO:(∀a,ZOg.q 95 a=ZPm a)/\(∀f a o,ZOg.r f a o=none)/\(∀f a o,ZOg.k f a o=none):=⟨λ_=>rfl,λ_ _ _=>rfl,λ_ _ _=>rfl⟩
theorem Zc9(s:Tx):ZC Tryz.prog 56 [.x (.str s)] (.tup [.x (.str (YV s)),.x (.bool (Ke s))]):=by
 refine ZI.pure (fC 56 true ?_) rfl;intro C0 E0;have uu:=JW @ZO3.eq_1 @ZO3.eq_2 @ZbW;have tT:=ZXl;refine nz ?_;refine rg tT [0] ?_;refine rg tT [2,3] ?_;refine lf ?_
 first|rfl|exact⟨rfl,rfl⟩|trivial
theorem Zg0(s:Tx):ZC Tryz.prog 100 [.x (.str s)] (.tup [.x (.str (YL s)),.x (.bool (Ke s))]):=by
 refine ZI.pure (fC 100 true ?_) rfl;intro C0 E0;have uu:=JW @ZPm.eq_1 @ZPm.eq_2 @ZdO;have tT:=ZZs;refine nz ?_;refine rg tT [0] ?_;refine rg tT [2,3] ?_;refine lf ?_
 first|rfl|exact⟨rfl,rfl⟩|trivial
def ZFA:J8->J5
 | [.x (.str s)]=>some (true,.tup [.x (.str (YV s)),.x (.bool (Ke s))])
 |_=>none
theorem ZOm: ∀args r,ZFA args=some (true,r)->ZC Tryz.prog 56 args r:=by
 intro args r h;unfold ZFA at h;split at h
 .rename_i s;simp only[Ze,Za,ZT,Zc,true_and]at h;obtain rfl:=h;exact(Zc9 s)
 .cases h
def ZEV:J8->J5
 | [.x (.str s)]=>some (true,.tup [.x (.str (YL s)),.x (.bool (Ke s))])
 |_=>none
theorem ZMn: ∀args r,ZEV args=some (true,r)->ZC Tryz.prog 100 args r:=by
 intro args r h;unfold ZEV at h;split at h
 .rename_i s;simp only[Ze,Za,ZT,Zc,true_and]at h;obtain rfl:=h;exact(Zg0 s)
 .cases h
theorem Zgi(b:Bool)(c:Int):ZC Tryz.prog 40 [.x (.bool b),.x (.int .i64 c)] (.x (.int .i64 (if b=true then c else 0))):=by
 refine ZI.pure (fC 40 true ?_) rfl;intro C0 E0;have uu:=trivial;have tT:=(ZD:SsOk Tryz.prog ZO);refine nz ?_;refine rg tT [0,1] ?_;refine rg tT [1,5] ?_;refine cd (λh0=> ?_) (λh0=> ?_)
 .refine rg tT [4] ?_;refine lf ?_
  (clear uu;grind)
 .refine rg tT [4] ?_;refine lf ?_
  (clear uu;grind)
def QX:J8->J5
 | [.x (.bool b),.x (.int .i64 c)]=>some (true,.x (.int .i64 (if b=true then c else 0)))
 |_=>none
theorem ZM1: ∀args r,QX args=some (true,r)->ZC Tryz.prog 40 args r:=by
 intro args r h;unfold QX at h;split at h
 .rename_i b c;simp only[Ze,Za,ZT,Zc,true_and]at h;obtain rfl:=h;exact(Zgi b c)
 .cases h
def ZBG(k:Int)(v:Tx):Tx:=(JR k v).1
def ZBw(k:Int)(l:List Tx):List (Tx×Int):=l.map λv=>(ZBG k v,(1:Int))
def twV(k:Int)(l:List Tx):Bool:= !decide (l.map (ZBG k)).Nodup
theorem ZKM(k:Int): ∀(l:List Tx) (x:Tx),ZJ (ZBw k l) x=if x∈l.map (ZBG k)then some 1 else none
 | [],x=>by simp[ZBw,ZJ]
 |v::l,x=>by
  have ih:=ZKM k l x;by_cases h:x=ZBG k v
  .simp[ZBw,ZJ,h]
  .have e:(x∈(v::l).map (ZBG k))=(x∈l.map (ZBG k)):=by simp[h]
   have e2:ZJ (ZBw k (v::l)) x=ZJ (ZBw k l) x:=by simp[ZBw,ZJ,h]
   rw[e2,ih];simp only[e]
theorem ZaQ(k:Int)(l:List Tx)(x:Tx):JX (Yk Ka kcI (ZBw k l)) [X.str x]=if x∈l.map (ZBG k)then some [D.x (X.int .i64 1)]else none:=by
 rw[ZEq Ka kcI hkS (ZBw k l) x,ZKM];split<;>rfl
theorem ZZM(k:Int)(l:List Tx)(v:Tx)(h:ZBG k v∉l.map (ZBG k)):Yg (Yk Ka kcI (ZBw k l)) [X.str (ZBG k v)] [D.x (X.int .i64 1)]=Yk Ka kcI (ZBw k (l++ [v])):=by
 have e:=ZD3 Ka kcI hkS (ZBw k l) (ZBG k v) 1;rw[ZBh (by rw[ZKM,if_neg h])]at e;have e2:ZBw k (l++ [v])=ZBw k l++ [(ZBG k v,1)]:=by simp[ZBw]
 rw[e2];exact e
theorem ZAg(l:List Tx)(j:Nat)(h:j<l.length):(rows ZA l)[j]? =some [X.str (l.getD j [])]:=by
 simp[rows,h,ZA]
theorem ZhC(k:Int)(l:List Tx)(j:Nat)(h:j<l.length)(hin:ZBG k (l.getD j [])∈(l.take j).map (ZBG k)):twV k l=true:=by
 unfold twV;rw[ZHD,decide_eq_false_iff_not];intro hn;have e:l=l.take j++l.getD j []::l.drop (j+1):=by
  have:=ZDA j l;rw[ZEY h]at this;rw[show l.getD j []=l[j] by simp[h]];exact this.symm
 rw[e,Ji,YO]at hn;have:=(ZF7.1 hn).2.2 _ hin _ (ZCa);exact this rfl
def ZN7:Tabs:=ZR (ZO) 65 Kv
theorem ZaO:SsOk Tryz.prog ZN7:=ZG (ZD) (ZU 65) ZKr
theorem Zct:(∀a,ZN7.q 65 a=Kv a)/\(∀f a o,ZN7.r f a o=none)/\(∀f a o,ZN7.k f a o=none):=⟨λ_=>rfl,λ_ _ _=>rfl,λ_ _ _=>rfl⟩
theorem Zes(k:Int)(l:List Tx)(hl:l.length<=1000000):ZC Tryz.prog 67 [.x (.int .i64 k),.x (.sl (rows ZA l))] (.x (.bool (twV k l))):=by
 refine ZI.pure (fC 67 true ?_) rfl;intro C0 E0;have uu:=JW @Kv.eq_1 @Kv.eq_2 @Zct;have tT:=ZaO;refine nz ?_;refine rg tT [0,1] ?_;refine rg tT [0,1,5] ?_;refine rg tT [0,5,11,12,13] ?_;refine WI.loop (λφ os=> ∃(j:Nat),φ= [(0,.x (.int .i64 k)),(5,.mref 0),(11,.x (.sl (rows ZA l))),(12,.x (.int .i64 l.length)),(13,.x (.int .i64 j))]/\os= [.mpo .str false (Yk Ka kcI (ZBw k (l.take j)))]/\j<=l.length/\((l.take j).map (ZBG k)).Nodup) (ZK l.length 13) ?_ (λφ os hI=> ?_)
 .exact⟨0,rfl,rfl,J0,J1⟩
 .obtain⟨j,rfl,rfl,hj,hnd⟩:=hI;refine nz ?_;refine rg tT [0,5,11,12,13,14] ?_;refine cd (λh0=> ?_) (λh0=> ?_)
  .have hj4:j<l.length:=by omega
   have hrw:=ZAg l j hj4;have hgt:=ZaQ k (l.take j) (ZBG k (l.getD j []));have htk:l.take (j+1)=l.take j++ [l.getD j []]:=by rw[Jg hj4];simp[hj4]
   have hnk:(JR k (l.getD j [])).1=ZBG k (l.getD j []):=rfl;have uu:=JW uu hrw hnk;refine rg tT [0,5,7,11,12,13] ?_;refine rg tT [0,5,8,11,12,13] ?_;by_cases hin:ZBG k (l.getD j [])∈(l.take j).map (ZBG k)
   .rw[if_pos hin]at hgt;have uu:=YZ uu hgt;refine rg tT [0,5,8,11,12,13,26] ?_;refine ct (λh1=> ?_) (λh1=> ?_)
    .refine rg tT [4] ?_;refine lf ?_;rw[ZhC k l j hj4 hin]
    .simp at h1
   .rw[if_neg hin]at hgt;have hset:=ZZM k (l.take j) (l.getD j []) hin;have uu:=JW uu hgt hset;refine rg tT [0,5,8,11,12,13,26] ?_;refine ce (λh1=> ?_) (λh1=> ?_)
    .simp at h1
    .refine WI.post ?_;refine WI.regB tT [0,5,11,12,13] ?_
     iterate 2 refine oS ?_
     iterate 3 refine oG ?_
     refine oP ?_;refine Je [0] ?_ (ho:=by simp (disch:=decide) only[zV,zO,Ob.mpb,frzL,ZA4,ZCs,onF,Ob.onI,mpP,JZ,Yl,ZAD,D.vw,vwL,D.on,D.inP,Yr,Zq,D.ren,Zy,inv,YW,Ob.mp,Ob.ren,D.nn,ZDr,Nat.reduceBEq,Nat.reduceEqDiff,Nat.reduceAdd,↓reduceIte,ZFK,ZAN];rfl);refine KM ?_;refine nz ?_;have hnd2:((l.take (j+1)).map (ZBG k)).Nodup:=by
      rw[htk,Ji,ZF7];exact⟨hnd,J1,λa ha b hb=>by simp only[YO,ZAu,ξZ]at hb;subst hb;rintro rfl;exact hin ha⟩
     refine rg tT [0,5,11,12,13] ?_;exact⟨⟨j+1,rfl,by rw[htk],J0,hnd2⟩,by simp[ZK,Ab.get,D.val,ZE];omega⟩
  .refine rg tT [4] ?_;refine lf ?_;rw[YX J0]at hnd;unfold twV;rw[ZL hnd];rfl
def ZFt:J8->J5
 | [.x (.int .i64 k),.x (.sl R)]=>(ZV ZA R).bind λl=>some (decide (l.length<=1000000),.x (.bool (twV k l)))
 |_=>none
theorem ZXs: ∀args r,ZFt args=some (true,r)->ZC Tryz.prog 67 args r:=by
 intro args r h;unfold ZFt at h;split at h
 .rename_i k R;obtain⟨l,hr0,h⟩:=Zp h;simp only[Ze,Za,ZT,Zc,true_and]at h;obtain⟨h1,rfl⟩:=h;rw[<-ZY ZM hr0];exact(Zes k l h1)
 .cases h
def atD(a:ZX):D:= .agg [.x (.str a.1),.x (.sl (rows ZA a.2.1))]
def w1(t:Zi)(_:ZX):Int:=if t.1= []then 17 else 0
def w2(_:Zi)(a:ZX):Int:=if a.2.1.length=0 then 19 else 0
def w3(t:Zi)(a:ZX):Int:=if a.2.1.all (λv=>(JR t.2.1 v).2)=true then 0 else 21
def w5(t:Zi)(a:ZX):Int:=if t.2.2.1=true/\1<a.2.1.length then 19 else 0
def ZKh:Tabs:=ZR (ZR (ZO) 40 QX) 65 Kv
theorem ZIB:SsOk Tryz.prog ZKh:=ZG (ZG (ZD) (ZU 40) ZM1) (ZU 65) ZKr
theorem ZKP:(∀a,ZKh.q 40 a=QX a)/\(∀a,ZKh.q 65 a=Kv a)/\(∀f a o,ZKh.r f a o=none)/\(∀f a o,ZKh.k f a o=none):=⟨λ_=>rfl,λ_=>rfl,λ_ _ _=>rfl,λ_ _ _=>rfl⟩
theorem Zi9(t:Zi)(a:ZX):ZC Tryz.prog 62 [tyD t,atD a] (.x (.int .i64 (w1 t a))):=by
 unfold w1 tyD atD;refine ZI.pure (fC 62 true ?_) rfl;intro C0 E0;have uu:=ξ5 @QX.eq_1 @QX.eq_2 @ZKP @Kv.eq_1 @Kv.eq_2;have tT:=ZIB;refine nz ?_;refine rg tT [2] ?_;refine rg tT [4] ?_;refine lf ?_
 (clear uu;grind)
theorem Zi8(t:Zi)(a:ZX):ZC Tryz.prog 63 [tyD t,atD a] (.x (.int .i64 (w2 t a))):=by
 unfold w2 tyD atD;refine ZI.pure (fC 63 true ?_) rfl;intro C0 E0;have uu:=ξ5 @QX.eq_1 @QX.eq_2 @ZKP @Kv.eq_1 @Kv.eq_2;have tT:=ZIB;refine nz ?_;refine rg tT [3] ?_;refine rg tT [4] ?_;refine lf ?_
 (clear uu;grind)
theorem Zi4(t:Zi)(a:ZX)(hl:a.2.1.length<=1000000):ZC Tryz.prog 64 [tyD t,atD a] (.x (.int .i64 (w3 t a))):=by
 unfold w3 tyD atD;obtain⟨n,l,u⟩:=a;simp only at hl|-;refine ZI.pure (fC 64 true ?_) rfl;intro C0 E0;have uu:=ξ5 @Kv.eq_1 @Kv.eq_2 @ZKP @QX.eq_1 @QX.eq_2;have tT:=ZIB;refine nz ?_;refine rg tT [2,3] ?_;refine rg tT [2,10,11,12] ?_;refine WI.pickA [0] ?_;refine WI.orderA [2,10,11,12] ?_;refine WI.loop (λφ os=> ∃(j:Nat),φ= [(2,.ptr 0 0),(10,.x (.sl (rows ZA l))),(11,.x (.int .i64 l.length)),(12,.x (.int .i64 j))]/\os= [.box [.x (.str t.1),.x (.int .i64 t.2.1),.x (.bool t.2.2.1)]]/\j<=l.length/\(l.take j).all (λv=>(JR t.2.1 v).2)=true) (ZK l.length 12) ?_ (λφ os hI=> ?_)
 .exact⟨0,rfl,rfl,J0,rfl⟩
 .obtain⟨j,rfl,rfl,hj,hall⟩:=hI;refine nz ?_;refine rg tT [2,10,11,12,13] ?_;refine cd (λh0=> ?_) (λh0=> ?_)
  .have hj4:j<l.length:=by omega
   have hrw:=ZAg l j hj4;have hgj:l[j]=l.getD j []:=by simp[hj4]
   have hal:=JL (λv=>(JR t.2.1 v).2) l j hj4;rw[hgj]at hal;have uu:=YZ uu hrw;refine rg tT [2,6,10,11,12] ?_;refine rg tT [2,8,10,11,12] ?_;refine rg tT [2,10,11,12,24] ?_;refine cd (λh1=> ?_) (λh1=> ?_)
   .refine rg tT [4] ?_;refine lf ?_;rw[if_neg (by rw[Zw (λv=>(JR t.2.1 v).2) l j hj4 (by rw[hgj];simpa using h1)];decide)]
   .have hall2:(l.take (j+1)).all (λv=>(JR t.2.1 v).2)=true:=by rw[hal,hall];simpa using h1
    refine rg tT [2,10,11,12] ?_;exact⟨⟨j+1,rfl,rfl,J0,hall2⟩,by simp[ZK,Ab.get,D.val,ZE];omega⟩
  .refine rg tT [4] ?_;refine lf ?_;rw[YX J0]at hall;rw[if_pos hall]
theorem Ziy(t:Zi)(a:ZX):ZC Tryz.prog 68 [tyD t,atD a] (.x (.int .i64 (w5 t a))):=by
 unfold w5 tyD atD;refine ZI.pure (fC 68 true ?_) rfl;intro C0 E0;have uu:=ξ5 @QX.eq_1 @QX.eq_2 @ZKP @Kv.eq_1 @Kv.eq_2;have tT:=ZIB;refine nz ?_;refine rg tT [2,3] ?_;refine rg tT [4] ?_;refine lf ?_
 (clear uu;grind)
abbrev Sn:=List (Tx×Int)
def snG(S:Sn)(k:Tx):Int:=(ZJ S k).getD 0
def snS(S:Sn)(k:Tx):Sn:=Zv S k (snG S k+1)
theorem ZR9(S:Sn)(k:Tx):(JX (Yk Ka kcI S) [X.str k])=(ZJ S k).map λn=> [D.x (X.int .i64 n)]:=by
 rw[ZEq Ka kcI hkS S k];rfl
theorem ZOe(S:Sn)(k:Tx)(n:Int):Yg (Yk Ka kcI S) [X.str k] [D.x (X.int .i64 n)]=Yk Ka kcI (Zv S k n):=ZD3 Ka kcI hkS S k n
def w4(S:Sn)(t:Zi)(a:ZX):Int:=if 0<snG S t.1\/twV t.2.1 a.2.1=true then 20 else 0
def ZLE:Tabs:=ZR (ZR (ZO) 40 QX) 67 ZFt
theorem ZPt:SsOk Tryz.prog ZLE:=ZG (ZG (ZD) (ZU 40) ZM1) (ZU 67) ZXs
theorem ZSS:(∀a,ZLE.q 40 a=QX a)/\(∀a,ZLE.q 67 a=ZFt a)/\(∀f a o,ZLE.r f a o=none)/\(∀f a o,ZLE.k f a o=none):=⟨λ_=>rfl,λ_=>rfl,λ_ _ _=>rfl,λ_ _ _=>rfl⟩
theorem Zi3(S:Sn)(t:Zi)(a:ZX)(hs:0<=snG S t.1/\snG S t.1<=1000000)(hl:a.2.1.length<=1000000):ZN Tryz.prog 66 [tyD t,atD a,.ptr 0 0] [.box [.mref 1],.mpo .str false (Yk Ka kcI S)] (.x (.int .i64 (w4 S t a))) [.box [.mref 1],.mpo .str false (Yk Ka kcI (snS S t.1))]:=by
 have hO:([.box [.mref 1],.mpo .str false (Yk Ka kcI (snS S t.1))]:J7).all (Ob.inP (λi=>decide (i<([.box [.mref 1],.mpo .str false (Yk Ka kcI (snS S t.1))]:J7).length)))=true:=by simp[Ob.inP,Yr,D.inP,Qr]
 have hla:decide (a.2.1.length<=1000000)=true:=ZL hl;have hg:=ZR9 S t.1;unfold w4 tyD atD snS;unfold snS at hO;unfold snG at hs hO|-;rcases hm:ZJ S t.1 with _|n
 .rw[hm]at hg hO;simp only[ZNI,ZAD]at hg hO|-;have hst:Yg (Yk Ka kcI S) [X.str t.1] [D.x (X.int .i64 1)]=Yk Ka kcI (Zv S t.1 (0+1)):=ZOe S t.1 1;refine ZI.mcallsX (fC 66 true ?_) (by first|decide|(simp;done)) hO (by first|rfl|exact hR);intro C0 E0;have uu:=ξ8 @QX.eq_1 @QX.eq_2 @ZFt.eq_1 @ZFt.eq_2 hg hst hla @ZSS;have tT:=ZPt;refine nz ?_;refine rg tT [2,3,4] ?_;refine rg tT [2,3,6] ?_;refine rg tT [6] ?_;refine rg tT [5] ?_;refine lf ?_;refine⟨?_,_,rfl⟩;clear uu;grind
 .rw[hm]at hg hO hs;simp only[ξW,Yl]at hg hO hs|-;have hst:=ZOe S t.1 (n+1);refine ZI.mcallsX (fC 66 true ?_) (by first|decide|(simp;done)) hO (by first|rfl|exact hR);intro C0 E0;have uu:=ξ8 @QX.eq_1 @QX.eq_2 @ZFt.eq_1 @ZFt.eq_2 hg hst hla @ZSS;have tT:=ZPt;refine nz ?_;refine rg tT [2,3,4] ?_;refine rg tT [2,3,6] ?_;refine rg tT [6] ?_;refine rg tT [5] ?_;refine lf ?_;refine⟨?_,_,rfl⟩;clear uu;grind
def w4T:J8->J7->Option (Bool×D×J7)
 | [.agg [.x (.str n),.x (.int .i64 k),.x (.bool b)],.agg [.x (.str nm),.x (.sl R)],.ptr 0 0],[.box [.mref 1],.mpo .str false P1]=>(Jz ZA (ZDq .i64) P1).bind λS=>(ZV ZA R).bind λl=>some (decide ((0<=snG S n/\snG S n<=1000000)/\l.length<=1000000),.x (.int .i64 (w4 S (n,k,b,()) (nm,l,()))),[.box [.mref 1],.mpo .str false (Yk Ka kcI (snS S n))])
 |_,_=>none
theorem ZhD: ∀args os r os',w4T args os=some (true,r,os')->ZN Tryz.prog 66 args os r os':=by
 intro args os r os' h;unfold w4T at h;split at h
 .rename_i n k b nm R P1;obtain⟨S,hm0,h⟩:=Zp h;obtain⟨l,hr0,h⟩:=Zp h;simp only[Ze,Za,ZT,Zc,true_and]at h;obtain⟨h1,rfl,rfl⟩:=h;rw[Ye ZM (ZBd .i64) hm0];rw[<-ZY ZM hr0];exact Zi3 S (n,k,b,()) (nm,l,()) h1.1 h1.2
 .cases h
def ZK3(e:KG):D:= .agg [.x (.str e.1),.x (.sl (rows ZQ e.2.1))]
def goA(g:Zi->ZX->Int)(L:List (Tx×Zi)):List ZX->Int
 | []=>0
 |a::l=>if g (tyV L (ZH a.1)) a≠0 then g (tyV L (ZH a.1)) a else goA g L l
theorem ZTc(l:List ZX)(j:Nat)(h:j<l.length):(rows ZQ l)[j]? =some [X.str (l.getD j ([],[],())).1,X.sl (rows ZA (l.getD j ([],[],())).2.1)]:=by
 simp[rows,h,ZQ,Jh,ZA,rSl,ZA0]
theorem ZQl{α:Type}(l:List α)(z:α)(j:Nat)(h:j<l.length):l.drop j=l.getD j z::l.drop (j+1):=by
 rw[ZEY h];simp[h]
theorem Zab(L:List (Tx×Zi))(M:List (Tx×Zt))(e:KG)(f:FuncId)(g:Zi->ZX->Int)(hen:Enters Tryz.prog f)(hg: ∀t,∀a∈e.2.1,ZC Tryz.prog f [tyD t,atD a] (.x (.int .i64 (g t a))))(hl:e.2.1.length<=1000000)(hn: ∀a∈e.2.1,a.1.length<=1000000):
  ZN Tryz.prog 69 [.ptr 0 0,ZK3 e,.fn f []] (scO L M) (.x (.int .i64 (goA g L e.2.1))) (scO L M):=by
 obtain⟨dn,l,u⟩:=e;simp only at hg hl hn|-;have hO:=ZB7 L M;have h1:=ZC1 L;have h2:=ZCy M;unfold ZK3;refine ZI.mcallsX (fC 69 true ?_) (by first|decide|(simp;done)) hO (by first|rfl|exact hR);intro C0 E0;have uu:=KJ @ZB4.eq_1 @ZB4.eq_2 h1 h2 @ZCZ @ZCk @ZDe @ZDd (ξ7 @ZAU @ZAS @ZJR @ZJn @ZJQ @ZJj @ZcP);refine WI.seq ?_;refine WI.regB ZAq [0,2,4] ?_;refine oG ?_;refine oS ?_;refine oN ?_;refine ZB ?_;refine WI.seq ?_;refine WI.seq ?_;refine WI.regB ZAq [0,2,13,14,15] ?_;refine oS ?_
 iterate 2 refine oG ?_
 refine oS ?_;refine oN ?_;refine ZB ?_;refine WI.block ?_;refine WI.dropT (scO L M) _ rfl J1 hO (by simp[D.inP,Yr]) ?_;refine WI.orderA [0,2,13,14,15] ?_;refine WI.loop (λφ os=> ∃(i:Nat),φ= [(0,.ptr 0 0),(2,.fn f []),(13,.x (.sl (rows ZQ l))),(14,.x (.int .i64 l.length)),(15,.x (.int .i64 i))]/\os=scO L M/\i<=l.length/\goA g L (l.drop i)=goA g L l) (ZK l.length 15) ?_ (λφ os hI=> ?_)
 .exact⟨0,rfl,rfl,J0,rfl⟩
 .obtain⟨i,rfl,rfl,hi,hgo⟩:=hI;refine WI.seq ?_;refine WI.regB ZAq [0,2,13,14,15,16] ?_;refine oG ?_;refine oN ?_;refine ZB ?_;refine WI.seq ?_;refine WI.cond (b:=_) rfl rfl (λh0=> ?_) (λh0=> ?_)
  .try simp only[zB]at h0
   refine WI.skip ?_;refine ZB ?_;refine WI.seq ?_;refine WI.block ?_;refine WI.seq ?_;have hi4:i<l.length:=by omega
   have hrw:=ZTc l i hi4;have hdr:=ZQl l ([],[],()) i hi4;have hma:l.getD i ([],[],())∈l:=by rw[show l.getD i ([],[],())=l[i] by simp[hi4]];exact YM hi4
   generalize l.getD i ([],[],())=a at hrw hdr hma;have hna:=hn a hma;have hga:=hg (tyV L (ZH a.1)) a hma;rw[hdr,goA]at hgo;obtain⟨t,ht⟩: ∃t,t=tyV L (ZH a.1):=⟨_,rfl⟩;rw[<-ht]at hga hgo;have hmc:ZN Tryz.prog f [.agg [.x (.str t.1),.x (.int .i64 t.2.1),.x (.bool t.2.2.1)],.agg [.x (.str a.1),.x (.sl (rows ZA a.2.1))]] [.box [.mref 1,.mref 2],.mpo .str true (JM L),.mpo .str true (JH M),.box [.x (.str a.1),.x (.sl (rows ZA a.2.1))],.box [.x (.str t.1),.x (.int .i64 t.2.1),.x (.bool t.2.2.1)]] (.x (.int .i64 (g t a))) [.box [.mref 1,.mref 2],.mpo .str true (JM L),.mpo .str true (JH M),.box [.x (.str a.1),.x (.sl (rows ZA a.2.1))],.box [.x (.str t.1),.x (.int .i64 t.2.1),.x (.bool t.2.2.1)]]:=ZC.mc hga _;have uu:=ξ4 uu hrw ht.symm @tyD.eq_1;refine WI.regB ZAq [0,2,8,13,14,15] ?_
   iterate 4 refine oG ?_
   refine oN ?_;refine ZB ?_;refine WI.seq ?_;refine WI.dregB ZAq [0,2,8,9,13,14,15] ?_
   iterate 5 refine YD ?_
   refine JO ?_;refine dQC ?_;refine YD ?_
   iterate 2 refine KR ?_
   refine dKG ?_;refine dAG ?_;refine YD ?_;refine dN ?_;refine ZB ?_;refine WI.seq ?_;refine WI.regB (ZDZ ZD hen hmc) [0,2,11,13,14,15] ?_;refine oS ?_
   iterate 2 refine oG ?_
   refine oC ?_;refine oS ?_;refine oN ?_;refine ZB ?_;refine WI.seq ?_;refine WI.post ?_;refine WI.regB ZAq [0,2,11,13,14,15,34] ?_;refine oS ?_;refine oG ?_;refine oP ?_;refine ZNh (scO L M) _ rfl J1 hO (by simp[D.inP,Yr]) ?_;refine KM ?_;refine ZB ?_;refine WI.cond (b:=_) rfl rfl (λh1=> ?_) (λh1=> ?_)
   .try simp only[zB]at h1
    refine WI.seq ?_;refine WI.regB ZAq [6] ?_
    iterate 2 refine oS ?_
    refine oN ?_;refine ZB ?_;refine WI.ret ?_;refine ZAA ?_;refine Yy ?_;refine Yy ?_;refine ZAA ?_;refine Yy ?_
    first|refine lfR ?_|refine ZCE ?_|refine ZBv ?_|refine ZCG ?_
    refine⟨?_,_,rfl⟩;rw[<-hgo,if_pos (by simpa using h1)]
   .try simp only[zB]at h1
    rw[if_neg (by simpa using h1)]at hgo;have hgo2:=hgo;refine WI.skip ?_;refine QR ?_;refine ZB ?_;refine WI.regB ZAq [0,2,13,14,15] ?_;refine oG ?_;refine oS ?_;refine oN ?_;refine ZB ?_;exact⟨⟨i+1,rfl,rfl,J0,hgo2⟩,by simp[ZK,Ab.get,D.val,ZE];omega⟩
  .try simp only[zB]at h0
   refine WI.exit ?_;refine KP ?_;refine KP ?_;refine ZBx ?_;refine ZB ?_;refine WI.seq ?_;refine WI.regB ZAq [6] ?_;refine oS ?_;refine oN ?_;refine ZB ?_;refine WI.ret ?_
   first|refine lfR ?_|refine ZCE ?_|refine ZBv ?_|refine ZCG ?_
   rw[ZBl J0]at hgo;refine⟨?_,[],J1⟩;rw[<-hgo];rfl
def goS(L:List (Tx×Zi)):Sn->List ZX->Int×Sn
 |S,[]=>(0,S)
 |S,a::l=>if w4 S (tyV L (ZH a.1)) a≠0 then(w4 S (tyV L (ZH a.1)) a,snS S (tyV L (ZH a.1)).1)else goS L (snS S (tyV L (ZH a.1)).1) l
abbrev sc5(L:List (Tx×Zi))(M:List (Tx×Zt))(S:Sn):J7:= [.box [.mref 1,.mref 2],.mpo .str true (JM L),.mpo .str true (JH M),.box [.mref 4],.mpo .str false (Yk Ka kcI S)]
theorem ZPY(L:List (Tx×Zi))(M:List (Tx×Zt))(S:Sn):(sc5 L M S).all (Ob.inP (λi=>decide (i<(sc5 L M S).length)))=true:=by
 simp[Ob.inP,Yr,D.inP,ZAU,ZAS,Qr]
theorem ZNk(S:Sn)(k:Tx)(v:Int)(k':Tx):ZJ (Zv S k v) k'=if k'=k then some v else ZJ S k':=by
 induction S with
 |nil=>by_cases h:k'=k<;>simp[Zv,ZJ,h]
 |cons p S ih=>
  by_cases h1:k=p.1
  .subst h1;by_cases h:k'=p.1<;>simp[Zv,ZJ,h]
  .by_cases h:k'=p.1
   .have hne: ¬p.1=k:=λe=>h1 e.symm
    subst h;simp[Zv,ZJ,h1,hne]
   .simp only[Zv,ZJ,h1,h,if_false,List.find?_cons,decide_false]at ih|-;exact ih
theorem ZfD(S:Sn)(k k':Tx):snG (snS S k) k'=if k'=k then snG S k+1 else snG S k':=by
 unfold snG snS;rw[ZNk];split<;>rfl
theorem Zdj(S:Sn):Jz ZA (ZDq .i64) (Yk Ka kcI S)=some S:=ZRQ ZM (ZBd .i64) S
def ZFw:Tabs:=Jt (ZDB (ZO) 36 ZB4) 66 w4T
theorem ZXd:SsOk Tryz.prog ZFw:=Yz (ZAJ (ZD) (ZU 36) ZQ3) (ZU 66) ZhD
theorem Zbn:(∀a,ZFw.q 36 a=none)/\(∀a o,ZFw.t 36 a o=(JI ZB4 a o).map λr=>(r.1,r.2,o))/\(∀a o,ZFw.r 36 a o=JI ZB4 a o)/\(∀a,ZFw.q 66 a=none)/\(∀a o,ZFw.t 66 a o=Yo w4T a o)/\(∀a o,ZFw.r 66 a o=none)/\(∀f a o,ZFw.k f a o=none):=⟨λ_=>rfl,λ_ _=>rfl,λ_ _=>rfl,λ_=>rfl,λ_ _=>rfl,λ_ _=>rfl,λ_ _ _=>rfl⟩
theorem Zb8(L:List (Tx×Zi))(M:List (Tx×Zt))(e:KG)(S0:Sn)(hS0: ∀k,0<=snG S0 k/\snG S0 k<=1)(hl:e.2.1.length<=1000000)(hn: ∀a∈e.2.1,a.1.length<=1000000/\a.2.1.length<=1000000):
  ZN Tryz.prog 69 [.ptr 0 0,ZK3 e,.fn 66 [.ptr 3 0]] (sc5 L M S0) (.x (.int .i64 (goS L S0 e.2.1).1)) (sc5 L M (goS L S0 e.2.1).2):=by
 obtain⟨dn,l,u⟩:=e;simp only at hl hn|-;have hO:=ZPY L M (goS L S0 l).2;have h1:=ZC1 L;have h2:=ZCy M;unfold ZK3;refine ZI.mcallsX (fC 69 true ?_) (by first|decide|(simp;done)) hO (by first|rfl|exact hR);intro C0 E0;have uu:=KJ @ZB4.eq_1 @ZB4.eq_2 @w4T.eq_1 @w4T.eq_2 h1 h2 @Zdj @ZCZ (KJ @ZCk @ZDe @ZDd @ZAU @ZAS @ZAN @ZCc @Qr @Zbn);have tT:=ZXd;refine nz ?_;refine rg tT [0,2,4] ?_;refine rg tT [0,2,13,14,15] ?_;refine WI.dropT (sc5 L M S0) _ rfl J1 (ZPY L M S0) (by simp[D.inP,Yr]) ?_;refine WI.orderA [0,2,13,14,15] ?_;refine WI.loop (λφ os=> ∃(i:Nat) (S:Sn),φ= [(0,.ptr 0 0),(2,.fn 66 [.ptr 3 0]),(13,.x (.sl (rows ZQ l))),(14,.x (.int .i64 l.length)),(15,.x (.int .i64 i))]/\os=sc5 L M S/\i<=l.length/\(∀k,0<=snG S k/\snG S k<=1)/\goS L S (l.drop i)=goS L S0 l) (ZK l.length 15) ?_ (λφ os hI=> ?_)
 .exact⟨0,S0,rfl,rfl,J0,hS0,rfl⟩
 .obtain⟨i,S,rfl,rfl,hi,hSi,hgo⟩:=hI;refine nz ?_;refine rg tT [0,2,13,14,15,16] ?_;refine cd (λh0=> ?_) (λh0=> ?_)
  .have hi4:i<l.length:=by omega
   have hrw:=ZTc l i hi4;have hdr:=ZQl l ([],[],()) i hi4;have hma:l.getD i ([],[],())∈l:=by rw[show l.getD i ([],[],())=l[i] by simp[hi4]];exact YM hi4
   generalize l.getD i ([],[],())=a at hrw hdr hma;obtain⟨hna,hna2⟩:=hn a hma;rw[hdr,goS]at hgo;obtain⟨t,ht⟩: ∃t,t=tyV L (ZH a.1):=⟨_,rfl⟩;rw[<-ht]at hgo;have hdd:decide ((0<=snG S t.1/\snG S t.1<=1000000)/\a.2.1.length<=1000000)=true:=ZL ⟨⟨(hSi t.1).1,by have:=(hSi t.1).2;omega⟩,hna2⟩;obtain⟨tn,tk,tb,tu⟩:=t;obtain⟨an,al,au⟩:=a;have uu:=ξ5 uu hrw ht.symm (@tyD.eq_1) hdd;refine rg tT [0,2,8,13,14,15] ?_;refine WI.dregB tT [0,2,8,9,13,14,15] ?_
   iterate 5 refine YD ?_
   refine JO ?_;refine dQC ?_;refine YD ?_
   iterate 2 refine KR ?_
   refine dKG ?_;refine dAG ?_;refine YD ?_;refine dN ?_;refine nz ?_;refine rg tT [0,2,11,13,14,15] ?_;refine WI.post ?_;refine WI.regB tT [0,2,11,13,14,15,34] ?_;refine oS ?_;refine oG ?_;refine oP ?_;refine ZNh (sc5 L M (snS S tn)) _ rfl J1 (ZPY L M _) (by simp[D.inP,Yr]) ?_;refine KM ?_;refine nz ?_;refine cd (λh1=> ?_) (λh1=> ?_)
   .refine rg tT [6] ?_;refine lf ?_;rw[if_pos (by simpa using h1)]at hgo;rw[<-hgo];exact⟨rfl,_,rfl⟩
   .rw[if_neg (by simpa using h1)]at hgo;have hgo2:=hgo;have hw0:w4 S (tn,tk,tb,tu) (an,al,au)=0:=by simpa using h1
    have hSn: ∀k,0<=snG (snS S tn) k/\snG (snS S tn) k<=1:=λk=>by
     rw[ZfD];have hz: ¬0<snG S tn:=λhh=>by unfold w4 at hw0;rw[if_pos (.inl hh)]at hw0;simp at hw0
     have:=hSi k;have:=hSi tn;split<;>omega
    refine rg tT [0,2,13,14,15] ?_;exact⟨⟨i+1,_,rfl,rfl,J0,hSn,hgo2⟩,by simp[ZK,Ab.get,D.val,ZE];omega⟩
  .refine rg tT [6] ?_;refine lf ?_;rw[ZBl J0]at hgo;rw[<-hgo];exact⟨rfl,[],by simp[goS]⟩
def smA(l:List ZX):Prop:=l.length<=1000000/\ ∀a∈l,a.1.length<=1000000/\a.2.1.length<=1000000
instance (l:List ZX):Decidable (smA l):=by unfold smA;infer_instance
def ZHU(g:Zi->ZX->Int)(dn:Tx)(A:J6)(P1 P2:W2):Option (Bool×D×J7):=
 (Jz ZA Yd P1).bind λL=>(Jz ZA Jy P2).bind λM=>(ZV ZQ A).bind λl=>some (decide (smA l),.x (.int .i64 (goA g L l)),scO L M)
def ZRr(dn:Tx)(A:J6)(P1 P2 P3:W2):Option (Bool×D×J7):=
 (Jz ZA Yd P1).bind λL=>(Jz ZA Jy P2).bind λM=>(Jz ZA (ZDq .i64) P3).bind λS=>(ZV ZQ A).bind λl=>some (decide (smA l)&&decide (S.length=0),.x (.int .i64 (goS L S l).1),sc5 L M (goS L S l).2)
def ZDh:J8->J7->Option (Bool×D×J7)
 | [.ptr 0 0,.agg [.x (.str dn),.x (.sl A)],.fn 62 []],[.box [.mref 1,.mref 2],.mpo .str true P1,.mpo .str true P2]=>ZHU w1 dn A P1 P2
 | [.ptr 0 0,.agg [.x (.str dn),.x (.sl A)],.fn 63 []],[.box [.mref 1,.mref 2],.mpo .str true P1,.mpo .str true P2]=>ZHU w2 dn A P1 P2
 | [.ptr 0 0,.agg [.x (.str dn),.x (.sl A)],.fn 64 []],[.box [.mref 1,.mref 2],.mpo .str true P1,.mpo .str true P2]=>ZHU w3 dn A P1 P2
 | [.ptr 0 0,.agg [.x (.str dn),.x (.sl A)],.fn 66 [.ptr 3 0]],[.box [.mref 1,.mref 2],.mpo .str true P1,.mpo .str true P2,.box [.mref 4],.mpo .str false P3]=>ZRr dn A P1 P2 P3
 | [.ptr 0 0,.agg [.x (.str dn),.x (.sl A)],.fn 68 []],[.box [.mref 1,.mref 2],.mpo .str true P1,.mpo .str true P2]=>ZHU w5 dn A P1 P2
 |_,_=>none
theorem ZY1:Enters Tryz.prog 62:=ZU 62
theorem ZY4:Enters Tryz.prog 63:=ZU 63
theorem ZZG:Enters Tryz.prog 64:=ZU 64
theorem ZW0:Enters Tryz.prog 68:=ZU 68
theorem ZHv{f:FuncId}{g:Zi->ZX->Int}(hen:Enters Tryz.prog f)(hg: ∀t (a:ZX),a.2.1.length<=1000000->ZC Tryz.prog f [tyD t,atD a] (.x (.int .i64 (g t a)))){dn:Tx}{A:J6}{P1 P2:W2}{r:D}{os':J7}(h:ZHU g dn A P1 P2=some (true,r,os')):
  ZN Tryz.prog 69 [.ptr 0 0,.agg [.x (.str dn),.x (.sl A)],.fn f []] [.box [.mref 1,.mref 2],.mpo .str true P1,.mpo .str true P2] r os':=by
 unfold ZHU at h;obtain⟨L,k1,h⟩:=Zp h;obtain⟨M,k2,h⟩:=Zp h;obtain⟨l,k3,h⟩:=Zp h;simp only[Ze,Za,Zc]at h;obtain⟨⟨hl,hn⟩,rfl,rfl⟩:=h;rw[Ye ZM JE k1,Ye ZM JN k2,<-ZY Zr k3];exact Zab L M (dn,l,()) f g hen (λt a ha=>hg t a (hn a ha).2) hl (λa ha=>(hn a ha).1)
theorem ZW7: ∀args os r os',ZDh args os=some (true,r,os')->ZN Tryz.prog 69 args os r os':=by
 intro args os r os' h;unfold ZDh at h;split at h
 .exact ZHv ZY1 (λt a _=>Zi9 t a) h
 .exact ZHv ZY4 (λt a _=>Zi8 t a) h
 .exact ZHv ZZG (λt a hl=>Zi4 t a hl) h
 .unfold ZRr at h;obtain⟨L,k1,h⟩:=Zp h;obtain⟨M,k2,h⟩:=Zp h;obtain⟨S,k4,h⟩:=Zp h;obtain⟨l,k3,h⟩:=Zp h;simp only[Ze,Za,ZT,Zc]at h;obtain⟨⟨⟨hl,hn⟩,hS⟩,rfl,rfl⟩:=h;rw[Ye ZM JE k1,Ye ZM JN k2,Ye ZM (ZBd .i64) k4,<-ZY Zr k3];obtain rfl:=ξS hS;exact Zb8 L M (_,l,()) [] (λk=>by simp[snG,ZJ]) hl hn
 .exact ZHv ZW0 (λt a _=>Ziy t a) h
 .cases h
def ZME(L:List (Tx×Zi))(l:List ZX):Int:=
 if goA w1 L l≠0 then goA w1 L l else if goA w2 L l≠0 then goA w2 L l else if goA w3 L l≠0 then goA w3 L l else if(goS L [] l).1≠0 then(goS L [] l).1 else goA w5 L l
theorem Zdu(l:List ZX):ZV ZQ (rows ZQ l)=some l:=Zf Zr l
def ZLK:Tabs:=Jt (ZO) 69 ZDh
theorem ZZF:SsOk Tryz.prog ZLK:=Yz (ZD) (ZU 69) ZW7
theorem Zap:(∀a,ZLK.q 69 a=none)/\(∀a o,ZLK.t 69 a o=Yo ZDh a o)/\(∀f a o,ZLK.r f a o=none)/\(∀f a o,ZLK.k f a o=none):=⟨λ_=>rfl,λ_ _=>rfl,λ_ _ _=>rfl,λ_ _ _=>rfl⟩
theorem ZcS(L:List (Tx×Zi))(M:List (Tx×Zt))(e:KG)(he:smA e.2.1):ZN Tryz.prog 39 [.ptr 0 0,ZK3 e] (scO L M) (.x (.int .i64 (ZME L e.2.1))) (scO L M):=by
 obtain⟨dn,l,u⟩:=e;simp only at he|-;have hsm:=ZL he;have hO:=ZB7 L M;have h1:=ZC1 L;have h2:=ZCy M;have h3:Jz ZA (ZDq .i64) []=some []:=rfl;rcases hv:ZME L l with v
 unfold ZME at hv;unfold ZK3;refine ZI.mcallsX (fC 39 true ?_) (by first|decide|(simp;done)) hO (by first|rfl|exact hR);intro C0 E0;have uu:=KJ @ZDh.eq_1 @ZDh.eq_2 @ZDh.eq_3 @ZDh.eq_4 @ZDh.eq_5 @ZDh.eq_6 @ZHU.eq_1 @ZRr.eq_1 (KJ h1 h2 h3 @Zdj @Zdu hsm @ZCZ @ZCk (ξ8 @ZDe @ZDd @ZAU @ZAS @ZAN @ZCc @Qr @Zap));have tT:=ZZF;refine nz ?_;refine rg tT [0,3] ?_;refine rg tT [0,3,5] ?_;refine rg tT [0,3,11,12] ?_;refine WI.loopN 6 ?_;refine WI.round ?_;refine nz ?_;refine rg tT [0,3,11,12,13] ?_;refine ct (λh0=> ?_) (λh0=> ?_)
 .refine rg tT [0,3,7,11,12] ?_;refine rg tT [0,3,8,11,12] ?_;refine rg tT [0,3,8,11,12,20] ?_;refine cd (λh1=> ?_) (λh1=> ?_)
  .refine rg tT [4] ?_;refine lf ?_;refine⟨?_,_,rfl⟩;clear uu;grind
  .refine rg tT [0,3,11,12] ?_;refine WI.round ?_;refine nz ?_;refine rg tT [0,3,11,12,13] ?_;refine ct (λh0=> ?_) (λh0=> ?_)
   .refine rg tT [0,3,7,11,12] ?_;refine rg tT [0,3,8,11,12] ?_;refine rg tT [0,3,8,11,12,20] ?_;refine cd (λh1=> ?_) (λh1=> ?_)
    .refine rg tT [4] ?_;refine lf ?_;refine⟨?_,_,rfl⟩;clear uu;grind
    .refine rg tT [0,3,11,12] ?_;refine WI.round ?_;refine nz ?_;refine rg tT [0,3,11,12,13] ?_;refine ct (λh0=> ?_) (λh0=> ?_)
     .refine rg tT [0,3,7,11,12] ?_;refine rg tT [0,3,8,11,12] ?_;refine rg tT [0,3,8,11,12,20] ?_;refine cd (λh1=> ?_) (λh1=> ?_)
      .refine rg tT [4] ?_;refine lf ?_;refine⟨?_,_,rfl⟩;clear uu;grind
      .refine rg tT [0,3,11,12] ?_;refine WI.round ?_;refine nz ?_;refine rg tT [0,3,11,12,13] ?_;refine ct (λh0=> ?_) (λh0=> ?_)
       .refine rg tT [0,3,7,11,12] ?_;refine rg tT [0,3,8,11,12] ?_;refine rg tT [0,3,8,11,12,20] ?_;refine cd (λh1=> ?_) (λh1=> ?_)
        .refine rg tT [4] ?_;refine lf ?_;refine⟨?_,_,rfl⟩;clear uu;grind
        .refine rg tT [0,3,11,12] ?_;refine WI.round ?_;refine nz ?_;refine rg tT [0,3,11,12,13] ?_;refine ct (λh0=> ?_) (λh0=> ?_)
         .refine rg tT [0,3,7,11,12] ?_;refine rg tT [0,3,8,11,12] ?_;refine rg tT [0,3,8,11,12,20] ?_;refine cd (λh1=> ?_) (λh1=> ?_)
          .refine rg tT [4] ?_;refine lf ?_;refine⟨?_,_,rfl⟩;clear uu;grind
          .refine rg tT [0,3,11,12] ?_;refine WI.round ?_;refine nz ?_;refine rg tT [0,3,11,12,13] ?_;refine ce (λh0=> ?_) (λh0=> ?_)
           .exact absurd h0 (by decide)
           .refine rg tT [4] ?_;refine lf ?_;refine⟨?_,_,rfl⟩;clear uu;grind
         .exact absurd h0 (by decide)
       .exact absurd h0 (by decide)
     .exact absurd h0 (by decide)
   .exact absurd h0 (by decide)
 .exact absurd h0 (by decide)
def ZGd:J8->J7->Option (Bool×D×J7)
 | [.ptr 0 0,.agg [.x (.str dn),.x (.sl R)]],[.box [.mref 1,.mref 2],.mpo .str true P1,.mpo .str true P2]=>(Jz ZA Yd P1).bind λL=>(Jz ZA Jy P2).bind λM=>(ZV ZQ R).bind λl=>some (decide (smA l),.x (.int .i64 (ZME L l)),[.box [.mref 1,.mref 2],.mpo .str true (JM L),.mpo .str true (JH M)])
 |_,_=>none
theorem ZWO: ∀args os r os',ZGd args os=some (true,r,os')->ZN Tryz.prog 39 args os r os':=by
 intro args os r os' h;unfold ZGd at h;split at h
 .rename_i dn R P1 P2;obtain⟨L,hm0,h⟩:=Zp h;obtain⟨M,hm1,h⟩:=Zp h;obtain⟨l,hr0,h⟩:=Zp h;simp only[Ze,Za,ZT,Zc,true_and]at h;obtain⟨h1,rfl,rfl⟩:=h;rw[Ye ZM JE hm0];rw[Ye ZM JN hm1];rw[<-ZY Zr hr0];exact ZcS L M (dn,l,()) h1
 .cases h
def OC:Tx:= [111,98,106,101,99,116,99,108,97,115,115]
def snL(l:List Tx):Sn:=l.foldl snS []
theorem ZNJ(l:List Tx)(k:Tx):snL (l++ [k])=snS (snL l) k:=by unfold snL;rw[ZSn];rfl
theorem ZHX(l:List Tx)(k:Tx):ZJ (snL l) k=if k∈l then some (l.count k:Int)else none:=by
 suffices h: ∀(n:Nat) (l:List Tx),l.length=n->ZJ (snL l) k=if k∈l then some (l.count k:Int)else none from h _ l rfl
 intro n
 induction n with
 |zero=>intro l hl;obtain rfl:=ξS hl;rfl
 |succ n ihn=>
  intro l hl;rcases List.eq_nil_or_concat l with rfl|⟨l0,x,rfl⟩
  .simp at hl
  have ih:=ihn l0 (by simpa using hl);rw[List.concat_eq_append,ZNJ];unfold snS;rw[ZNk];by_cases h:k=x
  .subst h;rw[if_pos rfl,if_pos J1];unfold snG;rw[ih,List.count_append];by_cases hk:k∈l0
   .rw[if_pos hk];simp
   .rw[if_neg hk,List.count_eq_zero_of_not_mem hk];simp
  .rw[if_neg h,ih,List.count_append];have hx: ¬x=k:=λe=>h e.symm
   by_cases hk:k∈l0
   .rw[if_pos hk,if_pos (by simp[hk])];simp[hx]
   .rw[if_neg hk,if_neg (by simp[hk,h])]
abbrev snM(l:List Tx):W2:=Yk Ka kcI (snL l)
theorem ZEp{l:List Tx}{k:Tx}(h:k∈l):JX (snM l) [X.str k]=some [D.x (X.int .i64 (l.count k))]:=by
 rw[ZR9,ZHX,if_pos h];rfl
theorem ZG0{l:List Tx}{k:Tx}(h:k∉l):JX (snM l) [X.str k]=none:=by
 rw[ZR9,ZHX,if_neg h];rfl
theorem ZTD{l:List Tx}{k:Tx}(h:k∈l):Yg (snM l) [X.str k] [D.x (X.int .i64 ((l.count k:Int)+1))]=snM (l++ [k]):=by
 rw[ZOe];unfold snM;rw[ZNJ];unfold snS snG;rw[ZHX,if_pos h];rfl
theorem ZIn{l:List Tx}{k:Tx}(h:k∉l):Yg (snM l) [X.str k] [D.x (X.int .i64 1)]=snM (l++ [k]):=by
 rw[ZOe];unfold snM;rw[ZNJ];unfold snS snG;rw[ZHX,if_neg h];rfl
theorem ZRO(l:List Tx)(k:Tx):k∈l↔ ∃n,(k,n)∈snL l:=by
 have key: ∀(S:Sn) (k:Tx),(ZJ S k).isSome=true↔ ∃n,(k,n)∈S:=by
  intro S k
  induction S with
  |nil=>simp[ZJ]
  |cons p S ih=>
   by_cases h:k=p.1
   .subst h;simp[ZJ];exact⟨p.2,.inl rfl⟩
   .have e:ZJ (p::S) k=ZJ S k:=by simp[ZJ,h]
    rw[e,ih];constructor
    .rintro⟨n,hn⟩;exact⟨n,ZBB _ hn⟩
    .rintro⟨n,hn⟩;rcases Kr.1 hn with hh|hh
     .exact absurd (congrArg Prod.fst hh) h
     .exact⟨n,hh⟩
 rw[<-key,ZHX];split<;>simp_all
def ZEW(l:List ZX):List Tx:=l.map λa=>ZH a.1
def ZIT(l:List ZX):List Tx:=l.foldl (λc a=>if ZH a.1=OC then a.2.1 else c) []
def ZIS(M:List (Tx×Zt))(cs:List Tx):List Tx:=cs.flatMap λn=>(clV M (ZH n)).2.1++(clV M (ZH n)).2.2.1
def ZKp(M:List (Tx×Zt))(H:List Tx)(n:Tx):Bool:=(ZJ M (ZH n)).isSome&&(clV M (ZH n)).2.1.all λx=>decide (x∈H)
def ZLQ(L:List (Tx×Zi))(M:List (Tx×Zt))(l:List ZX):Int:=
 if ZME L l≠0 then ZME L l
 else if((ZIT l).all (ZKp M (ZEW l))&&((ZEW l).all (λh=>decide (h∈OC::ZIS M (ZIT l)))&&decide (ZIT l≠ [])))=true then 0 else 65
theorem ZXG(l:List ZX)(i:Nat)(h:i<l.length):ZEW (l.take (i+1))=ZEW (l.take i)++ [ZH (l.getD i ([],[],())).1]:=by
 unfold ZEW;rw[Jg h,Ji];simp[h]
theorem ZX1(l:List ZX)(i:Nat)(h:i<l.length):ZIT (l.take (i+1))=if ZH (l.getD i ([],[],())).1=OC then(l.getD i ([],[],())).2.1 else ZIT (l.take i):=by
 unfold ZIT;rw[Jg h,ZSn];simp[h]
theorem Zd4{l:List ZX}(h:smA l)(hv: ∀a∈l,∀v∈a.2.1,v.length<=1000000):(ZIT l).length<=1000000/\ ∀v∈ZIT l,v.length<=1000000:=by
 have key: ∀(m:List ZX) (c:List Tx),(∀a∈m,a∈l)->(c.length<=1000000/\ ∀v∈c,v.length<=1000000)->(m.foldl (λc a=>if ZH a.1=OC then a.2.1 else c) c).length<=1000000/\ ∀v∈m.foldl (λc a=>if ZH a.1=OC then a.2.1 else c) c,v.length<=1000000:=by
  intro m
  induction m with
  |nil=>intro c _ hc;exact hc
  |cons a m ih=>
   intro c hm hc;rw[ZMi];refine ih _ (λx hx=>hm x (ZBB _ hx)) ?_;split
   .exact⟨(h.2 a (hm a ZCa)).2,hv a (hm a ZCa)⟩
   .exact hc
 exact key l [] (λ_ h=>h) J1
def bdC(M:List (Tx×Zt)):Prop:= ∀k,(clV M k).2.1.length<=1000000/\(clV M k).2.2.1.length<=1000000
theorem ZXM(M:List (Tx×Zt))(cs:List Tx)(i:Nat)(h:i<cs.length):ZIS M (cs.take (i+1))=ZIS M (cs.take i)++((clV M (ZH (cs.getD i []))).2.1++(clV M (ZH (cs.getD i []))).2.2.1):=by
 unfold ZIS;rw[Jg h,ZcT];simp[h]
theorem ZTT{M:List (Tx×Zt)}(hM:bdC M): ∀cs:List Tx,(ZIS M cs).length<=cs.length*2000000
 | []=>by simp[ZIS]
 |n::cs=>by
  have:=ZTT hM cs;have:=hM (ZH n);unfold ZIS at*;rw[ZST,Zg,Zg,JG];omega
def ZER:Tabs:=ZR (ZR (Jt (Jt (ZO) 39 ZGd) 14 ZIr) 37 YA) 40 QX
theorem ZX9:SsOk Tryz.prog ZER:=ZG (ZG (Yz (Yz (ZD) (ZU 39) ZWO) (ZU 14) ZZR) (ZU 37) ZAt) (ZU 40) ZM1
theorem Za5:(∀a,ZER.q 39 a=none)/\(∀a o,ZER.t 39 a o=Yo ZGd a o)/\(∀a,ZER.q 14 a=none)/\(∀a o,ZER.t 14 a o=Yo ZIr a o)/\(∀a,ZER.q 37 a=YA a)/\(∀a,ZER.q 40 a=QX a)/\(∀f a o,ZER.r f a o=none)/\(∀f a o,ZER.k f a o=none):=⟨λ_=>rfl,λ_ _=>rfl,λ_=>rfl,λ_ _=>rfl,λ_=>rfl,λ_=>rfl,λ_ _ _=>rfl,λ_ _ _=>rfl⟩
theorem ZWw{α:Type}{l:List α}{i:Nat}{q:α}(h:l[i]? =some q): ∀x,x∈l↔x=q\/x∈l.eraseIdx i:=by
 intro x;have hp:l.Perm (q::l.eraseIdx i):=by
  obtain⟨hi,he⟩:=Zb h;rw[List.eraseIdx_eq_take_drop_succ]
  conv=>lhs;rw[<-ZDA i l,ZEY hi,he]
  exact List.perm_middle
 rw[hp.mem_iff,Kr]
abbrev scE(L:List (Tx×Zi))(M:List (Tx×Zt))(dn:Tx)(l:List ZX)(H:List Tx):J7:= [.box [.mref 1,.mref 2],.mpo .str true (JM L),.mpo .str true (JH M),.box [.x (.str dn),.x (.sl (rows ZQ l))],.mpo .str false (snM H)]
abbrev scF(L:List (Tx×Zi))(M:List (Tx×Zt))(dn:Tx)(l:List ZX)(H Y:List Tx):J7:= [.box [.mref 1,.mref 2],.mpo .str true (JM L),.mpo .str true (JH M),.box [.x (.str dn),.x (.sl (rows ZQ l))],.mpo .str false (snM H),.mpo .str false (snM Y)]
theorem ZL7(L:List (Tx×Zi))(M:List (Tx×Zt))(dn:Tx)(l:List ZX)(H:List Tx):(scE L M dn l H).all (Ob.inP (λi=>decide (i<(scE L M dn l H).length)))=true:=by
 simp[Ob.inP,Yr,D.inP,ZAU,ZAS,Qr]
theorem Zex(L:List (Tx×Zi))(M:List (Tx×Zt))(dn:Tx)(l:List ZX)(H Y:List Tx):(scF L M dn l H Y).all (Ob.inP (λi=>decide (i<(scF L M dn l H Y).length)))=true:=by
 simp[Ob.inP,Yr,D.inP,ZAU,ZAS,Qr]
abbrev scG(L:List (Tx×Zi))(M:List (Tx×Zt))(dn:Tx)(l:List ZX)(H Y:List Tx)(c:Zt):J7:= [.box [.mref 1,.mref 2],.mpo .str true (JM L),.mpo .str true (JH M),.box [.x (.str dn),.x (.sl (rows ZQ l))],.mpo .str false (snM H),.mpo .str false (snM Y),.box [.x (.str c.1),.x (.sl (rows ZA c.2.1)),.x (.sl (rows ZA c.2.2.1))]]
set_option maxHeartbeats 4000000 in
theorem Zfq(L:List (Tx×Zi))(M:List (Tx×Zt))(e:KG)(he:smA e.2.1)(hv: ∀a∈e.2.1,∀v∈a.2.1,v.length<=1000000)(hM:bdC M):ZN Tryz.prog 17 [.ptr 0 0,ZK3 e] (scO L M) (.x (.int .i64 (ZLQ L M e.2.1))) (scO L M):=by
 obtain⟨dn,l,u⟩:=e;simp only at he hv|-;have hsm:=ZL he;have hll:l.length<=1000000:=he.1;have hO:=ZB7 L M;have h1':=ZC1 L;have h2':=ZCy M;obtain⟨hcl,hcv⟩:=Zd4 he hv;have hoc:(OC:Tx)= [111,98,106,101,99,116,99,108,97,115,115]:=rfl;have hns:Yg [] [X.str [111,98,106,101,99,116,99,108,97,115,115]] [D.x (X.int .i64 1)]=snM [OC]:=by rfl
 rcases hres:ZLQ L M l with v
 unfold ZLQ at hres;unfold ZK3;refine ZI.mcallsX (fC 17 true ?_) (by first|decide|(simp;done)) hO (by first|rfl|exact hR);intro C0 E0;have uu:=KJ @ZGd.eq_1 @ZGd.eq_2 @ZIr.eq_1 @ZIr.eq_2 @YA.eq_1 @YA.eq_2 @QX.eq_1 @QX.eq_2 (KJ @h1' @h2' @Zdu hsm hns @ZCZ @ZCk @ZDe (ξ7 @ZDd @ZAU @ZAS @ZAN @ZCc @Qr @Za5));have tT:=ZX9;refine nz ?_;refine rg tT [0,3] ?_;refine rg tT [0,3,22] ?_;refine ce (λh0=> ?_) (λh0=> ?_)
 .simp at h0
 .refine rg tT [0,3,5] ?_;refine rg tT [0,3,5,27] ?_;refine cd (λh1=> ?_) (λh1=> ?_)
  .rw[if_pos (by simpa using h1)]at hres;refine rg tT [4] ?_;refine lf ?_;exact⟨by rw[hres],_,rfl⟩
  .rw[if_neg (by simpa using h1)]at hres;refine rg tT [0,3,6] ?_;refine rg tT [0,3,6,7] ?_;refine rg tT [0,6,7,31,32,33] ?_;refine WI.nnA ?_;refine WI.orderA [0,6,7,31,32,33] ?_;refine WI.loop (λφ os=> ∃(i:Nat),φ= [(0,.ptr 0 0),(6,.mref 4),(7,.x (.sl (rows ZA (ZIT (l.take i))))),(31,.x (.sl (rows ZQ l))),(32,.x (.int .i64 l.length)),(33,.x (.int .i64 i))]/\os=scE L M dn l (ZEW (l.take i))/\i<=l.length) (ZK l.length 33) ?_ (λφ os hI=> ?_)
   .exact⟨0,rfl,rfl,J0⟩
   .obtain⟨i,rfl,rfl,hi⟩:=hI;refine nz ?_;refine rg tT [0,6,7,31,32,33,34] ?_;refine cd (λh2=> ?_) (λh2=> ?_)
    .have hi4:i<l.length:=by omega
     have hrw:=ZTc l i hi4;have hnt:=ZXG l i hi4;have hct:=ZX1 l i hi4;have hma:l.getD i ([],[],())∈l:=by rw[show l.getD i ([],[],())=l[i] by simp[hi4]];exact YM hi4
     generalize l.getD i ([],[],())=a at hrw hnt hct hma;have hna:=(he.2 a hma).1;have hcn:(ZEW (l.take i)).count (ZH a.1)<=1000000:=ZJw ZbM (by unfold ZEW;rw[Yb,Yu];have:=he.1;omega);have uu:=YZ uu hrw;refine rg tT [0,6,7,9,31,32,33] ?_;refine rg tT [0,6,7,9,10,31,32,33] ?_;by_cases hk:ZH a.1∈ZEW (l.take i)
     .have hg1:=ZEp hk;have hg2:=ZTD hk;have uu:=JW uu hg1 hg2;refine rg tT [0,6,7,9,10,31,32,33] ?_;refine rg tT [0,6,7,9,31,32,33,45] ?_;refine cd (λh3=> ?_) (λh3=> ?_)
      .rw[if_pos (by rw[hoc];simpa using h3)]at hct;refine rg tT [0,6,7,31,32,33] ?_;refine WI.orderA [0,6,7,31,32,33] ?_;refine WI.dropT (scE L M dn l (ZEW (l.take i)++ [ZH a.1])) _ rfl J1 (ZL7 L M dn l _) (by simp[D.inP,Yr]) ?_;refine rg tT [0,6,7,31,32,33] ?_;exact⟨⟨i+1,by rw[hct];first|done|rfl,by rw[hnt],J0⟩,by simp[ZK,Ab.get,D.val,ZE];omega⟩
      .rw[if_neg (λe=>h3 (e.trans hoc))]at hct;refine WI.orderA [0,6,7,31,32,33] ?_;refine WI.dropT (scE L M dn l (ZEW (l.take i)++ [ZH a.1])) _ rfl J1 (ZL7 L M dn l _) (by simp[D.inP,Yr]) ?_;refine rg tT [0,6,7,31,32,33] ?_;exact⟨⟨i+1,by rw[hct];first|done|rfl,by rw[hnt],J0⟩,by simp[ZK,Ab.get,D.val,ZE];omega⟩
     .have hg1:=ZG0 hk;have hg2:=ZIn hk;have uu:=JW uu hg1 hg2;refine rg tT [0,6,7,9,10,31,32,33] ?_;refine rg tT [0,6,7,9,31,32,33,45] ?_;refine cd (λh3=> ?_) (λh3=> ?_)
      .rw[if_pos (by rw[hoc];simpa using h3)]at hct;refine rg tT [0,6,7,31,32,33] ?_;refine WI.orderA [0,6,7,31,32,33] ?_;refine WI.dropT (scE L M dn l (ZEW (l.take i)++ [ZH a.1])) _ rfl J1 (ZL7 L M dn l _) (by simp[D.inP,Yr]) ?_;refine rg tT [0,6,7,31,32,33] ?_;exact⟨⟨i+1,by rw[hct];first|done|rfl,by rw[hnt],J0⟩,by simp[ZK,Ab.get,D.val,ZE];omega⟩
      .rw[if_neg (λe=>h3 (e.trans hoc))]at hct;refine WI.orderA [0,6,7,31,32,33] ?_;refine WI.dropT (scE L M dn l (ZEW (l.take i)++ [ZH a.1])) _ rfl J1 (ZL7 L M dn l _) (by simp[D.inP,Yr]) ?_;refine rg tT [0,6,7,31,32,33] ?_;exact⟨⟨i+1,by rw[hct];first|done|rfl,by rw[hnt],J0⟩,by simp[ZK,Ab.get,D.val,ZE];omega⟩
    .obtain rfl:i=l.length:=by omega
     rw[JS];refine WI.orderA [0,6,7] ?_;generalize ZEW l=H at hres|-;generalize ZIT l=cs at hres hcl hcv|-;refine rg tT [0,6,7,11] ?_;refine rg tT [0,6,7,11,51,52,53] ?_;refine WI.orderA [0,6,7,11,51,52,53] ?_;refine WI.loop (λφ os=> ∃(i:Nat),φ= [(0,.ptr 0 0),(6,.mref 4),(7,.x (.sl (rows ZA cs))),(11,.mref 5),(51,.x (.sl (rows ZA cs))),(52,.x (.int .i64 cs.length)),(53,.x (.int .i64 i))]/\os=scF L M dn l H (OC::ZIS M (cs.take i))/\i<=cs.length/\(cs.take i).all (ZKp M H)=true) (ZK cs.length 53) ?_ (λφ os hI=> ?_)
     .exact⟨0,rfl,rfl,J0,rfl⟩
     .obtain⟨i,rfl,rfl,hi,hall⟩:=hI;refine nz ?_;refine rg tT [0,6,7,11,51,52,53,54] ?_;refine cd (λh4=> ?_) (λh4=> ?_)
      .have hi4:i<cs.length:=by omega
       have hrw:=ZAg cs i hi4;have hmt:=ZXM M cs i hi4;have hnl:(cs.getD i []).length<=1000000:=by rw[show cs.getD i []=cs[i] by simp[hi4]];exact hcv _ (YM hi4)
       have hal:=JL (ZKp M H) cs i hi4;have hgi:cs[i]=cs.getD i []:=by simp[hi4]
       have hno:ZKp M H (cs.getD i [])=false->cs.all (ZKp M H)=false:=λh=>Zw (ZKp M H) cs i hi4 (by rw[hgi];exact h)
       rw[hgi]at hal;have hYl:=ZTT hM (cs.take i);rw[Yu]at hYl;generalize ZIS M (cs.take i)=Y0 at hmt hYl|-;generalize cs.getD i []=n at hrw hmt hnl hal hno;have hb:=hM (ZH n);have hcd:ZKp M H n=((ZJ M (ZH n)).isSome&&(clV M (ZH n)).2.1.all λx=>decide (x∈H)):=rfl;obtain⟨c,hc⟩: ∃c,c=clV M (ZH n):=⟨_,rfl⟩;rw[<-hc]at hmt hb hcd;have hd47:decide (n.length<=140737488355328)=true:=ZL J0;have uu:=ξ5 uu hrw hc.symm (@clD.eq_1) hd47;refine rg tT [0,6,7,11,13,51,52,53] ?_;refine rg tT [0,6,7,11,14,15,51,52,53] ?_;refine rg tT [0,6,7,11,14,51,52,53,64] ?_;refine cd (λh5=> ?_) (λh5=> ?_)
       .have hno2:=hno (by rw[hcd];clear uu;grind);rw[hno2,ZHM,if_neg (by decide)]at hres;refine rg tT [4] ?_;refine lf ?_;exact⟨by rw[hres],_,rfl⟩
       .have hso:(ZJ M (ZH n)).isSome=true:=by clear uu;grind
        rw[hso,ZBP]at hcd;refine rg tT [0,6,7,11,14,51,52,53,66,67,68] ?_;refine WI.orderA [0,6,7,11,14,51,52,53,66,67,68] ?_;refine WI.loop (λφ os=> ∃(k:Nat),φ= [(0,.ptr 0 0),(6,.mref 4),(7,.x (.sl (rows ZA cs))),(11,.mref 5),(14,.ptr 6 0),(51,.x (.sl (rows ZA cs))),(52,.x (.int .i64 cs.length)),(53,.x (.int .i64 i)),(66,.x (.sl (rows ZA c.2.1))),(67,.x (.int .i64 c.2.1.length)),(68,.x (.int .i64 k))]/\os=scG L M dn l H (OC::(Y0++c.2.1.take k)) c/\k<=c.2.1.length/\(c.2.1.take k).all (λx=>decide (x∈H))=true) (ZK c.2.1.length 68) ?_ (λφ os hI=> ?_)
        .exact⟨0,rfl,by rw[ZCV,Kj],J0,rfl⟩
        .obtain⟨k,rfl,rfl,hk,hka⟩:=hI;refine nz ?_;refine rg tT [0,6,7,11,14,51,52,53,66,67,68,69] ?_;refine cd (λh6=> ?_) (λh6=> ?_)
         .have hk4:k<c.2.1.length:=by omega
          have hrk:=ZAg c.2.1 k hk4;have hgk:c.2.1[k]=c.2.1.getD k []:=by simp[hk4]
          have htk:OC::(Y0++c.2.1.take (k+1))=(OC::(Y0++c.2.1.take k))++ [c.2.1.getD k []]:=by rw[Jg hk4,hgk];simp
          have hak:=JL (λx=>decide (x∈H)) c.2.1 k hk4;have hnk:c.2.1.getD k []∉H->c.2.1.all (λx=>decide (x∈H))=false:=λh=>Zw (λx=>decide (x∈H)) c.2.1 k hk4 (by rw[hgk];exact decide_eq_false h)
          rw[hgk]at hak;have hYk:(OC::(Y0++c.2.1.take k)).length<=4000000000000:=by rw[JG,Zg,Yu];omega
          generalize c.2.1.getD k []=x at hrk htk hak hnk;generalize OC::(Y0++c.2.1.take k)=Y at htk hYk;have hcy:=ZJw (ZbM (a:=x) (l:=Y)) hYk;have uu:=YZ uu hrk;refine rg tT [0,6,7,11,14,17,51,52,53,66,67,68] ?_;by_cases hxH:x∈H
          .have hg1:=ZEp hxH;have hcp:0<H.count x:=ZWr.2 hxH;have uu:=YZ uu hg1;refine rg tT [0,6,7,11,14,17,51,52,53,66,67,68,75] ?_;refine ce (λh7=> ?_) (λh7=> ?_)
           .have:((H.count x:Nat):Int)=0:=by simpa using h7
            omega
           .have hka2:(c.2.1.take (k+1)).all (λx=>decide (x∈H))=true:=by rw[hak,hka,ZL hxH];rfl
            by_cases hxY:x∈Y
            .have hg2:=ZEp hxY;have hg3:=ZTD hxY;have uu:=JW uu hg2 hg3;refine rg tT [0,6,7,11,14,51,52,53,66,67,68] ?_;refine rg tT [0,6,7,11,14,51,52,53,66,67,68] ?_;exact⟨⟨k+1,rfl,by rw[htk],J0,hka2⟩,by simp[ZK,Ab.get,D.val,ZE];omega⟩
            .have hg2:=ZG0 hxY;have hg3:=ZIn hxY;have uu:=JW uu hg2 hg3;refine rg tT [0,6,7,11,14,51,52,53,66,67,68] ?_;refine rg tT [0,6,7,11,14,51,52,53,66,67,68] ?_;exact⟨⟨k+1,rfl,by rw[htk],J0,hka2⟩,by simp[ZK,Ab.get,D.val,ZE];omega⟩
          .have hg1:=ZG0 hxH;have uu:=YZ uu hg1;refine rg tT [0,6,7,11,14,17,51,52,53,66,67,68,75] ?_;refine ct (λh7=> ?_) (λh7=> ?_)
           .refine rg tT [4] ?_;refine lf ?_;rw[hno (by rw[hcd];exact hnk hxH),ZHM,if_neg (by decide)]at hres;exact⟨by rw[hres],_,rfl⟩
           .simp at h7
         .obtain rfl:k=c.2.1.length:=by omega
          rw[JS]at hka;rw[JS];rw[hka]at hcd;have hall2:(cs.take (i+1)).all (ZKp M H)=true:=by rw[hal,hall,hcd];rfl
          refine rg tT [0,6,7,11,51,52,53,82,83,84] ?_;refine WI.orderA [0,6,7,11,51,52,53,82,83,84] ?_;refine WI.loop (λφ os=> ∃(k:Nat),φ= [(0,.ptr 0 0),(6,.mref 4),(7,.x (.sl (rows ZA cs))),(11,.mref 5),(51,.x (.sl (rows ZA cs))),(52,.x (.int .i64 cs.length)),(53,.x (.int .i64 i)),(82,.x (.sl (rows ZA c.2.2.1))),(83,.x (.int .i64 c.2.2.1.length)),(84,.x (.int .i64 k))]/\os=scG L M dn l H (OC::(Y0++(c.2.1++c.2.2.1.take k))) c/\k<=c.2.2.1.length) (ZK c.2.2.1.length 84) ?_ (λφ os hI=> ?_)
          .exact⟨0,rfl,by rw[ZCV,Kj],J0⟩
          .obtain⟨k,rfl,rfl,hk⟩:=hI;refine nz ?_;refine rg tT [0,6,7,11,51,52,53,82,83,84,85] ?_;refine cd (λh8=> ?_) (λh8=> ?_)
           .have hk4:k<c.2.2.1.length:=by omega
            have hrk:=ZAg c.2.2.1 k hk4;have hgk:c.2.2.1[k]=c.2.2.1.getD k []:=by simp[hk4]
            have htk:OC::(Y0++(c.2.1++c.2.2.1.take (k+1)))=(OC::(Y0++(c.2.1++c.2.2.1.take k)))++ [c.2.2.1.getD k []]:=by rw[Jg hk4,hgk];simp
            have hYk:(OC::(Y0++(c.2.1++c.2.2.1.take k))).length<=4000000000000:=by rw[JG,Zg,Zg,Yu];omega
            generalize c.2.2.1.getD k []=x at hrk htk;generalize OC::(Y0++(c.2.1++c.2.2.1.take k))=Y at htk hYk;have hcy:=ZJw (ZbM (a:=x) (l:=Y)) hYk;have uu:=YZ uu hrk;refine rg tT [0,6,7,11,19,51,52,53,82,83,84] ?_;by_cases hxY:x∈Y
            .have hg2:=ZEp hxY;have hg3:=ZTD hxY;have uu:=JW uu hg2 hg3;refine rg tT [0,6,7,11,51,52,53,82,83,84] ?_;refine rg tT [0,6,7,11,51,52,53,82,83,84] ?_;exact⟨⟨k+1,rfl,by rw[htk],J0⟩,by simp[ZK,Ab.get,D.val,ZE];omega⟩
            .have hg2:=ZG0 hxY;have hg3:=ZIn hxY;have uu:=JW uu hg2 hg3;refine rg tT [0,6,7,11,51,52,53,82,83,84] ?_;refine rg tT [0,6,7,11,51,52,53,82,83,84] ?_;exact⟨⟨k+1,rfl,by rw[htk],J0⟩,by simp[ZK,Ab.get,D.val,ZE];omega⟩
           .obtain rfl:k=c.2.2.1.length:=by omega
            rw[JS];refine WI.dropT (scF L M dn l H (OC::(Y0++(c.2.1++c.2.2.1)))) _ rfl J1 (Zex L M dn l _ _) (by simp[D.inP,Yr]) ?_;refine WI.orderA [0,6,7,11,51,52,53] ?_;refine rg tT [0,6,7,11,51,52,53] ?_;exact⟨⟨i+1,rfl,by rw[hmt],J0,hall2⟩,by simp[ZK,Ab.get,D.val,ZE];omega⟩
      .obtain rfl:i=cs.length:=by omega
       rw[JS]at hall|-;refine WI.orderA [6,7,11] ?_;rw[hall,ZBP]at hres;generalize OC::ZIS M cs=Y at hres|-;refine rg tT [7,11,95] ?_;refine WI.orderA [7,11,95] ?_;refine WI.loop (λφ os=> ∃(R:Sn) (cur:Option Pr),φ= [(7,.x (.sl (rows ZA cs))),(11,.mref 5),(95,.iref 4 6)]/\os= [.box [.mref 1,.mref 2],.mpo .str true (JM L),.mpo .str true (JH M),.box [.x (.str dn),.x (.sl (rows ZQ l))],.mit .str false (snM H) 6 (Yk Ka kcI R) cur,.mpo .str false (snM Y),.itr]/\(∀p∈R,p.1∈H)/\(∀h∈H,h∈Y\/ ∃n,(h,n)∈R)) (ZgO 4) ?_ (λφ os hI=> ?_)
       .exact⟨snL H,none,rfl,rfl,λp hp=>(ZRO H p.1).2 ⟨p.2,hp⟩,λh hh=> .inr ((ZRO H h).1 hh)⟩
       .obtain⟨R,cur,rfl,rfl,hR1,hR2⟩:=hI;refine nz ?_;refine WI.nextMA [7,11,95,97] (λhn37=> ?_) (λi37 q37 hn37=> ?_)
        .simp only[Yk,Zau]at hn37;subst hn37;have hHY:H.all (λh=>decide (h∈Y))=true:=Yc.2 λh hh=>ZL (by rcases hR2 h hh with h1|⟨n,h1⟩;exact h1;cases h1)
         rw[hHY,ZBP]at hres;refine nz ?_;refine ce (λh9=> ?_) (λh9=> ?_)
         .exact absurd h9 (by decide)
         .refine rg tT [4] ?_;refine lf ?_;refine⟨?_,_,rfl⟩;rw[<-hres];clear uu;rcases cs with _|⟨x,cs⟩<;>simp;omega
        .rw[Zet]at hn37;obtain⟨p,hp,rfl⟩:=Zd hn37;have hi37:=(Zb hp).1;have hpH:=hR1 p (Yj hp);refine nz ?_;refine ct (λh9=> ?_) (λh9=> ?_)
         .refine rg tT [7,11,20,95] ?_;by_cases hpY:p.1∈Y
          .have hg1:=ZEp hpY;have hcp:0<Y.count p.1:=ZWr.2 hpY;have uu:=YZ uu hg1;refine rg tT [7,11,95,103] ?_;refine ce (λh10=> ?_) (λh10=> ?_) (kB:=λh=>h.h)
           .have:((Y.count p.1:Nat):Int)=0:=by simpa using h10
            omega
           .have hR3: ∀h∈H,h∈Y\/ ∃n,(h,n)∈R.eraseIdx i37:=λh hh=>by
             rcases hR2 h hh with h1|⟨n,h1⟩
             .exact .inl h1
             .rcases(ZWw hp (h,n)).1 h1 with h2|h2
              .exact .inl (by rw[show h=p.1 from congrArg Prod.fst h2];exact hpY)
              .exact .inr ⟨n,h2⟩
            refine WI.orderA [7,11,95] ?_;refine nz ?_;exact⟨⟨R.eraseIdx i37,_,rfl,rfl,λq hq=>hR1 q (List.mem_of_mem_eraseIdx hq),hR3⟩,by simp only[ZgO,ZCD,ZCF,ZJ0,ZKA];rw[Zbz,if_pos hi37];omega⟩
          .have hg1:=ZG0 hpY;have uu:=YZ uu hg1;refine rg tT [7,11,95,103] ?_;refine ct (λh10=> ?_) (λh10=> ?_)
           .refine rg tT [4] ?_;refine lf ?_;rw[show H.all (λh=>decide (h∈Y))=false from by rw[List.all_eq_false];exact⟨p.1,hpH,by simpa using hpY⟩,ZHM,if_neg (by decide)]at hres;exact⟨by rw[hres],_,rfl⟩
           .simp at h10
         .exact absurd h9 (by decide)
end Go.Proofs.YtpjfdjcejamebaaGreatDoor
end
