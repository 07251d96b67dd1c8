/- Part 37 of the walks (own work). -/
import Derived.Test.YtilpjnckfkjkbaaGreatDoorU36
open Bool renaming and_false→gx,and_true→fG,false_and→bd,not_false→gv,not_true→uC,or_false→lZ,or_true→qy,true_and→bf,true_or→lx
open Int renaming toNat_natCast→cN
open List renaming any_cons→cW,any_nil→dz,any_toArray→cj,any_toArray'→dn,append_nil→af,cons_append→iM,getElem?_append_right→al,length_append→ai,length_map→ao,nil_append→ig,replicate→au,replicate_succ→cQ,replicate_zero→cG,size_toArray→dm
open Nat renaming add_assoc→bN,add_sub_cancel_left→aN,le_refl→aw,mul_one→dM,sub_self→d9,zero_le→aV
open Option renaming bind_some→ax,map→rJ
open Option.some renaming inj→aB
open Go.Proofs.Tryz renaming prog→aa
set_option maxRecDepth 100000
set_option maxHeartbeats 4000000
set_option linter.unusedSimpArgs false
set_option linter.unusedVariables false
open Go.Proofs.Tryz (f23 f24 f55)
namespace Go.Dv
open Go.Proofs
attribute [local congr] aA bC aT bB bD
theorem oL {K:AH} {b n:Nat} {l:List AV} {T:TypeId} (h:K[b]? =some (.cells l T)) (hl:l.length=n):ak K b 0 n=some l:=by unfold ak;rw [h];simp only;rw [if_pos (by omega),List.drop_zero,List.take_of_length_le (by omega)]
theorem Gp {t:List AV} {K:AH} {i j:Nat} {u c':List Nat} {R:Option (bk × St)} (hR:EvC aa C0 W0 pz (aH [true,true,false] c55) (t,K)=R) (hij:i≠j) (hu:K[i]? =some (.cells (bits u) 112)) (hc:K[j]? =some (.cells (bits c') 112)) (hlen:t.length=63) (h4:t.getD 4 uA=.ptr i 0) (h5:t.getD 5 uA=.ptr j 0):∃ t',R=some (.normal,(t',K))/\r55 (t',K)=some (.tuple [.agg (bits u),.agg (bits c')],K):=by obtain ⟨t',he,tl,q4,q5⟩:=H3 hR hij hu hc (iz _) (iz _) (yW _) (yW _) hlen h4 h5;exact ⟨t',he,aco q4 q5 (oL hu (iz _)) (oL hc (iz _))⟩
theorem XG {G:AH} {cs:List Cod} {vc va:AV} {x:Itm} (hac:va.cells=[va]) (hao:va.one=true) (hk:x.kind=2) (hf:0<=x.dst/\x.dst < 6):∃ K,Ev aa C0 W0 55 [vc,.agg (aJ x va)] G=some (.tuple [.agg (bits (fq cs x)),.agg (bits (iR cs x))],K)/\an G K:=by obtain ⟨tm,ht,g0,g1,g2⟩:=tm2 vc (.agg (aJ x va)) 63 (by decide);rw [Rd,ht];have hput:∀ o,put none G o=some (G.length,G++[o]):=fun _=>rfl;obtain ⟨kind,code,grid,block,src,dst,ev,args,word⟩:=x;simp only at hk hf;subst hk;have e0:eqB 2 0=false:=rfl;have e1:eqB 2 1=false:=rfl;have e2:eqB 2 2=true:=rfl;obtain ⟨d,rfl⟩:∃ d:Nat,dst=d:=⟨dst.toNat,by omega⟩;rw [show fq cs ⟨2,code,grid,block,src,(d:Int),ev,args,word⟩=[d] from rfl,show iR cs ⟨2,code,grid,block,src,(d:Int),ev,args,word⟩=[d] from rfl];simp -implicitDefEqProofs only [c55,f55,aP,g0,g1,g2,aJ,↓hac,↓hao,e0,e1,e2,BS,hput,↓zzC,zzE,sevalprocAttr];generalize hR:EvC aa C0 W0 _ (Code.region _ _ _) _=R;obtain ⟨t,he,tl,t3,t4,t5⟩:=H4 (u:=bits []) (c':=bits []) (iz _) (iz _) (by simp only [ls,g0]) (by simp only [g0,gB,sevalprocAttr]) (by simp only [g0,gB,sevalprocAttr]) (by simp only [g0,gB,sevalprocAttr]) va _ _ _ _ _ _ _ _ (y:=d) (by omega) rfl hR;subst he;simp only [g0,gB,sevalprocAttr] at t4 t5;simp -implicitDefEqProofs only [aP,tY,ig,iM,↓zzC,zzE,sevalprocAttr];generalize hR2:EvC aa C0 W0 _ (Code.region _ _ _) _=R2;obtain ⟨t',he',hfr⟩:=Gp (i:=G.length+1) (j:=G.length+2) hR2 (by omega) (by rw [al (by omega)]; simp only [aN]; rfl) (by rw [al (by omega)]; simp only [aN]; rfl) (by simp only [ls,tl]) (by simp only [tl,t4,gB,sevalprocAttr]) (by simp only [tl,t5,gB,sevalprocAttr]);subst he';simp only [hfr,↓aG,aF];exact ⟨_,rfl,an.app _ _⟩
theorem XH {G:AH} {cs:List Cod} {vc va:AV} {x:Itm} (hac:va.cells=[va]) (hao:va.one=true) (hk:x.kind=1) (hf:(0<=x.src/\x.src < 6)/\(0<=x.dst/\x.dst < 6)):∃ K,Ev aa C0 W0 55 [vc,.agg (aJ x va)] G=some (.tuple [.agg (bits (fq cs x)),.agg (bits (iR cs x))],K)/\an G K:=by obtain ⟨tm,ht,g0,g1,g2⟩:=tm2 vc (.agg (aJ x va)) 63 (by decide);rw [Rd,ht];have hput:∀ o,put none G o=some (G.length,G++[o]):=fun _=>rfl;obtain ⟨kind,code,grid,block,src,dst,ev,args,word⟩:=x;simp only at hk hf;subst hk;have e0:eqB 1 0=false:=rfl;have e1:eqB 1 1=true:=rfl;have e2:eqB 1 2=false:=rfl;obtain ⟨s,rfl⟩:∃ s:Nat,src=s:=⟨src.toNat,by omega⟩;obtain ⟨d,rfl⟩:∃ d:Nat,dst=d:=⟨dst.toNat,by omega⟩;rw [show fq cs ⟨1,code,grid,block,(s:Int),(d:Int),ev,args,word⟩=[s,d] from rfl,show iR cs ⟨1,code,grid,block,(s:Int),(d:Int),ev,args,word⟩=[d] from rfl];simp -implicitDefEqProofs only [c55,f55,aP,g0,g1,g2,aJ,↓hac,↓hao,e0,e1,e2,BS,hput,↓zzC,zzE,sevalprocAttr];generalize hR:EvC aa C0 W0 _ (Code.region _ _ _) _=R;obtain ⟨t,he,tl,t3,t4,t5⟩:=H5 (u:=bits []) (c':=bits []) (iz _) (iz _) (by simp only [ls,g0]) (by simp only [g0,gB,sevalprocAttr]) (by simp only [g0,gB,sevalprocAttr]) (by simp only [g0,gB,sevalprocAttr]) va _ _ _ _ _ _ _ _ (x0:=s) (y:=d) (by omega) (by omega) rfl rfl hR;subst he;simp only [g0,gB,sevalprocAttr] at t4 t5;simp -implicitDefEqProofs only [aP,tY,ig,iM,↓zzC,zzE,sevalprocAttr];generalize hR2:EvC aa C0 W0 _ (Code.region _ _ _) _=R2;obtain ⟨t',he',hfr⟩:=Gp (i:=G.length+1) (j:=G.length+2) hR2 (by omega) (by rw [al (by omega)]; simp only [aN]; rfl) (by rw [al (by omega)]; simp only [aN]; rfl) (by simp only [ls,tl]) (by simp only [tl,t4,gB,sevalprocAttr]) (by simp only [tl,t5,gB,sevalprocAttr]);subst he';simp only [hfr,↓aG,aF];exact ⟨_,rfl,an.app _ _⟩
theorem XF {G:AH} {cs:List Cod} {vc va:AV} {x:Itm} (hac:va.cells=[va]) (hao:va.one=true) (hk:x.kind≠0/\x.kind≠1/\x.kind≠2):∃ K,Ev aa C0 W0 55 [vc,.agg (aJ x va)] G=some (.tuple [.agg (bits (fq cs x)),.agg (bits (iR cs x))],K)/\an G K:=by
 obtain ⟨tm,ht,g0,g1,g2⟩:=tm2 vc (.agg (aJ x va)) 63 (by decide);rw [Rd,ht];have hput:∀ o,put none G o=some (G.length,G++[o]):=fun _=>rfl;have hu:fq cs x=[]:=by unfold fq; rw [if_neg hk.1,if_neg hk.2.1,if_neg hk.2.2]
 have hch:iR cs x=[]:=by unfold iR; rw [if_neg hk.1,if_neg hk.2.1,if_neg hk.2.2]
 rw [hu,hch];have e0:=fR hk.1;have e1:=fR hk.2.1;have e2:=fR hk.2.2;simp -implicitDefEqProofs only [c55,f55,aP,g0,g1,g2,aJ,↓hac,↓hao,e0,e1,e2,BS,hput,↓zzC,zzE,sevalprocAttr];generalize hR2:EvC aa C0 W0 _ (Code.region _ _ _) _=R2;obtain ⟨t',he',hfr⟩:=Gp (i:=G.length+1) (j:=G.length+2) hR2 (by omega) (by rw [al (by omega)]; simp only [aN]; rfl) (by rw [al (by omega)]; simp only [aN]; rfl) (by simp only [ls,g0]) (by simp only [g0,g0,gB,sevalprocAttr]) (by simp only [g0,g0,gB,sevalprocAttr]);subst he';simp only [hfr,↓aG,aF];exact ⟨_,rfl,an.app _ _⟩
theorem Rw {H:AH} {c:Cod} {vp vs vi:AV} (h:eW H c vp vs vi):vp.one=true/\vs.one=true/\vi.one=true:=⟨h.p.one,h.s.one,h.i.one⟩
theorem XI {G:AH} {cs:List Cod} {m:List (List Int)} {vc va:AV} {x:Itm} (hc:dy G cs vc) (hcp:∀ c∈cs,c.params.length<=6) (ha:SlS 32 1 G va (x.args.map dH)) (hk:x.kind=0) (hr:cC cs m x=true):∃ K,Ev aa C0 W0 55 [vc,.agg (aJ x va)] G=some (.tuple [.agg (bits (fq cs x)),.agg (bits (iR cs x))],K)/\an G K:=by
 obtain ⟨tm,ht,g0,g1,g2⟩:=tm2 vc (.agg (aJ x va)) 63 (by decide);rw [Rd,ht];have hput:∀ o,put none G o=some (G.length,G++[o]):=fun _=>rfl;have hac:=ha.cells;have hao:=ha.one;obtain ⟨⟨h1,h2⟩,h3,h4⟩:=lG hr hk;obtain ⟨i0,k0,vp,vs,vi,hix,hrd,hcd⟩:=hc.at (an.refl G) (j:=x.code.toNat) h2;have hcm:dj cs x.code.toNat∈cs:=by unfold dj;exact eF h2 _
 have hu:fq cs x=js (dj cs x.code.toNat) x.args (dj cs x.code.toNat).params.length:=by unfold fq; rw [if_pos hk]
 have hch:iR cs x=js (dj cs x.code.toNat) x.args (dj cs x.code.toNat).params.length:=by unfold iR; rw [if_pos hk]
 rw [hu,hch];have hp6:=hcp _ hcm;have hcode:x.code=(x.code.toNat:Int):=by omega
 have hix':∀ kk,aC aa 22 vc (.int kk x.code)=some (.ptr i0 k0):=fun kk=>by rw [hcode]; exact hix kk
 have e0:eqB x.kind 0=true:=kP hk;obtain ⟨op,os,oi⟩:=Rw hcd;generalize dj cs x.code.toNat=c at *;simp -implicitDefEqProofs only [c55,f55,aP,g0,g1,g2,aJ,↓hac,↓hao,e0,hix',hrd,BS,hput,z66,Uy,↓op,↓os,↓oi,↓zzC,zzE,sevalprocAttr];generalize hX:EvC aa C0 W0 _ (Code.loop _) _=Z;obtain ⟨X,K1,he,x0,x3,x4,x5,x6,x7,hK⟩:=Up (x:=x) hcd ha h3 h4 (by omega) _ 0 _ _ _ hX rfl (aV _) ⟨by simp only [ls,g0],Aj4 (by simp only [g0,gB,and_self,sevalprocAttr]) ⟨by simp only [g0,gB,sevalprocAttr]; try rfl,rfl⟩⟩;subst he;simp -implicitDefEqProofs only [aP,↓zzC,zzE,sevalprocAttr];subst hK;generalize hR2:EvC aa C0 W0 _ (Code.region _ _ _) _=R2;obtain ⟨t',he',hfr⟩:=Gp (i:=G.length+1) (j:=G.length+2) hR2 (by omega) (by rw [al (by omega)]; simp only [aN]; rfl) (by rw [al (by omega)]; simp only [aN]; rfl) (by simp only [ls,x0]) (by simp only [x0,x4,gB,sevalprocAttr]) (by simp only [x0,x5,gB,sevalprocAttr]);subst he';simp only [hfr,↓aG,aF];exact ⟨_,rfl,an.app _ _⟩
theorem aad {G:AH} {cs:List Cod} {m:List (List Int)} {vc va:AV} {x:Itm} (hc:dy G cs vc) (hcp:∀ c∈cs,c.params.length<=6) (ha:SlS 32 1 G va (x.args.map dH)) (hr:cC cs m x=true) (h6:m.length<=6):∃ K,Ev aa C0 W0 55 [vc,.agg (aJ x va)] G=some (.tuple [.agg (bits (fq cs x)),.agg (bits (iR cs x))],K)/\an G K:=by
 obtain ⟨r1,r2,_⟩:=xR hr h6;by_cases k0:x.kind=0
 · exact XI hc hcp ha k0 hr
 · by_cases k1:x.kind=1
   · exact XH ha.cells ha.one k1 (r1 k1)
   · by_cases k2:x.kind=2
     · exact XG ha.cells ha.one k2 (r2 k2)
     · exact XF ha.cells ha.one ⟨k0,k1,k2⟩
theorem XJ {K:AH} {a b c d:Nat} {ux cx uy cy:List Nat} (ha:K[a]? =some (.cells (bits ux) 112)) (hb:K[b]? =some (.cells (bits cx) 112)) (hc:K[c]? =some (.cells (bits uy) 112)) (hd:K[d]? =some (.cells (bits cy) 112)):∀ (n j:Nat) (tm:List AV),6 - j=n->j<=6->(tm.length=46/\tm.getD 7 uA=.ptr a 0/\tm.getD 8 uA=.ptr b 0/\tm.getD 9 uA=.ptr c 0/\tm.getD 10 uA=.ptr d 0/\tm.getD 11 uA=I ((j:Nat):Int)) ->
   ∃ X Y,EvC aa C0 W0 plN Gi (tm,K)=br (ck (fun i=>!(ux.contains i && uy.contains i && (cx.contains i || cy.contains i))) 6 j) (some (.exit 0,(X,K))) (some (.ret,(Y,K)))/\X.length=46/\Y.length=46/\Y.getD 6 uA=.bool true:=by
 intro n;induction n with
 | zero =>
   intro j tm hn hj hI;have hjl:j=6:=by omega
   subst hjl;obtain ⟨hlen,h7,h8,h9,h10,h11⟩:=hI;have hlt:ltB ((6:Nat):Int) 6=false:=cw (by omega);rw [dk (aw _),NF];simp -implicitDefEqProofs only [wh,f24,aP,hlen,h7,h8,h9,h10,h11,hlt,↓zzC,zzE,sevalprocAttr];exact ⟨_,tm.set 6 (.bool true),rfl,by simp only [ls,hlen],by simp only [ls,hlen],by simp only [hlen,dK,Nat.reduceLT]⟩
 | succ n ih =>
   intro j tm hn hj hI;obtain ⟨hlen,h7,h8,h9,h10,h11⟩:=hI;have hjN:j < 6:=by omega
   have hlt:ltB (j:Int) 6=true:=cu (by omega);have hw:=b6 (j:=j) (by omega);have hix:=fun i kk=>yE hjN i kk;have ra:=Dc ha hjN [];have rb:=Dc hb hjN [];have rc:=Dc hc hjN [];have rd:=Dc hd hjN [];rw [af] at ra rb rc rd;have key:∀ (tmN:List AV) (Z:Option (bk × St)),EvC aa C0 W0 plN Gi (tmN,K)=Z->(tmN.length=46/\tmN.getD 7 uA=.ptr a 0/\tmN.getD 8 uA=.ptr b 0/\tmN.getD 9 uA=.ptr c 0/\tmN.getD 10 uA=.ptr d 0/\tmN.getD 11 uA=I (((j+1):Nat):Int))->∃ X Y,Z=br (ck (fun i=>!(ux.contains i && uy.contains i && (cx.contains i || cy.contains i))) 6 (j+1)) (some (.exit 0,(X,K))) (some (.ret,(Y,K)))/\X.length=46/\Y.length=46/\Y.getD 6 uA=.bool true:=by intro tmN Z h hJ;obtain ⟨X,Y,A,B⟩:=ih (j+1) tmN (by omega) (by omega) hJ;exact ⟨X,Y,h.symm.trans A,B⟩
   rw [cK hjN,NF];cases e1:ux.contains j with
   | false =>simp only [e1,bd,gx,bf,lZ,gv];simp -implicitDefEqProofs only [wh,f24,aP,hlen,h7,h8,h9,h10,h11,hlt,hw,hix,ra,e1,↓zzC,zzE,sevalprocAttr];generalize hX:EvC aa C0 W0 _ _ _=Z;refine key _ _ hX ⟨by simp only [ls,hlen],by simp only [hlen,h7,h8,h9,h10,h11,gB,and_self,sevalprocAttr]⟩
   | true =>
     cases e2:uy.contains j with
     | false =>simp only [e1,e2,bd,gx,bf,lZ,gv];simp -implicitDefEqProofs only [wh,f24,aP,hlen,h7,h8,h9,h10,h11,hlt,hw,hix,ra,rc,e1,e2,↓zzC,zzE,sevalprocAttr];generalize hX:EvC aa C0 W0 _ _ _=Z;refine key _ _ hX ⟨by simp only [ls,hlen],by simp only [hlen,h7,h8,h9,h10,h11,gB,and_self,sevalprocAttr]⟩
     | true =>
       cases e3:cx.contains j with
       | true =>simp only [e1,e2,e3,bf,fG,qy,lx,uC,bd];simp -implicitDefEqProofs only [wh,f24,aP,hlen,h7,h8,h9,h10,h11,hlt,hw,hix,ra,rc,rb,e1,e2,e3,↓zzC,zzE,sevalprocAttr];exact ⟨tm,_,rfl,hlen,by simp only [ls,hlen],by simp only [hlen,gB,sevalprocAttr]⟩
       | false =>
         cases e4:cy.contains j with
         | true =>simp only [e1,e2,e3,e4,bf,fG,qy,lx,uC,bd];simp -implicitDefEqProofs only [wh,f24,aP,hlen,h7,h8,h9,h10,h11,hlt,hw,hix,ra,rc,rb,rd,e1,e2,e3,e4,↓zzC,zzE,sevalprocAttr];exact ⟨tm,_,rfl,hlen,by simp only [ls,hlen],by simp only [hlen,gB,sevalprocAttr]⟩
         | false =>simp only [e1,e2,e3,e4,bd,gx,bf,lZ,gv];simp -implicitDefEqProofs only [wh,f24,aP,hlen,h7,h8,h9,h10,h11,hlt,hw,hix,ra,rc,rb,rd,e1,e2,e3,e4,↓zzC,zzE,sevalprocAttr];generalize hX:EvC aa C0 W0 _ _ _=Z;refine key _ _ hX ⟨by simp only [ls,hlen],by simp only [hlen,h7,h8,h9,h10,h11,gB,and_self,sevalprocAttr]⟩
theorem Uq {K:AH} {a b c d:Nat} {ux cx uy cy:List Nat} (ha:K[a]? =some (.cells (bits ux) 112)) (hb:K[b]? =some (.cells (bits cx) 112)) (hc:K[c]? =some (.cells (bits uy) 112)) (hd:K[d]? =some (.cells (bits cy) 112)) {tm:List AV} {Z:Option (bk × St)} (hX:EvC aa C0 W0 plN Gi (tm,K)=Z) (hI:tm.length=46/\tm.getD 7 uA=.ptr a 0/\tm.getD 8 uA=.ptr b 0/\tm.getD 9 uA=.ptr c 0/\tm.getD 10 uA=.ptr d 0/\tm.getD 11 uA=I ((0:Nat):Int)):∃ X Y,Z=br (ck (fun i=>!(ux.contains i && uy.contains i && (cx.contains i || cy.contains i))) 6 0) (some (.exit 0,(X,K))) (some (.ret,(Y,K)))/\X.length=46/\Y.length=46/\Y.getD 6 uA=.bool true:=by subst hX;exact XJ ha hb hc hd _ 0 tm rfl (aV _) hI
theorem aeS {H:AH} {cs:List Cod} {m:List (List Int)} {vc va vb:AV} {x y:Itm} (hc:dy H cs vc) (hcp:∀ c∈cs,c.params.length<=6) (ha:SlS 32 1 H va (x.args.map dH)) (hb:SlS 32 1 H vb (y.args.map dH)) (hx:cC cs m x=true) (hy:cC cs m y=true) (h6:m.length<=6):Ev aa C0 W0 24 [vc,.agg (aJ x va),.agg (aJ y vb)] H=some (.bool (lN cs x y),H):=by
 obtain ⟨tm,ht,g0,g1,g2,g3⟩:=tm3 vc (.agg (aJ x va)) (.agg (aJ y vb)) 46 (by decide);rw [adp,ht];rw [<-af (ro H)];have hA0:=an.app (ro H) [.cells (aJ x va) 34,.cells (aJ y vb) 34];obtain ⟨K1,h1,hA1⟩:=aad (hc.ro.aZ hA0) hcp (ha.ro.same hA0) hx h6;have hA2:=hA1.bX [.cells (bits (fq cs x)) 112,.cells (bits (iR cs x)) 112];obtain ⟨K2,h2,hA3⟩:=aad ((hc.ro.aZ hA0).aZ hA2) hcp ((hb.ro.same hA0).same hA2) hy h6;have hyr:∀ L,ak (K1++L) ((ro H).length+1) 0 9=some (aJ y vb):=fun L=>(hA1.bX L).sub.rd (by rw [jE]; rfl);have hsp:∀ u v,spl (bits u) 0 (bits v)=bits v:=fun u v=>mG _ _ (by rw [iz,iz]);have p1:K1[K1.length]? =none:=List.getElem?_eq_none (aw _);have hA4:an (K1++[.cells (bits (fq cs x)) 112,.cells (bits (iR cs x)) 112]) (K2++[.cells (bits (fq cs y)) 112,.cells (bits (iR cs y)) 112]):=hA3.bX _;have k1:=hA4.get (i:=K1.length) (o:=.cells (bits (fq cs x)) 112) (by rw [al (aw _),d9]; rfl);have k2:=hA4.get (i:=K1.length+1) (o:=.cells (bits (iR cs x)) 112) (by rw [al (by omega),aN]; rfl);have k3:(K2++[bm.cells (bits (fq cs y)) 112,.cells (bits (iR cs y)) 112])[K2.length]? =some (.cells (bits (fq cs y)) 112):=by rw [al (aw _),d9]; rfl
 have k4:(K2++[bm.cells (bits (fq cs y)) 112,.cells (bits (iR cs y)) 112])[K2.length+1]? =some (.cells (bits (iR cs y)) 112):=by rw [al (by omega),aN]; rfl
 have hres:=Pl hx hy h6;have hp1:∀ o,put none K1 o=some (K1.length,K1++[o]):=fun _=>rfl;have hp2:∀ o,put none K2 o=some (K2.length,K2++[o]):=fun _=>rfl;simp only [aJ] at h1 h2 hyr;simp -implicitDefEqProofs only [c24,f24,aP,g0,g1,g2,g3,aJ,↓adN,h1,h2,hyr,hp1,hp2,BS,R3,iz,yW,↓hsp,↓zzC,zzE,sevalprocAttr];generalize hX:EvC aa C0 W0 _ (Code.loop _) _=Z;obtain ⟨X,Y,he,xl,yl,y6⟩:=Uq k1 k2 k3 k4 hX ⟨by simp only [ls,g0],by simp only [g0,gB,sevalprocAttr]; try rfl,by simp only [g0,gB,sevalprocAttr]; try rfl,by simp only [g0,gB,sevalprocAttr]; try rfl,by simp only [g0,gB,sevalprocAttr]; try rfl,by simp only [g0,gB,sevalprocAttr]; try rfl⟩;subst he;rw [<-hres];unfold Pm;cases hc:ck (fun i=>!((fq cs x).contains i && (fq cs y).contains i && ((iR cs x).contains i || (iR cs y).contains i))) 6 0 with
 | true=>simp -implicitDefEqProofs only [aP,xl,↓zzC,zzE,sevalprocAttr]
 | false=>simp -implicitDefEqProofs only [aP,yl,y6,↓zzC,zzE,sevalprocAttr]
end Go.Dv
namespace Go.Dv
open Go.Proofs
attribute [local congr] aA bC aT bB bD
theorem tR (i k:Nat):aL aa 107 (.ptr i k) 0=some (.ptr i k):=by kernel_rfl
theorem tQ (i k:Nat):aL aa 107 (.ptr i k) 1=some (.ptr i (k+1)):=by kernel_rfl
theorem YZ (i k:Nat) (kk:IntKind) (n:Int):aC aa 111 (.ptr i k) (.int kk n)=if 0<=n/\n < 16 then some (.ptr i (k+n.toNat * 1)) else none:=by kernel_rfl
theorem L5 {a:Nat} (h:a < 16) (i:Nat) (kk:IntKind):aC aa 111 (.ptr i 0) (.int kk (a:Int))=some (.ptr i a):=by rw [YZ,if_pos (by omega),cN,dM,Nat.zero_add]
theorem ach (i k es len cap:Nat) (ex:Bool) (kk:IntKind) (n:Int):aC aa 57 (.slice i k es len cap ex) (.int kk n)=if 0<=n/\n < len/\1=es then some (.ptr i (k+n.toNat * es)) else none:=by kernel_rfl
theorem acg (i k es len cap:Nat) (ex:Bool) (kk:IntKind) (n:Int):aC aa 59 (.slice i k es len cap ex) (.int kk n)=if 0<=n/\n < len/\1=es then some (.ptr i (k+n.toNat * es)) else none:=by kernel_rfl
theorem E3 {n j:Nat} (b:Nat) (h:j < n) (kk:IntKind):aC aa 57 (slN b n) (.int kk (j:Int))=some (.ptr b j):=by rw [ach,if_pos ⟨by omega,by omega,rfl⟩]; simp
theorem E2 {n j:Nat} (b:Nat) (h:j < n) (kk:IntKind):aC aa 59 (slN b n) (.int kk (j:Int))=some (.ptr b j):=by rw [acg,if_pos ⟨by omega,by omega,rfl⟩]; simp
theorem LK (H:AH) (i k:Nat):ldA aa 57 H i k=(ak H i k 1).bind (·.head?):=by kernel_rfl
theorem LJ (H:AH) (i k:Nat):ldA aa 59 H i k=(ak H i k 1).bind (·.head?):=by kernel_rfl
theorem abK (H:AH) (i k:Nat) (x:AV):stA aa 59 H i k x=if x.cells.length=1 then bj H i k x.cells else none:=by kernel_rfl
theorem abT (n:Nat) (hn:n<=1000) (H:AH):fN aa none 57 (I n) (I n) H=some (slN H.length n,H++[.cells (au n .nilSlice) 59]):=by
 have hz:d8 aa 59=some .nilSlice:=by kernel_rfl
 have hs:gh aa 57=some 59:=by kernel_rfl
 have hb:aa.bytesOf 59=24:=by kernel_rfl
 have hc:aa.cellsOf 59=1:=by kernel_rfl
 unfold fN;simp only [hs,hz,ax];rw [if_pos ⟨by omega,by omega,by omega,by rw [hb]; omega,by simp [AV.cells]⟩];rw [hc,dM,cN];show rJ _ (put none H (.cells (ly [.nilSlice] n) 59))=_;rw [FF]; rfl
theorem abS (n:Nat) (hn:n<=1000) (H:AH):fN aa none 59 (I n) (I n) H=some (slN H.length n,H++[.cells (au n (.bool false)) 4]):=by
 have hz:d8 aa 4=some (.bool false):=by kernel_rfl
 have hs:gh aa 59=some 4:=by kernel_rfl
 have hb:aa.bytesOf 4=1:=by kernel_rfl
 have hc:aa.cellsOf 4=1:=by kernel_rfl
 unfold fN;simp only [hs,hz,ax];rw [if_pos ⟨by omega,by omega,by omega,by rw [hb]; omega,by simp [AV.cells]⟩];rw [hc,dM,cN];show rJ _ (put none H (.cells (ly [.bool false] n) 4))=_;rw [FF]; rfl
theorem abe:iV aa 111 []=some (.agg (au 16 (I 0))):=by kernel_rfl
theorem abv:d8 aa 111=some (.agg (au 16 (I 0))):=by kernel_rfl
theorem XS (H:AH) (i k:Nat) (x:AV):stA aa 111 H i k x=if x.cells.length=16 then bj H i k x.cells else none:=by kernel_rfl
open Qu (places)
structure zC (G:AH) (ss:List (List Itm)) (vs lv:AV) (i:Nat) (li lk i0 k0 i2 k2:Nat) (w va:AV):Prop where
 xl:∀ kk,aC aa 104 lv (.int kk (i:Int))=some (.ptr li lk)
 l0:∀ K,an G K->∀ L,ak (K++L) li lk 1=some [I ((jT ss i).1:Int)]
 l1:∀ K,an G K->∀ L,ak (K++L) li (lk+1) 1=some [I ((jT ss i).2:Int)]
 x1:∀ kk,aC aa 25 vs (.int kk ((jT ss i).1:Int))=some (.ptr i0 k0)
 r1:∀ K,an G K->∀ L,ak (K++L) i0 k0 1=some [w]
 x2:∀ kk,aC aa 31 w (.int kk ((jT ss i).2:Int))=some (.ptr i2 k2)
 r2:∀ K,an G K->∀ L,ak (K++L) i2 k2 9=some (aJ (itP ss i) va)
 oc:va.cells=[va]
 oo:va.one=true
theorem pit {G:AH} {ss:List (List Itm)} {vs lv:AV} (hs:cT G ss vs) (hl:SlS 104 2 G lv (plR (places (qS ss)))) {i:Nat} (hi:i < ss.flatten.length):∃ li lk i0 k0 i2 k2 w va,zC G ss vs lv i li lk i0 k0 i2 k2 w va:=by obtain ⟨p1,p2,p3,_⟩:=oQ hi;obtain ⟨li,lk,xl,rl⟩:=hl.ix i [I ((jT ss i).1:Int),I ((jT ss i).2:Int)] (by unfold plR; rw [List.getElem?_map,p1]; rfl);obtain ⟨i0,k0,w,x1,r1,hw⟩:=hs.at (an.refl G) p2;obtain ⟨i2,k2,va,x2,r2,hv⟩:=hw.at (an.refl G) p3;have r1':=r1 [];have r2':=r2 [];rw [af] at r1' r2';exact ⟨li,lk,i0,k0,i2,k2,w,va,xl,fun K h L=>xL rl h L rfl,fun K h L=>B5 rl h L 1 rfl,x1,fun K h L=>iH r1' h L,x2,fun K h L=>iH r2' h L,hv.cells,hv.one⟩
theorem PE {G K:AH} {ss:List (List Itm)} {vs lv va w:AV} {li lk i0 k0 i2 k2 i:Nat} {tm:List AV} (hp:zC G ss vs lv i li lk i0 k0 i2 k2 w va) (hA:an G K) (hlen:tm.length=203) (h0:tm.getD 0 uA=vs) (h3:tm.getD 3 uA=lv) (hi:tm.getD 5 uA=I (i:Int)):∃ tm',EvC aa C0 W0 jc (aH [true,true,true,false,true,false,false,true,false,false,false] c23) (tm,K)=some (.normal,(tm',K++[.fresh,.fresh,.fresh,.fresh,.fresh,.fresh,.fresh,.fresh,.fresh,.fresh,.fresh,.fresh,.fresh,.fresh,.fresh,.cells (aJ (itP ss i) va) 34,.fresh]))/\tm'.length=203/\tm'.getD 6 uA=.ptr (K.length+15) 0/\tm'.getD 0 uA=tm.getD 0 uA/\tm'.getD 3 uA=tm.getD 3 uA/\tm'.getD 4 uA=tm.getD 4 uA/\tm'.getD 5 uA=tm.getD 5 uA:=by obtain ⟨xl,l0,l1,x1,r1,x2,r2,oc,oo⟩:=hp;have l0:=l0 K hA;have l1:=l1 K hA;have r1:=r1 K hA;have r2:=r2 K hA;generalize itP ss i=x at *;generalize (jT ss i).1=s at *;generalize (jT ss i).2=q at *;simp only [aJ] at r2 ⊢;simp -implicitDefEqProofs only [c23,f23,aP,hlen,h0,h3,hi,xl,l0,l1,x1,r1,x2,r2,↓oc,↓oo,tR,tQ,fB,ed,↓cD P5,Lk,dn,cj,cW,dz,bZ,dm,cQ,cG,↓dW,↓dS,↓gK,↓eP,↓dU,↓eR,↓da,↓dX,↓bP,↓bz,↓cg,↓eT,↓de,↓dY,↓bR,↓bQ,↓ch,↓dJ,↓cJ,dg,bH,ai,bN,cd,cI,dh,↓zzC,zzE,sevalprocAttr];exact ⟨_,rfl,by simp only [ls,hlen],by simp only [hlen,h0,h3,hi,gB,and_self,sevalprocAttr]⟩
theorem Kd {G K:AH} {ss:List (List Itm)} {vs lv va w:AV} {li lk i0 k0 i2 k2 i:Nat} {tm:List AV} (hp:zC G ss vs lv i li lk i0 k0 i2 k2 w va) (hA:an G K) (hlen:tm.length=203) (h0:tm.getD 0 uA=vs) (h3:tm.getD 3 uA=lv) (hi:tm.getD 5 uA=I (i:Int)) {R:Option (bk × St)} (hR:EvC aa C0 W0 jc (aH [true,true,true,false,true,false,false,true,false,false,false] c23) (tm,K)=R):∃ tm' K',R=some (.normal,(tm',K'))/\an K K'/\K'[K.length+15]? =some (.cells (aJ (itP ss i) va) 34)/\tm'.length=203/\tm'.getD 6 uA=.ptr (K.length+15) 0/\tm'.getD 0 uA=tm.getD 0 uA/\tm'.getD 3 uA=tm.getD 3 uA/\tm'.getD 4 uA=tm.getD 4 uA/\tm'.getD 5 uA=tm.getD 5 uA:=by subst hR;obtain ⟨t,h1,h2⟩:=PE hp hA hlen h0 h3 hi;exact ⟨t,_,h1,an.app _ _,by rw [al (by omega),aN]; rfl,h2⟩
theorem Kf {G K:AH} {ss:List (List Itm)} {vs lv va w:AV} {li lk i0 k0 i2 k2 i:Nat} {tm:List AV} (hp:zC G ss vs lv i li lk i0 k0 i2 k2 w va) (hA:an G K) (hlen:tm.length=203) (h0:tm.getD 0 uA=vs) (h3:tm.getD 3 uA=lv) (hi:tm.getD 8 uA=I (i:Int)):∃ tm',EvC aa C0 W0 jc (aH [true,true,true,true,true,false,true,false,false,true,false,false,true,false] c23) (tm,K)=some (.normal,(tm',K++[.fresh,.fresh,.fresh,.fresh,.fresh,.fresh,.fresh,.fresh,.fresh,.fresh,.fresh,.fresh,.fresh,.fresh,.fresh,.cells (aJ (itP ss i) va) 34,.fresh]))/\tm'.length=203/\tm'.getD 9 uA=.ptr (K.length+15) 0/\tm'.getD 0 uA=tm.getD 0 uA/\tm'.getD 3 uA=tm.getD 3 uA/\tm'.getD 4 uA=tm.getD 4 uA/\tm'.getD 7 uA=tm.getD 7 uA/\tm'.getD 8 uA=tm.getD 8 uA:=by obtain ⟨xl,l0,l1,x1,r1,x2,r2,oc,oo⟩:=hp;have l0:=l0 K hA;have l1:=l1 K hA;have r1:=r1 K hA;have r2:=r2 K hA;generalize itP ss i=x at *;generalize (jT ss i).1=s at *;generalize (jT ss i).2=q at *;simp only [aJ] at r2 ⊢;simp -implicitDefEqProofs only [c23,f23,aP,hlen,h0,h3,hi,xl,l0,l1,x1,r1,x2,r2,↓oc,↓oo,tR,tQ,fB,ed,↓cD KV,EO,dn,cj,cW,dz,bZ,dm,cQ,cG,↓dW,↓dS,↓gK,↓eP,↓dU,↓eR,↓da,↓dX,↓bP,↓bz,↓cg,↓eT,↓de,↓dY,↓bR,↓bQ,↓ch,↓dJ,↓cJ,dg,bH,ai,bN,cd,cI,dh,↓zzC,zzE,sevalprocAttr];exact ⟨_,rfl,by simp only [ls,hlen],by simp only [hlen,h0,h3,hi,gB,and_self,sevalprocAttr]⟩
theorem H9 {G K:AH} {ss:List (List Itm)} {vs lv va w:AV} {li lk i0 k0 i2 k2 i:Nat} {tm:List AV} (hp:zC G ss vs lv i li lk i0 k0 i2 k2 w va) (hA:an G K) (hlen:tm.length=203) (h0:tm.getD 0 uA=vs) (h3:tm.getD 3 uA=lv) (hi:tm.getD 8 uA=I (i:Int)) {R:Option (bk × St)} (hR:EvC aa C0 W0 jc (aH [true,true,true,true,true,false,true,false,false,true,false,false,true,false] c23) (tm,K)=R):∃ tm' K',R=some (.normal,(tm',K'))/\an K K'/\K'[K.length+15]? =some (.cells (aJ (itP ss i) va) 34)/\tm'.length=203/\tm'.getD 9 uA=.ptr (K.length+15) 0/\tm'.getD 0 uA=tm.getD 0 uA/\tm'.getD 3 uA=tm.getD 3 uA/\tm'.getD 4 uA=tm.getD 4 uA/\tm'.getD 7 uA=tm.getD 7 uA/\tm'.getD 8 uA=tm.getD 8 uA:=by subst hR;obtain ⟨t,h1,h2⟩:=Kf hp hA hlen h0 h3 hi;exact ⟨t,_,h1,an.app _ _,by rw [al (by omega),aN]; rfl,h2⟩
theorem Ke {G K:AH} {ss:List (List Itm)} {vs lv va w:AV} {li lk i0 k0 i2 k2 i:Nat} {tm:List AV} (hp:zC G ss vs lv i li lk i0 k0 i2 k2 w va) (hA:an G K) (hlen:tm.length=203) (h0:tm.getD 0 uA=vs) (h3:tm.getD 3 uA=lv) (hi:tm.getD 10 uA=I (i:Int)):∃ tm',EvC aa C0 W0 jc (aH [true,true,true,true,true,false,true,false,false,true,false,false,true,true,true,false,false,true,false,false,false] c23) (tm,K)=some (.normal,(tm',K++[.fresh,.fresh,.fresh,.fresh,.fresh,.fresh,.fresh,.fresh,.fresh,.fresh,.fresh,.fresh,.fresh,.fresh,.fresh,.cells (aJ (itP ss i) va) 34,.fresh]))/\tm'.length=203/\tm'.getD 11 uA=.ptr (K.length+15) 0/\tm'.getD 0 uA=tm.getD 0 uA/\tm'.getD 3 uA=tm.getD 3 uA/\tm'.getD 4 uA=tm.getD 4 uA/\tm'.getD 7 uA=tm.getD 7 uA/\tm'.getD 8 uA=tm.getD 8 uA/\tm'.getD 9 uA=tm.getD 9 uA/\tm'.getD 10 uA=tm.getD 10 uA:=by obtain ⟨xl,l0,l1,x1,r1,x2,r2,oc,oo⟩:=hp;have l0:=l0 K hA;have l1:=l1 K hA;have r1:=r1 K hA;have r2:=r2 K hA;generalize itP ss i=x at *;generalize (jT ss i).1=s at *;generalize (jT ss i).2=q at *;simp only [aJ] at r2 ⊢;simp -implicitDefEqProofs only [c23,f23,aP,hlen,h0,h3,hi,xl,l0,l1,x1,r1,x2,r2,↓oc,↓oo,tR,tQ,fB,ed,↓cD KU,EN,dn,cj,cW,dz,bZ,dm,cQ,cG,↓dW,↓dS,↓gK,↓eP,↓dU,↓eR,↓da,↓dX,↓bP,↓bz,↓cg,↓eT,↓de,↓dY,↓bR,↓bQ,↓ch,↓dJ,↓cJ,dg,bH,ai,bN,cd,cI,dh,↓zzC,zzE,sevalprocAttr];exact ⟨_,rfl,by simp only [ls,hlen],by simp only [hlen,h0,h3,hi,gB,and_self,sevalprocAttr]⟩
theorem H8 {G K:AH} {ss:List (List Itm)} {vs lv va w:AV} {li lk i0 k0 i2 k2 i:Nat} {tm:List AV} (hp:zC G ss vs lv i li lk i0 k0 i2 k2 w va) (hA:an G K) (hlen:tm.length=203) (h0:tm.getD 0 uA=vs) (h3:tm.getD 3 uA=lv) (hi:tm.getD 10 uA=I (i:Int)) {R:Option (bk × St)} (hR:EvC aa C0 W0 jc (aH [true,true,true,true,true,false,true,false,false,true,false,false,true,true,true,false,false,true,false,false,false] c23) (tm,K)=R):∃ tm' K',R=some (.normal,(tm',K'))/\an K K'/\K'[K.length+15]? =some (.cells (aJ (itP ss i) va) 34)/\tm'.length=203/\tm'.getD 11 uA=.ptr (K.length+15) 0/\tm'.getD 0 uA=tm.getD 0 uA/\tm'.getD 3 uA=tm.getD 3 uA/\tm'.getD 4 uA=tm.getD 4 uA/\tm'.getD 7 uA=tm.getD 7 uA/\tm'.getD 8 uA=tm.getD 8 uA/\tm'.getD 9 uA=tm.getD 9 uA/\tm'.getD 10 uA=tm.getD 10 uA:=by subst hR;obtain ⟨t,h1,h2⟩:=Ke hp hA hlen h0 h3 hi;exact ⟨t,_,h1,an.app _ _,by rw [al (by omega),aN]; rfl,h2⟩
end Go.Dv
namespace Go.Dv
open Go.Proofs
attribute [local congr] aA bC aT bB bD
open Qu (places)
theorem xrd {K:AH} {b:Nat} {x:Itm} {va:AV} (h:K[b]? =some (.cells (aJ x va) 34)) (L:AH):ak (K++L) b 0 1=some [I x.kind]/\ak (K++L) b 6 1=some [I x.ev]:=by constructor <;> (rw [eU h]; rfl)
theorem Jo {K:AH} {b:Nat} {x:Itm} {va:AV} (h:K[b]? =some (.cells (aJ x va) 34)):ak K b 0 1=some [I x.kind]/\ak K b 6 1=some [I x.ev]:=by have:=xrd h [];rwa [af] at this
theorem Sc {K:AH} {ss:List (List Itm)} {i rb e:Nat} (h:K[rb]? =some (.cells (rcV ss i) 111)) (he:e < 16) (L:AH):ak (K++L) rb e 1=some [I ((rcN ss i (e:Int):Nat):Int)]:=by rw [eU h,if_pos (by rw [nq]; omega),List.drop_eq_getElem_cons (by rw [nq]; exact he)];have:=AZ (ss:=ss) (i:=i) he;rw [List.getElem?_eq_getElem (by rw [nq]; exact he)] at this;rw [aB this]; rfl
theorem U3 (ss:List (List Itm)):(plR (places (qS ss))).length=ss.flatten.length:=by unfold plR;rw [ao,Qu.oO,gM,ao]
theorem Cl {G:AH} {ss:List (List Itm)} {lv:AV} (hl:SlS 104 2 G lv (plR (places (qS ss)))) (K:AH):d4 aa 104 K lv=some (I (ss.flatten.length:Nat)):=by have:=hl.len K;rwa [U3] at this
theorem XW {G:AH} {ss:List (List Itm)} {vs lv:AV} {rb:Nat} (hs:cT G ss vs) (hl:SlS 104 2 G lv (plR (places (qS ss)))) (hfew:ss.flatten.length<=1000) (hev:∀ i,i < ss.flatten.length->(itP ss i).kind=3->∃ e:Nat,(itP ss i).ev=e/\e < 16) (hrb:G.length<=rb):∀ (d i:Nat) (tm:List AV) (K:AH) (Z:Option (bk × St)),EvC aa C0 W0 jc S6 (tm,K)=Z->ss.flatten.length - i=d->i<=ss.flatten.length->(tm.length=203/\tm.getD 0 uA=vs/\tm.getD 3 uA=lv/\tm.getD 4 uA=.ptr rb 0/\tm.getD 5 uA=I ((i:Nat):Int)/\an G K/\K[rb]? =some (.cells (rcV ss (i)) 111)) ->
   ∃ X K1,Z=some (.exit 0,(X,K1))/\(X.length=203/\X.getD 0 uA=vs/\X.getD 3 uA=lv/\X.getD 4 uA=.ptr rb 0/\X.getD 5 uA=I ((ss.flatten.length:Nat):Int)/\an G K1/\K1[rb]? =some (.cells (rcV ss (ss.flatten.length)) 111)):=by
 have hln:=fun K=>Cl hl K;intro d;induction d with
 | zero =>
   intro i tm K Z hZ hd hi hI;subst hZ;have hil:i=ss.flatten.length:=by omega
   subst hil;obtain ⟨hlen,h0,h3,h4,h5,hA,hrc⟩:=hI;have hlt:ltB ((ss.flatten.length:Nat):Int) (ss.flatten.length:Nat)=false:=cw (by omega);rw [NL];simp -implicitDefEqProofs only [G8,f23,aP,hlen,h0,h3,h4,h5,hln,hlt,↓zzC,zzE,sevalprocAttr];exact ⟨_,K,rfl,by simp only [ls,hlen],Aj4 (by simp only [hlen,h0,h3,h4,h5,gB,and_self,sevalprocAttr]) ⟨hA,hrc⟩⟩
 | succ d ih =>
   intro i tm K Z hZ hd hi hI;subst hZ;have hiN:i < ss.flatten.length:=by omega
   obtain ⟨hlen,h0,h3,h4,h5,hA,hrc⟩:=hI;have hlt:ltB (i:Int) (ss.flatten.length:Nat)=true:=cu (by omega);have hw:=b6 (j:=i) (by omega);obtain ⟨li,lk,i0,k0,i2,k2,w,va,hp⟩:=pit hs hl hiN;rw [NL];simp -implicitDefEqProofs only [G8,f23,aP,hlen,h0,h3,h4,h5,hln,hlt,↓zzC,zzE,sevalprocAttr];generalize hR:EvC aa C0 W0 _ (Code.region _ _ _) _=R;obtain ⟨t,K',he,hA',hx,tl,t6,t0,t3,t4,t5⟩:=Kd hp hA (by simp only [ls,hlen]) (by simp only [hlen,h0,gB,sevalprocAttr]) (by simp only [hlen,h3,gB,sevalprocAttr]) (by simp only [hlen,h5,gB,sevalprocAttr]) hR;subst he;simp only [hlen,h0,h3,h4,h5,gB,sevalprocAttr] at t0 t3 t4 t5;obtain ⟨hxk,hxe⟩:=Jo hx;have hrc':=hA'.get hrc;have hAG:=hA.trans hA';cases h3k:eqB (itP ss i).kind 3 with
   | true =>have hk3:=(cP _ _).1 h3k;obtain ⟨e,hve,he16⟩:=hev i hiN hk3;rw [hve] at hxe;have hixe:=fun kk=>L5 he16 rb kk;have hre:=Sc hrc' he16 [];rw [af] at hre;have hwe:=b6 (j:=rcN ss i (e:Int)) (by have:=UW ss i (e:Int); omega);have hwr:=AL hrc' (k:=e) (x:=I ((rcN ss i (e:Int)+1:Nat):Int)) (by rw [nq]; exact he16) rfl;rw [PI hiN hk3 hve] at hwr;simp -implicitDefEqProofs only [aP,tl,t0,t3,t4,t5,t6,hxk,hxe,h3k,hixe,hre,hwe,hwr,st3,hw,↓zzC,zzE,sevalprocAttr];generalize hX:EvC aa C0 W0 _ _ _=Z;refine ih (i+1) _ _ _ hX (by omega) (by omega) ⟨by simp only [ls,tl],Aj4 (by simp only [tl,t0,t3,t4,t5,gB,and_self,sevalprocAttr]) ⟨hAG.m3 hrb _,?_⟩⟩;rw [List.getElem?_set_self (aI hrc')]
   | false =>
     have hk3:(itP ss i).kind≠3:=fun h=>by rw [kP h] at h3k; cases h3k
     simp -implicitDefEqProofs only [aP,tl,t0,t3,t4,t5,t6,hxk,h3k,hw,↓zzC,zzE,sevalprocAttr];generalize hX:EvC aa C0 W0 _ _ _=Z;exact ih (i+1) _ _ _ hX (by omega) (by omega) ⟨by simp only [ls,tl],Aj4 (by simp only [tl,t0,t3,t4,t5,gB,and_self,sevalprocAttr]) ⟨hAG,by rw [Ko hiN hk3]; exact hrc'⟩⟩
end Go.Dv
namespace Go.Dv
open Go.Proofs
attribute [local congr] aA bC aT bB bD
open Qu (places lW)
theorem H7 {K:AH} {Kw:Bool->AH} {lv:AV} {N b rw rb xb yb i k li lk li' lk' s q s' q':Nat} {xk xe yk ye rc:Int} {tm:List AV} (hlen:tm.length=203) (h3:tm.getD 3 uA=lv) (h4:tm.getD 4 uA=.ptr rb 0) (h7:tm.getD 7 uA=slN b N) (h8:tm.getD 8 uA=I (i:Int)) (h9:tm.getD 9 uA=.ptr xb 0) (h10:tm.getD 10 uA=I (k:Int)) (h11:tm.getD 11 uA=.ptr yb 0)
   (hi:i < N) (hk:k < N) (hrO:ak K b i 1=some [slN rw N])
   (xl:∀ kk,aC aa 104 lv (.int kk (i:Int))=some (.ptr li lk)) (l0:ak K li lk 1=some [I (s:Int)]) (l1:ak K li (lk+1) 1=some [I (q:Int)])
   (xl':∀ kk,aC aa 104 lv (.int kk (k:Int))=some (.ptr li' lk')) (l0':ak K li' lk' 1=some [I (s':Int)]) (l1':ak K li' (lk' + 1) 1=some [I (q':Int)])
   (rx0:ak K xb 0 1=some [I xk]) (rx6:ak K xb 6 1=some [I xe]) (ry0:ak K yb 0 1=some [I yk]) (ry6:ak K yb 6 1=some [I ye])
   (hev:eqB xk 3=true->∃ e:Nat,xe=e/\e < 16/\ak K rb e 1=some [I rc]) (hwr:∀ v,bj K rw k [.bool v]=some (Kw v)) {R:Option (bk × St)} (hR:EvC aa C0 W0 jc (aH [true,true,true,true,true,false,true,false,false,true,false,false,true,true,true,false,false,true,false,false,true] c23) (tm,K)=R) :
   ∃ tm',R=some (.normal,(tm',Kw ((eqB (s:Int) (s':Int) && ltB (q:Int) (q':Int)) || (eqB xk 3 && eqB yk 4 && eqB xe ye && eqB rc 1))))/\tm'.length=203/\tm'.getD 0 uA=tm.getD 0 uA/\tm'.getD 3 uA=tm.getD 3 uA/\tm'.getD 4 uA=tm.getD 4 uA/\tm'.getD 7 uA=tm.getD 7 uA/\tm'.getD 8 uA=tm.getD 8 uA/\tm'.getD 9 uA=tm.getD 9 uA/\tm'.getD 10 uA=tm.getD 10 uA:=by
 subst hR
 have hx7:=fun kk=>E3 b hi kk
 have hx9:=fun kk=>E2 rw hk kk
 obtain ⟨e,he,hxx⟩:∃ e:Nat,e < 16/\(eqB xk 3=true->xe=e/\ak K rb e 1=some [I rc]):=by
   cases h:eqB xk 3 with
   | false=>exact ⟨0,by decide,fun h=>by cases h⟩
   | true =>
     obtain ⟨e,h1,h2,h3⟩:=hev h
     exact ⟨e,h2,fun _=>⟨h1,h3⟩⟩
 have hxe:=fun kk=>L5 he rb kk
 cases e1:eqB (s:Int) (s':Int) <;> cases e2:ltB (q:Int) (q':Int) <;> cases e3:eqB xk 3 <;> cases e4:eqB yk 4 <;> cases e5:eqB (e:Int) ye <;> (simp -implicitDefEqProofs only [c23,f23,aP,hlen,h3,h4,h7,h8,h9,h10,h11,hx7,hx9,hrO,xl,xl',l0,l1,l0',l1',rx0,rx6,ry0,ry6,e1,e2,e3,e4,e5,hxe,hxx,hwr,tR,tQ,LK,LJ,st4,↓kG KT,↓zzC,zzE,sevalprocAttr]; exact ⟨_,rfl,by simp only [ls,hlen],by simp only [hlen,h3,h4,h7,h8,h9,h10,h11,gB,and_self,sevalprocAttr]⟩)
end Go.Dv
