/- Part 37 of the walks (own work). -/
import Derived.Test.YtilpjnckfkjkbaaGreatDoorT36
open Bool renaming and_false→gk,and_true→fx,false_and→bc,not_false→gj,not_true→tZ,or_false→lS,or_true→qp,true_and→bd,true_or→qo
open Int renaming toNat_natCast→cw
open List renaming any_cons→dj,any_nil→dG,any_toArray→cm,any_toArray'→dK,append_nil→af,cons_append→iF,getElem?_append_right→al,length_append→ai,length_map→ar,nil_append→g6,replicate→ay,replicate_succ→dc,replicate_zero→cN,size_toArray→dJ
open Nat renaming add_assoc→bJ,add_sub_cancel_left→aS,le_refl→ax,mul_one→dz,sub_self→dR,zero_le→cX
open Option renaming bind_some→aA,map→rA
open Option.some renaming inj→aE
open Go.Proofs.Tryz renaming prog→aa
set_option maxRecDepth 100000
set_option maxHeartbeats 4000000
set_option linter.unusedSimpArgs false
set_option linter.unusedVariables false
namespace Go.Dv
open Go.Proofs
attribute [local congr] aF bC aY bB bD
theorem Fp {K:AH} {b n:Nat} {l:List AV} {T:TypeId} (h:K[b]? =some (.cells l T)) (hl:l.length=n):ak K b 0 n=some l:=by
 unfold ak
 rw [h]
 simp only
 rw [if_pos (by omega),List.drop_zero,List.take_of_length_le (by omega)]
theorem FU {t:List AV} {K:AH} {i j:Nat} {u c':List Nat} {R:Option (bs × St)} (hR:EvC aa C0 W0 nD (aI [true,true,false] c55) (t,K)=R) (hij:i≠j) (hu:K[i]? =some (.cells (bits u) 112)) (hc:K[j]? =some (.cells (bits c') 112)) (hlen:t.length=63) (h4:t.getD 4 uA=.ptr i 0) (h5:t.getD 5 uA=.ptr j 0):∃ t',R=some (.normal,(t',K))/\r55 (t',K)=some (.tuple [.agg (bits u),.agg (bits c')],K):=by
 obtain ⟨t',he,tl,q4,q5⟩:=Hg hR hij hu hc (ij _) (ij _) (yH _) (yH _) hlen h4 h5
 exact ⟨t',he,aa0 q4 q5 (Fp hu (ij _)) (Fp hc (ij _))⟩
theorem Wj {G:AH} {cs:List Cod} {vc va:AV} {x:Itm} (hac:va.cells=[va]) (hao:va.one=true) (hk:x.kind=2) (hf:0<=x.dst/\x.dst < 6):∃ K,Ev aa C0 W0 55 [vc,.agg (aL x va)] G=some (.tuple [.agg (bits (fc cs x)),.agg (bits (iJ cs x))],K)/\au G K:=by
 obtain ⟨tm,ht,g0,g1,g2⟩:=tm2 vc (.agg (aL x va)) 63 (by decide)
 rw [P4,ht]
 have hput:∀ o,put none G o=some (G.length,G++[o]):=fun _=>rfl
 obtain ⟨kind,code,grid,block,src,dst,ev,args,word⟩:=x
 simp only at hk hf
 subst hk
 have e0:eqB 2 0=false:=rfl
 have e1:eqB 2 1=false:=rfl
 have e2:eqB 2 2=true:=rfl
 obtain ⟨d,rfl⟩:∃ d:Nat,dst=d:=⟨dst.toNat,by omega⟩
 rw [show fc cs ⟨2,code,grid,block,src,(d:Int),ev,args,word⟩=[d] from rfl,show iJ cs ⟨2,code,grid,block,src,(d:Int),ev,args,word⟩=[d] from rfl]
 simp -implicitDefEqProofs only [c55,Tryz.f55,aP,g0,g1,g2,aL,↓hac,↓hao,e0,e1,e2,BA,hput,r5,↓az,nck,↓cbT,↓cbF,↓ao,an,eu,sevalprocAttr]
 generalize hR:EvC aa C0 W0 _ (Code.region _ _ _) _=R
 obtain ⟨t,he,tl,t3,t4,t5⟩:=Hh (u:=bits []) (c':=bits []) (ij _) (ij _) (by simp only [ls,g0]) (by simp only [g0,gB,sevalprocAttr]) (by simp only [g0,gB,sevalprocAttr]) (by simp only [g0,gB,sevalprocAttr]) va _ _ _ _ _ _ _ _ (y:=d) (by omega) rfl hR
 subst he
 simp only [g0,gB,sevalprocAttr] at t4 t5
 simp -implicitDefEqProofs only [aP,tM,g6,iF,r5,↓az,nck,↓cbT,↓cbF,↓ao,an,eu,sevalprocAttr]
 generalize hR2:EvC aa C0 W0 _ (Code.region _ _ _) _=R2
 obtain ⟨t',he',hfr⟩:=FU (i:=G.length+1) (j:=G.length+2) hR2 (by omega) (by rw [al (by omega)]; simp only [aS]; rfl) (by rw [al (by omega)]; simp only [aS]; rfl) (by simp only [ls,tl]) (by simp only [tl,t4,gB,sevalprocAttr]) (by simp only [tl,t5,gB,sevalprocAttr])
 subst he'
 simp only [hfr,↓ao,an]
 exact ⟨_,rfl,au.app _ _⟩
theorem Wk {G:AH} {cs:List Cod} {vc va:AV} {x:Itm} (hac:va.cells=[va]) (hao:va.one=true) (hk:x.kind=1) (hf:(0<=x.src/\x.src < 6)/\(0<=x.dst/\x.dst < 6)):∃ K,Ev aa C0 W0 55 [vc,.agg (aL x va)] G=some (.tuple [.agg (bits (fc cs x)),.agg (bits (iJ cs x))],K)/\au G K:=by
 obtain ⟨tm,ht,g0,g1,g2⟩:=tm2 vc (.agg (aL x va)) 63 (by decide)
 rw [P4,ht]
 have hput:∀ o,put none G o=some (G.length,G++[o]):=fun _=>rfl
 obtain ⟨kind,code,grid,block,src,dst,ev,args,word⟩:=x
 simp only at hk hf
 subst hk
 have e0:eqB 1 0=false:=rfl
 have e1:eqB 1 1=true:=rfl
 have e2:eqB 1 2=false:=rfl
 obtain ⟨s,rfl⟩:∃ s:Nat,src=s:=⟨src.toNat,by omega⟩
 obtain ⟨d,rfl⟩:∃ d:Nat,dst=d:=⟨dst.toNat,by omega⟩
 rw [show fc cs ⟨1,code,grid,block,(s:Int),(d:Int),ev,args,word⟩=[s,d] from rfl,show iJ cs ⟨1,code,grid,block,(s:Int),(d:Int),ev,args,word⟩=[d] from rfl]
 simp -implicitDefEqProofs only [c55,Tryz.f55,aP,g0,g1,g2,aL,↓hac,↓hao,e0,e1,e2,BA,hput,r5,↓az,nck,↓cbT,↓cbF,↓ao,an,eu,sevalprocAttr]
 generalize hR:EvC aa C0 W0 _ (Code.region _ _ _) _=R
 obtain ⟨t,he,tl,t3,t4,t5⟩:=Hi (u:=bits []) (c':=bits []) (ij _) (ij _) (by simp only [ls,g0]) (by simp only [g0,gB,sevalprocAttr]) (by simp only [g0,gB,sevalprocAttr]) (by simp only [g0,gB,sevalprocAttr]) va _ _ _ _ _ _ _ _ (x0:=s) (y:=d) (by omega) (by omega) rfl rfl hR
 subst he
 simp only [g0,gB,sevalprocAttr] at t4 t5
 simp -implicitDefEqProofs only [aP,tM,g6,iF,r5,↓az,nck,↓cbT,↓cbF,↓ao,an,eu,sevalprocAttr]
 generalize hR2:EvC aa C0 W0 _ (Code.region _ _ _) _=R2
 obtain ⟨t',he',hfr⟩:=FU (i:=G.length+1) (j:=G.length+2) hR2 (by omega) (by rw [al (by omega)]; simp only [aS]; rfl) (by rw [al (by omega)]; simp only [aS]; rfl) (by simp only [ls,tl]) (by simp only [tl,t4,gB,sevalprocAttr]) (by simp only [tl,t5,gB,sevalprocAttr])
 subst he'
 simp only [hfr,↓ao,an]
 exact ⟨_,rfl,au.app _ _⟩
theorem Wi {G:AH} {cs:List Cod} {vc va:AV} {x:Itm} (hac:va.cells=[va]) (hao:va.one=true) (hk:x.kind≠0/\x.kind≠1/\x.kind≠2):∃ K,Ev aa C0 W0 55 [vc,.agg (aL x va)] G=some (.tuple [.agg (bits (fc cs x)),.agg (bits (iJ cs x))],K)/\au G K:=by
 obtain ⟨tm,ht,g0,g1,g2⟩:=tm2 vc (.agg (aL x va)) 63 (by decide)
 rw [P4,ht]
 have hput:∀ o,put none G o=some (G.length,G++[o]):=fun _=>rfl
 have hu:fc cs x=[]:=by unfold fc; rw [if_neg hk.1,if_neg hk.2.1,if_neg hk.2.2]
 have hch:iJ cs x=[]:=by unfold iJ; rw [if_neg hk.1,if_neg hk.2.1,if_neg hk.2.2]
 rw [hu,hch]
 have e0:=fU hk.1
 have e1:=fU hk.2.1
 have e2:=fU hk.2.2
 simp -implicitDefEqProofs only [c55,Tryz.f55,aP,g0,g1,g2,aL,↓hac,↓hao,e0,e1,e2,BA,hput,r5,↓az,nck,↓cbT,↓cbF,↓ao,an,eu,sevalprocAttr]
 generalize hR2:EvC aa C0 W0 _ (Code.region _ _ _) _=R2
 obtain ⟨t',he',hfr⟩:=FU (i:=G.length+1) (j:=G.length+2) hR2 (by omega) (by rw [al (by omega)]; simp only [aS]; rfl) (by rw [al (by omega)]; simp only [aS]; rfl) (by simp only [ls,g0]) (by simp only [g0,g0,gB,sevalprocAttr]) (by simp only [g0,g0,gB,sevalprocAttr])
 subst he'
 simp only [hfr,↓ao,an]
 exact ⟨_,rfl,au.app _ _⟩
theorem Ql {H:AH} {c:Cod} {vp vs vi:AV} (h:eO H c vp vs vi):vp.one=true/\vs.one=true/\vi.one=true:=⟨h.p.one,h.s.one,h.i.one⟩
theorem Wl {G:AH} {cs:List Cod} {m:List (List Int)} {vc va:AV} {x:Itm} (hc:dk G cs vc) (hcp:∀ c∈cs,c.params.length<=6) (ha:SlS 32 1 G va (x.args.map dw)) (hk:x.kind=0) (hr:b6 cs m x=true):∃ K,Ev aa C0 W0 55 [vc,.agg (aL x va)] G=some (.tuple [.agg (bits (fc cs x)),.agg (bits (iJ cs x))],K)/\au G K:=by
 obtain ⟨tm,ht,g0,g1,g2⟩:=tm2 vc (.agg (aL x va)) 63 (by decide)
 rw [P4,ht]
 have hput:∀ o,put none G o=some (G.length,G++[o]):=fun _=>rfl
 have hac:=ha.cells
 have hao:=ha.one
 obtain ⟨⟨h1,h2⟩,h3,h4⟩:=lx hr hk
 obtain ⟨i0,k0,vp,vs,vi,hix,hrd,hcd⟩:=hc.at (au.refl G) (j:=x.code.toNat) h2
 have hcm:cT cs x.code.toNat∈cs:=by
   unfold cT
   exact eQ h2 _
 have hu:fc cs x=jg (cT cs x.code.toNat) x.args (cT cs x.code.toNat).params.length:=by unfold fc; rw [if_pos hk]
 have hch:iJ cs x=jg (cT cs x.code.toNat) x.args (cT cs x.code.toNat).params.length:=by unfold iJ; rw [if_pos hk]
 rw [hu,hch]
 have hp6:=hcp _ hcm
 have hcode:x.code=(x.code.toNat:Int):=by omega
 have hix':∀ kk,aD aa 22 vc (.int kk x.code)=some (.ptr i0 k0):=fun kk=>by rw [hcode]; exact hix kk
 have e0:eqB x.kind 0=true:=kH hk
 obtain ⟨op,os,oi⟩:=Ql hcd
 generalize cT cs x.code.toNat=c at *
 simp -implicitDefEqProofs only [c55,Tryz.f55,aP,g0,g1,g2,aL,↓hac,↓hao,e0,hix',hrd,BA,hput,z66,Tl,↓op,↓os,↓oi,r5,↓az,nck,↓cbT,↓cbF,↓ao,an,eu,sevalprocAttr]
 generalize hX:EvC aa C0 W0 _ (Code.loop _) _=Z
 obtain ⟨X,K1,he,x0,x3,x4,x5,x6,x7,hK⟩:=Tc (x:=x) hcd ha h3 h4 (by omega) _ 0 _ _ _ hX rfl (cX _) ⟨by simp only [ls,g0],Aj4 (by simp only [g0,gB,and_self,sevalprocAttr]) ⟨by simp only [g0,gB,sevalprocAttr]; try rfl,rfl⟩⟩
 subst he
 simp -implicitDefEqProofs only [aP,r5,↓az,nck,↓cbT,↓cbF,↓ao,an,eu,sevalprocAttr]
 subst hK
 generalize hR2:EvC aa C0 W0 _ (Code.region _ _ _) _=R2
 obtain ⟨t',he',hfr⟩:=FU (i:=G.length+1) (j:=G.length+2) hR2 (by omega) (by rw [al (by omega)]; simp only [aS]; rfl) (by rw [al (by omega)]; simp only [aS]; rfl) (by simp only [ls,x0]) (by simp only [x0,x4,gB,sevalprocAttr]) (by simp only [x0,x5,gB,sevalprocAttr])
 subst he'
 simp only [hfr,↓ao,an]
 exact ⟨_,rfl,au.app _ _⟩
theorem YS {G:AH} {cs:List Cod} {m:List (List Int)} {vc va:AV} {x:Itm} (hc:dk G cs vc) (hcp:∀ c∈cs,c.params.length<=6) (ha:SlS 32 1 G va (x.args.map dw)) (hr:b6 cs m x=true) (h6:m.length<=6):∃ K,Ev aa C0 W0 55 [vc,.agg (aL x va)] G=some (.tuple [.agg (bits (fc cs x)),.agg (bits (iJ cs x))],K)/\au G K:=by
 obtain ⟨r1,r2,_⟩:=xy hr h6
 by_cases k0:x.kind=0
 · exact Wl hc hcp ha k0 hr
 · by_cases k1:x.kind=1
   · exact Wk ha.cells ha.one k1 (r1 k1)
   · by_cases k2:x.kind=2
     · exact Wj ha.cells ha.one k2 (r2 k2)
     · exact Wi ha.cells ha.one ⟨k0,k1,k2⟩
theorem Wn {K:AH} {a b c d:Nat} {ux cx uy cy:List Nat} (ha:K[a]? =some (.cells (bits ux) 112)) (hb:K[b]? =some (.cells (bits cx) 112)) (hc:K[c]? =some (.cells (bits uy) 112)) (hd:K[d]? =some (.cells (bits cy) 112)):∀ (n j:Nat) (tm:List AV),6 - j=n->j<=6->(tm.length=46/\tm.getD 7 uA=.ptr a 0/\tm.getD 8 uA=.ptr b 0/\tm.getD 9 uA=.ptr c 0/\tm.getD 10 uA=.ptr d 0/\tm.getD 11 uA=I ((j:Nat):Int)) ->
   ∃ X Y,EvC aa C0 W0 plN FL (tm,K)=br (cd (fun i=>!(ux.contains i && uy.contains i && (cx.contains i || cy.contains i))) 6 j) (some (.exit 0,(X,K))) (some (.ret,(Y,K)))/\X.length=46/\Y.length=46/\Y.getD 6 uA=.bool true:=by
 intro n
 induction n with
 | zero =>
   intro j tm hn hj hI
   have hjl:j=6:=by omega
   subst hjl
   obtain ⟨hlen,h7,h8,h9,h10,h11⟩:=hI
   have hlt:ltB ((6:Nat):Int) 6=false:=cH (by omega)
   rw [di (ax _),Mx]
   simp -implicitDefEqProofs only [vL,Tryz.f24,aP,hlen,h7,h8,h9,h10,h11,hlt,r5,↓az,nck,↓cbT,↓cbF,↓ao,an,eu,sevalprocAttr]
   exact ⟨_,tm.set 6 (.bool true),rfl,by simp only [ls,hlen],by simp only [ls,hlen],by simp only [hlen,dv,Nat.reduceLT]⟩
 | succ n ih =>
   intro j tm hn hj hI
   obtain ⟨hlen,h7,h8,h9,h10,h11⟩:=hI
   have hjN:j < 6:=by omega
   have hlt:ltB (j:Int) 6=true:=cD (by omega)
   have hw:=cp (j:=j) (by omega)
   have hix:=fun i kk=>yo hjN i kk
   have ra:=CO ha hjN []
   have rb:=CO hb hjN []
   have rc:=CO hc hjN []
   have rd:=CO hd hjN []
   rw [af] at ra rb rc rd
   have key:∀ (tmN:List AV) (Z:Option (bs × St)),EvC aa C0 W0 plN FL (tmN,K)=Z->(tmN.length=46/\tmN.getD 7 uA=.ptr a 0/\tmN.getD 8 uA=.ptr b 0/\tmN.getD 9 uA=.ptr c 0/\tmN.getD 10 uA=.ptr d 0/\tmN.getD 11 uA=I (((j+1):Nat):Int))->∃ X Y,Z=br (cd (fun i=>!(ux.contains i && uy.contains i && (cx.contains i || cy.contains i))) 6 (j+1)) (some (.exit 0,(X,K))) (some (.ret,(Y,K)))/\X.length=46/\Y.length=46/\Y.getD 6 uA=.bool true:=by
     intro tmN Z h hJ
     obtain ⟨X,Y,A,B⟩:=ih (j+1) tmN (by omega) (by omega) hJ
     exact ⟨X,Y,h.symm.trans A,B⟩
   rw [cI hjN,Mx]
   cases e1:ux.contains j with
   | false =>
     simp only [e1,bc,gk,bd,lS,gj]
     simp -implicitDefEqProofs only [vL,Tryz.f24,aP,hlen,h7,h8,h9,h10,h11,hlt,hw,hix,ra,e1,r5,↓az,nck,↓cbT,↓cbF,↓ao,an,eu,sevalprocAttr]
     generalize hX:EvC aa C0 W0 _ _ _=Z
     refine key _ _ hX ⟨by simp only [ls,hlen],by simp only [hlen,h7,h8,h9,h10,h11,gB,and_self,sevalprocAttr]⟩
   | true =>
     cases e2:uy.contains j with
     | false =>
       simp only [e1,e2,bc,gk,bd,lS,gj]
       simp -implicitDefEqProofs only [vL,Tryz.f24,aP,hlen,h7,h8,h9,h10,h11,hlt,hw,hix,ra,rc,e1,e2,r5,↓az,nck,↓cbT,↓cbF,↓ao,an,eu,sevalprocAttr]
       generalize hX:EvC aa C0 W0 _ _ _=Z
       refine key _ _ hX ⟨by simp only [ls,hlen],by simp only [hlen,h7,h8,h9,h10,h11,gB,and_self,sevalprocAttr]⟩
     | true =>
       cases e3:cx.contains j with
       | true =>
         simp only [e1,e2,e3,bd,fx,qp,qo,tZ,bc]
         simp -implicitDefEqProofs only [vL,Tryz.f24,aP,hlen,h7,h8,h9,h10,h11,hlt,hw,hix,ra,rc,rb,e1,e2,e3,r5,↓az,nck,↓cbT,↓cbF,↓ao,an,eu,sevalprocAttr]
         exact ⟨tm,_,rfl,hlen,by simp only [ls,hlen],by simp only [hlen,gB,sevalprocAttr]⟩
       | false =>
         cases e4:cy.contains j with
         | true =>
           simp only [e1,e2,e3,e4,bd,fx,qp,qo,tZ,bc]
           simp -implicitDefEqProofs only [vL,Tryz.f24,aP,hlen,h7,h8,h9,h10,h11,hlt,hw,hix,ra,rc,rb,rd,e1,e2,e3,e4,r5,↓az,nck,↓cbT,↓cbF,↓ao,an,eu,sevalprocAttr]
           exact ⟨tm,_,rfl,hlen,by simp only [ls,hlen],by simp only [hlen,gB,sevalprocAttr]⟩
         | false =>
           simp only [e1,e2,e3,e4,bc,gk,bd,lS,gj]
           simp -implicitDefEqProofs only [vL,Tryz.f24,aP,hlen,h7,h8,h9,h10,h11,hlt,hw,hix,ra,rc,rb,rd,e1,e2,e3,e4,r5,↓az,nck,↓cbT,↓cbF,↓ao,an,eu,sevalprocAttr]
           generalize hX:EvC aa C0 W0 _ _ _=Z
           refine key _ _ hX ⟨by simp only [ls,hlen],by simp only [hlen,h7,h8,h9,h10,h11,gB,and_self,sevalprocAttr]⟩
theorem Td {K:AH} {a b c d:Nat} {ux cx uy cy:List Nat} (ha:K[a]? =some (.cells (bits ux) 112)) (hb:K[b]? =some (.cells (bits cx) 112)) (hc:K[c]? =some (.cells (bits uy) 112)) (hd:K[d]? =some (.cells (bits cy) 112)) {tm:List AV} {Z:Option (bs × St)} (hX:EvC aa C0 W0 plN FL (tm,K)=Z) (hI:tm.length=46/\tm.getD 7 uA=.ptr a 0/\tm.getD 8 uA=.ptr b 0/\tm.getD 9 uA=.ptr c 0/\tm.getD 10 uA=.ptr d 0/\tm.getD 11 uA=I ((0:Nat):Int)):∃ X Y,Z=br (cd (fun i=>!(ux.contains i && uy.contains i && (cx.contains i || cy.contains i))) 6 0) (some (.exit 0,(X,K))) (some (.ret,(Y,K)))/\X.length=46/\Y.length=46/\Y.getD 6 uA=.bool true:=by
 subst hX
 exact Wn ha hb hc hd _ 0 tm rfl (cX _) hI
theorem ada {H:AH} {cs:List Cod} {m:List (List Int)} {vc va vb:AV} {x y:Itm} (hc:dk H cs vc) (hcp:∀ c∈cs,c.params.length<=6) (ha:SlS 32 1 H va (x.args.map dw)) (hb:SlS 32 1 H vb (y.args.map dw)) (hx:b6 cs m x=true) (hy:b6 cs m y=true) (h6:m.length<=6):Ev aa C0 W0 24 [vc,.agg (aL x va),.agg (aL y vb)] H=some (.bool (iV cs x y),H):=by
 obtain ⟨tm,ht,g0,g1,g2,g3⟩:=tm3 vc (.agg (aL x va)) (.agg (aL y vb)) 46 (by decide)
 rw [abS,ht]
 rw [<-af (ro H)]
 have hA0:=au.app (ro H) [.cells (aL x va) 34,.cells (aL y vb) 34]
 obtain ⟨K1,h1,hA1⟩:=YS (hc.ro.bg hA0) hcp (ha.ro.same hA0) hx h6
 have hA2:=hA1.bS [.cells (bits (fc cs x)) 112,.cells (bits (iJ cs x)) 112]
 obtain ⟨K2,h2,hA3⟩:=YS ((hc.ro.bg hA0).bg hA2) hcp ((hb.ro.same hA0).same hA2) hy h6
 have hyr:∀ L,ak (K1++L) ((ro H).length+1) 0 9=some (aL y vb):=fun L=>(hA1.bS L).sub.rd (by rw [jN]; rfl)
 have hsp:∀ u v,spl (bits u) 0 (bits v)=bits v:=fun u v=>nN _ _ (by rw [ij,ij])
 have p1:K1[K1.length]? =none:=List.getElem?_eq_none (ax _)
 have hA4:au (K1++[.cells (bits (fc cs x)) 112,.cells (bits (iJ cs x)) 112]) (K2++[.cells (bits (fc cs y)) 112,.cells (bits (iJ cs y)) 112]):=hA3.bS _
 have k1:=hA4.get (i:=K1.length) (o:=.cells (bits (fc cs x)) 112) (by rw [al (ax _),dR]; rfl)
 have k2:=hA4.get (i:=K1.length+1) (o:=.cells (bits (iJ cs x)) 112) (by rw [al (by omega),aS]; rfl)
 have k3:(K2++[bl.cells (bits (fc cs y)) 112,.cells (bits (iJ cs y)) 112])[K2.length]? =some (.cells (bits (fc cs y)) 112):=by rw [al (ax _),dR]; rfl
 have k4:(K2++[bl.cells (bits (fc cs y)) 112,.cells (bits (iJ cs y)) 112])[K2.length+1]? =some (.cells (bits (iJ cs y)) 112):=by rw [al (by omega),aS]; rfl
 have hres:=N1 hx hy h6
 have hp1:∀ o,put none K1 o=some (K1.length,K1++[o]):=fun _=>rfl
 have hp2:∀ o,put none K2 o=some (K2.length,K2++[o]):=fun _=>rfl
 simp only [aL] at h1 h2 hyr
 simp -implicitDefEqProofs only [c24,Tryz.f24,aP,g0,g1,g2,g3,aL,↓ab9,h1,h2,hyr,hp1,hp2,BA,QS,ij,yH,↓hsp,r5,↓az,nck,↓cbT,↓cbF,↓ao,an,eu,sevalprocAttr]
 generalize hX:EvC aa C0 W0 _ (Code.loop _) _=Z
 obtain ⟨X,Y,he,xl,yl,y6⟩:=Td k1 k2 k3 k4 hX ⟨by simp only [ls,g0],by simp only [g0,gB,sevalprocAttr]; try rfl,by simp only [g0,gB,sevalprocAttr]; try rfl,by simp only [g0,gB,sevalprocAttr]; try rfl,by simp only [g0,gB,sevalprocAttr]; try rfl,by simp only [g0,gB,sevalprocAttr]; try rfl⟩
 subst he
 rw [<-hres]
 unfold N2
 cases hc:cd (fun i=>!((fc cs x).contains i && (fc cs y).contains i && ((iJ cs x).contains i || (iJ cs y).contains i))) 6 0 with
 | true=>simp -implicitDefEqProofs only [aP,xl,r5,↓az,nck,↓cbT,↓cbF,↓ao,an,eu,sevalprocAttr]
 | false=>simp -implicitDefEqProofs only [aP,yl,y6,r5,↓az,nck,↓cbT,↓cbF,↓ao,an,eu,sevalprocAttr]
end Go.Dv
namespace Go.Dv
open Go.Proofs
attribute [local congr] aF bC aY bB bD
theorem jH (i k:Nat):aN aa 107 (.ptr i k) 0=some (.ptr i k):=by kernel_rfl
theorem jG (i k:Nat):aN aa 107 (.ptr i k) 1=some (.ptr i (k+1)):=by kernel_rfl
theorem XI (i k:Nat) (kk:IntKind) (n:Int):aD aa 111 (.ptr i k) (.int kk n)=if 0<=n/\n < 16 then some (.ptr i (k+n.toNat * 1)) else none:=by kernel_rfl
theorem Ew {a:Nat} (h:a < 16) (i:Nat) (kk:IntKind):aD aa 111 (.ptr i 0) (.int kk (a:Int))=some (.ptr i a):=by
 rw [XI,if_pos (by omega),cw,dz,Nat.zero_add]
theorem aaU (i k es len cap:Nat) (ex:Bool) (kk:IntKind) (n:Int):aD aa 57 (.slice i k es len cap ex) (.int kk n)=if 0<=n/\n < len/\1=es then some (.ptr i (k+n.toNat * es)) else none:=by kernel_rfl
theorem aaT (i k es len cap:Nat) (ex:Bool) (kk:IntKind) (n:Int):aD aa 59 (.slice i k es len cap ex) (.int kk n)=if 0<=n/\n < len/\1=es then some (.ptr i (k+n.toNat * es)) else none:=by kernel_rfl
theorem KN {n j:Nat} (b:Nat) (h:j < n) (kk:IntKind):aD aa 57 (slN b n) (.int kk (j:Int))=some (.ptr b j):=by
 rw [aaU,if_pos ⟨by omega,by omega,rfl⟩]; simp
theorem KM {n j:Nat} (b:Nat) (h:j < n) (kk:IntKind):aD aa 59 (slN b n) (.int kk (j:Int))=some (.ptr b j):=by
 rw [aaT,if_pos ⟨by omega,by omega,rfl⟩]; simp
theorem nW (H:AH) (i k:Nat):ldA aa 57 H i k=(ak H i k 1).bind (·.head?):=by kernel_rfl
theorem nV (H:AH) (i k:Nat):ldA aa 59 H i k=(ak H i k 1).bind (·.head?):=by kernel_rfl
theorem aar (H:AH) (i k:Nat) (x:AV):stA aa 59 H i k x=if x.cells.length=1 then bh H i k x.cells else none:=by kernel_rfl
theorem aaA (n:Nat) (hn:n<=1000) (H:AH):fE aa none 57 (I n) (I n) H=some (slN H.length n,H++[.cells (ay n .nilSlice) 59]):=by
 have hz:dP aa 59=some .nilSlice:=by kernel_rfl
 have hs:fW aa 57=some 59:=by kernel_rfl
 have hb:aa.bytesOf 59=24:=by kernel_rfl
 have hc:aa.cellsOf 59=1:=by kernel_rfl
 unfold fE
 simp only [hs,hz,aA]
 rw [if_pos ⟨by omega,by omega,by omega,by rw [hb]; omega,by simp [AV.cells]⟩]
 rw [hc,dz,cw]
 show rA _ (put none H (.cells (k9 [.nilSlice] n) 59))=_
 rw [E9]; rfl
theorem aaz (n:Nat) (hn:n<=1000) (H:AH):fE aa none 59 (I n) (I n) H=some (slN H.length n,H++[.cells (ay n (.bool false)) 4]):=by
 have hz:dP aa 4=some (.bool false):=by kernel_rfl
 have hs:fW aa 59=some 4:=by kernel_rfl
 have hb:aa.bytesOf 4=1:=by kernel_rfl
 have hc:aa.cellsOf 4=1:=by kernel_rfl
 unfold fE
 simp only [hs,hz,aA]
 rw [if_pos ⟨by omega,by omega,by omega,by rw [hb]; omega,by simp [AV.cells]⟩]
 rw [hc,dz,cw]
 show rA _ (put none H (.cells (k9 [.bool false] n) 4))=_
 rw [E9]; rfl
theorem ZU:jt aa 111 []=some (.agg (ay 16 (I 0))):=by kernel_rfl
theorem aac:dP aa 111=some (.agg (ay 16 (I 0))):=by kernel_rfl
theorem Wu (H:AH) (i k:Nat) (x:AV):stA aa 111 H i k x=if x.cells.length=16 then bh H i k x.cells else none:=by kernel_rfl
open Qu (places)
structure E4 (G:AH) (ss:List (List Itm)) (vs lv:AV) (i:Nat) (li lk i0 k0 i2 k2:Nat) (w va:AV):Prop where
 xl:∀ kk,aD aa 104 lv (.int kk (i:Int))=some (.ptr li lk)
 l0:∀ K,au G K->∀ L,ak (K++L) li lk 1=some [I ((lG ss i).1:Int)]
 l1:∀ K,au G K->∀ L,ak (K++L) li (lk+1) 1=some [I ((lG ss i).2:Int)]
 x1:∀ kk,aD aa 25 vs (.int kk ((lG ss i).1:Int))=some (.ptr i0 k0)
 r1:∀ K,au G K->∀ L,ak (K++L) i0 k0 1=some [w]
 x2:∀ kk,aD aa 31 w (.int kk ((lG ss i).2:Int))=some (.ptr i2 k2)
 r2:∀ K,au G K->∀ L,ak (K++L) i2 k2 9=some (aL (itP ss i) va)
 oc:va.cells=[va]
 oo:va.one=true
theorem pit {G:AH} {ss:List (List Itm)} {vs lv:AV} (hs:dy G ss vs) (hl:SlS 104 2 G lv (plR (places (qS ss)))) {i:Nat} (hi:i < ss.flatten.length):∃ li lk i0 k0 i2 k2 w va,E4 G ss vs lv i li lk i0 k0 i2 k2 w va:=by
 obtain ⟨p1,p2,p3,_⟩:=s7 hi
 obtain ⟨li,lk,xl,rl⟩:=hl.ix i [I ((lG ss i).1:Int),I ((lG ss i).2:Int)] (by unfold plR; rw [List.getElem?_map,p1]; rfl)
 obtain ⟨i0,k0,w,x1,r1,hw⟩:=hs.at (au.refl G) p2
 obtain ⟨i2,k2,va,x2,r2,hv⟩:=hw.at (au.refl G) p3
 have r1':=r1 []
 have r2':=r2 []
 rw [af] at r1' r2'
 exact ⟨li,lk,i0,k0,i2,k2,w,va,xl,fun K h L=>zA rl h L rfl,fun K h L=>Fi rl h L 1 rfl,x1,fun K h L=>iZ r1' h L,x2,fun K h L=>iZ r2' h L,hv.cells,hv.one⟩
theorem On {G K:AH} {ss:List (List Itm)} {vs lv va w:AV} {li lk i0 k0 i2 k2 i:Nat} {tm:List AV} (hp:E4 G ss vs lv i li lk i0 k0 i2 k2 w va) (hA:au G K) (hlen:tm.length=203) (h0:tm.getD 0 uA=vs) (h3:tm.getD 3 uA=lv) (hi:tm.getD 5 uA=I (i:Int)):∃ tm',EvC aa C0 W0 iH (aI [true,true,true,false,true,false,false,true,false,false,false] c23) (tm,K)=some (.normal,(tm',K++[.fresh,.fresh,.fresh,.fresh,.fresh,.fresh,.fresh,.fresh,.fresh,.fresh,.fresh,.fresh,.fresh,.fresh,.fresh,.cells (aL (itP ss i) va) 34,.fresh]))/\tm'.length=203/\tm'.getD 6 uA=.ptr (K.length+15) 0/\tm'.getD 0 uA=tm.getD 0 uA/\tm'.getD 3 uA=tm.getD 3 uA/\tm'.getD 4 uA=tm.getD 4 uA/\tm'.getD 5 uA=tm.getD 5 uA:=by
 obtain ⟨xl,l0,l1,x1,r1,x2,r2,oc,oo⟩:=hp
 have l0:=l0 K hA
 have l1:=l1 K hA
 have r1:=r1 K hA
 have r2:=r2 K hA
 generalize itP ss i=x at *
 generalize (lG ss i).1=s at *
 generalize (lG ss i).2=q at *
 simp only [aL] at r2 ⊢
 simp -implicitDefEqProofs only [c23,Tryz.f23,aP,hlen,h0,h3,hi,xl,l0,l1,x1,r1,x2,r2,↓oc,↓oo,jH,jG,fV,ed,↓cK OL,J9,dK,cm,dj,dG,ch,dJ,dc,cN,r5,↓az,nck,↓cbT,↓cbF,↓ao,an,eu,sevalprocAttr,↓ep,↓eh,↓il,↓fO,↓eo,↓fQ,↓dC,↓er,↓bV,↓bG,↓cB,↓fR,↓dD,↓ew,↓bX,↓bW,↓cC,↓d6,↓cW,dE,bK,ai,bJ,cA,cV,dF]
 exact ⟨_,rfl,by simp only [ls,hlen],by simp only [hlen,h0,h3,hi,gB,and_self,sevalprocAttr]⟩
theorem Jl {G K:AH} {ss:List (List Itm)} {vs lv va w:AV} {li lk i0 k0 i2 k2 i:Nat} {tm:List AV} (hp:E4 G ss vs lv i li lk i0 k0 i2 k2 w va) (hA:au G K) (hlen:tm.length=203) (h0:tm.getD 0 uA=vs) (h3:tm.getD 3 uA=lv) (hi:tm.getD 5 uA=I (i:Int)) {R:Option (bs × St)} (hR:EvC aa C0 W0 iH (aI [true,true,true,false,true,false,false,true,false,false,false] c23) (tm,K)=R):∃ tm' K',R=some (.normal,(tm',K'))/\au K K'/\K'[K.length+15]? =some (.cells (aL (itP ss i) va) 34)/\tm'.length=203/\tm'.getD 6 uA=.ptr (K.length+15) 0/\tm'.getD 0 uA=tm.getD 0 uA/\tm'.getD 3 uA=tm.getD 3 uA/\tm'.getD 4 uA=tm.getD 4 uA/\tm'.getD 5 uA=tm.getD 5 uA:=by
 subst hR
 obtain ⟨t,h1,h2⟩:=On hp hA hlen h0 h3 hi
 exact ⟨t,_,h1,au.app _ _,by rw [al (by omega),aS]; rfl,h2⟩
theorem Jp {G K:AH} {ss:List (List Itm)} {vs lv va w:AV} {li lk i0 k0 i2 k2 i:Nat} {tm:List AV} (hp:E4 G ss vs lv i li lk i0 k0 i2 k2 w va) (hA:au G K) (hlen:tm.length=203) (h0:tm.getD 0 uA=vs) (h3:tm.getD 3 uA=lv) (hi:tm.getD 8 uA=I (i:Int)):∃ tm',EvC aa C0 W0 iH (aI [true,true,true,true,true,false,true,false,false,true,false,false,true,false] c23) (tm,K)=some (.normal,(tm',K++[.fresh,.fresh,.fresh,.fresh,.fresh,.fresh,.fresh,.fresh,.fresh,.fresh,.fresh,.fresh,.fresh,.fresh,.fresh,.cells (aL (itP ss i) va) 34,.fresh]))/\tm'.length=203/\tm'.getD 9 uA=.ptr (K.length+15) 0/\tm'.getD 0 uA=tm.getD 0 uA/\tm'.getD 3 uA=tm.getD 3 uA/\tm'.getD 4 uA=tm.getD 4 uA/\tm'.getD 7 uA=tm.getD 7 uA/\tm'.getD 8 uA=tm.getD 8 uA:=by
 obtain ⟨xl,l0,l1,x1,r1,x2,r2,oc,oo⟩:=hp
 have l0:=l0 K hA
 have l1:=l1 K hA
 have r1:=r1 K hA
 have r2:=r2 K hA
 generalize itP ss i=x at *
 generalize (lG ss i).1=s at *
 generalize (lG ss i).2=q at *
 simp only [aL] at r2 ⊢
 simp -implicitDefEqProofs only [c23,Tryz.f23,aP,hlen,h0,h3,hi,xl,l0,l1,x1,r1,x2,r2,↓oc,↓oo,jH,jG,fV,ed,↓cK JX,Ei,dK,cm,dj,dG,ch,dJ,dc,cN,r5,↓az,nck,↓cbT,↓cbF,↓ao,an,eu,sevalprocAttr,↓ep,↓eh,↓il,↓fO,↓eo,↓fQ,↓dC,↓er,↓bV,↓bG,↓cB,↓fR,↓dD,↓ew,↓bX,↓bW,↓cC,↓d6,↓cW,dE,bK,ai,bJ,cA,cV,dF]
 exact ⟨_,rfl,by simp only [ls,hlen],by simp only [hlen,h0,h3,hi,gB,and_self,sevalprocAttr]⟩
theorem Hm {G K:AH} {ss:List (List Itm)} {vs lv va w:AV} {li lk i0 k0 i2 k2 i:Nat} {tm:List AV} (hp:E4 G ss vs lv i li lk i0 k0 i2 k2 w va) (hA:au G K) (hlen:tm.length=203) (h0:tm.getD 0 uA=vs) (h3:tm.getD 3 uA=lv) (hi:tm.getD 8 uA=I (i:Int)) {R:Option (bs × St)} (hR:EvC aa C0 W0 iH (aI [true,true,true,true,true,false,true,false,false,true,false,false,true,false] c23) (tm,K)=R):∃ tm' K',R=some (.normal,(tm',K'))/\au K K'/\K'[K.length+15]? =some (.cells (aL (itP ss i) va) 34)/\tm'.length=203/\tm'.getD 9 uA=.ptr (K.length+15) 0/\tm'.getD 0 uA=tm.getD 0 uA/\tm'.getD 3 uA=tm.getD 3 uA/\tm'.getD 4 uA=tm.getD 4 uA/\tm'.getD 7 uA=tm.getD 7 uA/\tm'.getD 8 uA=tm.getD 8 uA:=by
 subst hR
 obtain ⟨t,h1,h2⟩:=Jp hp hA hlen h0 h3 hi
 exact ⟨t,_,h1,au.app _ _,by rw [al (by omega),aS]; rfl,h2⟩
theorem Jo {G K:AH} {ss:List (List Itm)} {vs lv va w:AV} {li lk i0 k0 i2 k2 i:Nat} {tm:List AV} (hp:E4 G ss vs lv i li lk i0 k0 i2 k2 w va) (hA:au G K) (hlen:tm.length=203) (h0:tm.getD 0 uA=vs) (h3:tm.getD 3 uA=lv) (hi:tm.getD 10 uA=I (i:Int)):∃ tm',EvC aa C0 W0 iH (aI [true,true,true,true,true,false,true,false,false,true,false,false,true,true,true,false,false,true,false,false,false] c23) (tm,K)=some (.normal,(tm',K++[.fresh,.fresh,.fresh,.fresh,.fresh,.fresh,.fresh,.fresh,.fresh,.fresh,.fresh,.fresh,.fresh,.fresh,.fresh,.cells (aL (itP ss i) va) 34,.fresh]))/\tm'.length=203/\tm'.getD 11 uA=.ptr (K.length+15) 0/\tm'.getD 0 uA=tm.getD 0 uA/\tm'.getD 3 uA=tm.getD 3 uA/\tm'.getD 4 uA=tm.getD 4 uA/\tm'.getD 7 uA=tm.getD 7 uA/\tm'.getD 8 uA=tm.getD 8 uA/\tm'.getD 9 uA=tm.getD 9 uA/\tm'.getD 10 uA=tm.getD 10 uA:=by
 obtain ⟨xl,l0,l1,x1,r1,x2,r2,oc,oo⟩:=hp
 have l0:=l0 K hA
 have l1:=l1 K hA
 have r1:=r1 K hA
 have r2:=r2 K hA
 generalize itP ss i=x at *
 generalize (lG ss i).1=s at *
 generalize (lG ss i).2=q at *
 simp only [aL] at r2 ⊢
 simp -implicitDefEqProofs only [c23,Tryz.f23,aP,hlen,h0,h3,hi,xl,l0,l1,x1,r1,x2,r2,↓oc,↓oo,jH,jG,fV,ed,↓cK JW,Eh,dK,cm,dj,dG,ch,dJ,dc,cN,r5,↓az,nck,↓cbT,↓cbF,↓ao,an,eu,sevalprocAttr,↓ep,↓eh,↓il,↓fO,↓eo,↓fQ,↓dC,↓er,↓bV,↓bG,↓cB,↓fR,↓dD,↓ew,↓bX,↓bW,↓cC,↓d6,↓cW,dE,bK,ai,bJ,cA,cV,dF]
 exact ⟨_,rfl,by simp only [ls,hlen],by simp only [hlen,h0,h3,hi,gB,and_self,sevalprocAttr]⟩
theorem Hl {G K:AH} {ss:List (List Itm)} {vs lv va w:AV} {li lk i0 k0 i2 k2 i:Nat} {tm:List AV} (hp:E4 G ss vs lv i li lk i0 k0 i2 k2 w va) (hA:au G K) (hlen:tm.length=203) (h0:tm.getD 0 uA=vs) (h3:tm.getD 3 uA=lv) (hi:tm.getD 10 uA=I (i:Int)) {R:Option (bs × St)} (hR:EvC aa C0 W0 iH (aI [true,true,true,true,true,false,true,false,false,true,false,false,true,true,true,false,false,true,false,false,false] c23) (tm,K)=R):∃ tm' K',R=some (.normal,(tm',K'))/\au K K'/\K'[K.length+15]? =some (.cells (aL (itP ss i) va) 34)/\tm'.length=203/\tm'.getD 11 uA=.ptr (K.length+15) 0/\tm'.getD 0 uA=tm.getD 0 uA/\tm'.getD 3 uA=tm.getD 3 uA/\tm'.getD 4 uA=tm.getD 4 uA/\tm'.getD 7 uA=tm.getD 7 uA/\tm'.getD 8 uA=tm.getD 8 uA/\tm'.getD 9 uA=tm.getD 9 uA/\tm'.getD 10 uA=tm.getD 10 uA:=by
 subst hR
 obtain ⟨t,h1,h2⟩:=Jo hp hA hlen h0 h3 hi
 exact ⟨t,_,h1,au.app _ _,by rw [al (by omega),aS]; rfl,h2⟩
end Go.Dv
namespace Go.Dv
open Go.Proofs
attribute [local congr] aF bC aY bB bD
open Qu (places)
theorem xrd {K:AH} {b:Nat} {x:Itm} {va:AV} (h:K[b]? =some (.cells (aL x va) 34)) (L:AH):ak (K++L) b 0 1=some [I x.kind]/\ak (K++L) b 6 1=some [I x.ev]:=by
 constructor <;> (rw [eL h]; rfl)
theorem SN {K:AH} {b:Nat} {x:Itm} {va:AV} (h:K[b]? =some (.cells (aL x va) 34)):ak K b 0 1=some [I x.kind]/\ak K b 6 1=some [I x.ev]:=by
 have:=xrd h []
 rwa [af] at this
theorem Q1 {K:AH} {ss:List (List Itm)} {i rb e:Nat} (h:K[rb]? =some (.cells (rcV ss i) 111)) (he:e < 16) (L:AH):ak (K++L) rb e 1=some [I ((rcN ss i (e:Int):Nat):Int)]:=by
 rw [eL h,if_pos (by rw [m3]; omega),List.drop_eq_getElem_cons (by rw [m3]; exact he)]
 have:=AM (ss:=ss) (i:=i) he
 rw [List.getElem?_eq_getElem (by rw [m3]; exact he)] at this
 rw [aE this]; rfl
theorem TL (ss:List (List Itm)):(plR (places (qS ss))).length=ss.flatten.length:=by
 unfold plR
 rw [ar,Qu.oE,gS,ar]
theorem Fv {G:AH} {ss:List (List Itm)} {lv:AV} (hl:SlS 104 2 G lv (plR (places (qS ss)))) (K:AH):dQ aa 104 K lv=some (I (ss.flatten.length:Nat)):=by
 have:=hl.len K
 rwa [TL] at this
theorem Ww {G:AH} {ss:List (List Itm)} {vs lv:AV} {rb:Nat} (hs:dy G ss vs) (hl:SlS 104 2 G lv (plR (places (qS ss)))) (hfew:ss.flatten.length<=1000) (hev:∀ i,i < ss.flatten.length->(itP ss i).kind=3->∃ e:Nat,(itP ss i).ev=e/\e < 16) (hrb:G.length<=rb):∀ (d i:Nat) (tm:List AV) (K:AH) (Z:Option (bs × St)),EvC aa C0 W0 iH RP (tm,K)=Z->ss.flatten.length - i=d->i<=ss.flatten.length->(tm.length=203/\tm.getD 0 uA=vs/\tm.getD 3 uA=lv/\tm.getD 4 uA=.ptr rb 0/\tm.getD 5 uA=I ((i:Nat):Int)/\au G K/\K[rb]? =some (.cells (rcV ss (i)) 111)) ->
   ∃ X K1,Z=some (.exit 0,(X,K1))/\(X.length=203/\X.getD 0 uA=vs/\X.getD 3 uA=lv/\X.getD 4 uA=.ptr rb 0/\X.getD 5 uA=I ((ss.flatten.length:Nat):Int)/\au G K1/\K1[rb]? =some (.cells (rcV ss (ss.flatten.length)) 111)):=by
 have hln:=fun K=>Fv hl K
 intro d
 induction d with
 | zero =>
   intro i tm K Z hZ hd hi hI
   subst hZ
   have hil:i=ss.flatten.length:=by omega
   subst hil
   obtain ⟨hlen,h0,h3,h4,h5,hA,hrc⟩:=hI
   have hlt:ltB ((ss.flatten.length:Nat):Int) (ss.flatten.length:Nat)=false:=cH (by omega)
   rw [MD]
   simp -implicitDefEqProofs only [Gs,Tryz.f23,aP,hlen,h0,h3,h4,h5,hln,hlt,r5,↓az,nck,↓cbT,↓cbF,↓ao,an,eu,sevalprocAttr]
   exact ⟨_,K,rfl,by simp only [ls,hlen],Aj4 (by simp only [hlen,h0,h3,h4,h5,gB,and_self,sevalprocAttr]) ⟨hA,hrc⟩⟩
 | succ d ih =>
   intro i tm K Z hZ hd hi hI
   subst hZ
   have hiN:i < ss.flatten.length:=by omega
   obtain ⟨hlen,h0,h3,h4,h5,hA,hrc⟩:=hI
   have hlt:ltB (i:Int) (ss.flatten.length:Nat)=true:=cD (by omega)
   have hw:=cp (j:=i) (by omega)
   obtain ⟨li,lk,i0,k0,i2,k2,w,va,hp⟩:=pit hs hl hiN
   rw [MD]
   simp -implicitDefEqProofs only [Gs,Tryz.f23,aP,hlen,h0,h3,h4,h5,hln,hlt,r5,↓az,nck,↓cbT,↓cbF,↓ao,an,eu,sevalprocAttr]
   generalize hR:EvC aa C0 W0 _ (Code.region _ _ _) _=R
   obtain ⟨t,K',he,hA',hx,tl,t6,t0,t3,t4,t5⟩:=Jl hp hA (by simp only [ls,hlen]) (by simp only [hlen,h0,gB,sevalprocAttr]) (by simp only [hlen,h3,gB,sevalprocAttr]) (by simp only [hlen,h5,gB,sevalprocAttr]) hR
   subst he
   simp only [hlen,h0,h3,h4,h5,gB,sevalprocAttr] at t0 t3 t4 t5
   obtain ⟨hxk,hxe⟩:=SN hx
   have hrc':=hA'.get hrc
   have hAG:=hA.trans hA'
   cases h3k:eqB (itP ss i).kind 3 with
   | true =>
     have hk3:=(cU _ _).1 h3k
     obtain ⟨e,hve,he16⟩:=hev i hiN hk3
     rw [hve] at hxe
     have hixe:=fun kk=>Ew he16 rb kk
     have hre:=Q1 hrc' he16 []
     rw [af] at hre
     have hwe:=cp (j:=rcN ss i (e:Int)) (by have:=TE ss i (e:Int); omega)
     have hwr:=DI hrc' (k:=e) (x:=I ((rcN ss i (e:Int)+1:Nat):Int)) (by rw [m3]; exact he16) rfl
     rw [Ov hiN hk3 hve] at hwr
     simp -implicitDefEqProofs only [aP,tl,t0,t3,t4,t5,t6,hxk,hxe,h3k,hixe,hre,hwe,hwr,st3,hw,r5,↓az,nck,↓cbT,↓cbF,↓ao,an,eu,sevalprocAttr]
     generalize hX:EvC aa C0 W0 _ _ _=Z
     refine ih (i+1) _ _ _ hX (by omega) (by omega) ⟨by simp only [ls,tl],Aj4 (by simp only [tl,t0,t3,t4,t5,gB,and_self,sevalprocAttr]) ⟨hAG.pC hrb _,?_⟩⟩
     rw [List.getElem?_set_self (aJ hrc')]
   | false =>
     have hk3:(itP ss i).kind≠3:=fun h=>by rw [kH h] at h3k; cases h3k
     simp -implicitDefEqProofs only [aP,tl,t0,t3,t4,t5,t6,hxk,h3k,hw,r5,↓az,nck,↓cbT,↓cbF,↓ao,an,eu,sevalprocAttr]
     generalize hX:EvC aa C0 W0 _ _ _=Z
     exact ih (i+1) _ _ _ hX (by omega) (by omega) ⟨by simp only [ls,tl],Aj4 (by simp only [tl,t0,t3,t4,t5,gB,and_self,sevalprocAttr]) ⟨hAG,by rw [Jx hiN hk3]; exact hrc'⟩⟩
end Go.Dv
