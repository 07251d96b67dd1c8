/- Part 09 of the walks (own work). -/
import Derived.Test.YtilpjnckfkjkbaaGreatDoorS08
import Derived.Test.YtilpjnckfkjkbaaGreatDoorChecked
import Derived.KernelRfl
import Derived.Lib.Space
open Option.some renaming inj→aC
open Go.Proofs.Tryz renaming prog→aa
set_option maxRecDepth 100000
set_option maxHeartbeats 4000000
set_option linter.unusedSimpArgs false
set_option linter.unusedVariables false
namespace Go.Dv
open Go.Proofs
set_option maxRecDepth 1000000
def RA:dM:=(.take 0 (.take 2 (.take 4 (.rd 1 (.rd 3 (.take 5 (.rd 6 (.all [(7,(.all [(8,(.take 9 (.all [(10,.done)])))]))]))))))))
def I1:dM:=(.take 0 (.take 2 (.take 5 (.join (.all [(1,(.all [(3,(.rd 4 (.rd 6 (.all [(7,.done)])))),(4,(.all [(3,(.rd 6 (.all [(7,.done)]))),(6,(.all [(3,(.all [(7,.done)])),(7,(.all [(3,.done)]))]))])),(6,(.all [(3,(.rd 4 (.all [(7,.done)]))),(4,(.all [(3,(.all [(7,.done)])),(7,(.all [(3,.done)]))])),(7,(.all [(3,(.rd 4 .done)),(4,(.all [(3,.done)]))]))]))])),(4,(.all [(1,(.all [(3,(.rd 6 (.all [(7,.done)]))),(6,(.all [(3,(.all [(7,.done)])),(7,(.all [(3,.done)]))]))])),(6,(.all [(1,(.all [(3,(.all [(7,.done)])),(7,(.all [(3,.done)]))])),(7,(.all [(1,(.all [(3,.done)]))]))]))])),(6,(.all [(1,(.all [(3,(.rd 4 (.all [(7,.done)]))),(4,(.all [(3,(.all [(7,.done)])),(7,(.all [(3,.done)]))])),(7,(.all [(3,(.rd 4 .done)),(4,(.all [(3,.done)]))]))])),(4,(.all [(1,(.all [(3,(.all [(7,.done)])),(7,(.all [(3,.done)]))])),(7,(.all [(1,(.all [(3,.done)]))]))])),(7,(.all [(1,(.all [(3,(.rd 4 .done)),(4,(.all [(3,.done)]))])),(4,(.all [(1,(.all [(3,.done)]))]))]))]))]) (.all [(8,(.all [(9,(.take 10 .done))]))])))))
def I0:dM:=(.take 0 (.take 3 (.take 6 (.rd 1 (.join (.all [(2,(.rd 4 (.all [(5,(.rd 7 (.take 9 .done))),(7,(.take 9 (.all [(5,.done)])))]))),(4,(.all [(2,(.all [(5,(.rd 7 (.take 9 .done))),(7,(.take 9 (.all [(5,.done)])))])),(7,(.all [(2,(.take 9 (.all [(5,.done)])))]))])),(7,(.all [(2,(.rd 4 (.take 9 (.all [(5,.done)])))),(4,(.all [(2,(.take 9 (.all [(5,.done)])))]))]))]) (.all [(8,(.all [(10,(.take 11 (.all [(12,(.take 13 (.all [(14,.done)])))])))]))]))))))
def z3:dM:=(.take 0 (.take 1 (.take 2 (.take 3 (.take 4 (.rd 5 (.take 6 (.take 7 (.take 8 (.rd 9 (.take 10 (.all [(11,(.take 12 (.all [(13,.done)])))]))))))))))))
def RH:dM:=(.take 0 (.take 1 (.take 2 (.take 3 (.take 4 (.rd 5 (.take 6 (.take 7 (.take 8 (.rd 9 (.take 10 (.all [(11,(.take 12 (.all [(13,.done)])))]))))))))))))
def Dn:dM:=(.take 0 (.take 4 (.rd 1 (.rd 2 (.rd 5 (.rd 6 (.all [(3,(.take 8 (.all [(7,(.take 9 .done))]))),(7,(.all [(3,(.take 8 (.take 9 .done)))]))])))))))
def Uv:dM:=(.take 0 (.take 1 (.take 2 (.take 3 (.take 4 (.take 8 (.take 9 (.take 10 (.take 11 (.rd 5 (.take 6 (.rd 7 (.rd 12 (.take 13 (.rd 14 (.all [(15,(.all [(16,.done)]))]))))))))))))))))
def RG:dM:=(.take 0 (.take 1 (.take 2 (.take 3 (.take 4 (.take 8 (.take 9 (.take 10 (.take 11 (.rd 5 (.take 6 (.rd 7 (.rd 12 (.take 13 (.rd 14 (.all [(15,(.all [(16,.done)]))]))))))))))))))))
def RF:dM:=(.take 0 (.take 1 (.take 2 (.take 3 (.take 4 (.take 8 (.take 9 (.take 10 (.take 11 (.rd 5 (.take 6 (.rd 7 (.rd 12 (.take 13 (.rd 14 (.all [(15,(.all [(16,.done)]))]))))))))))))))))
def IZ:dM:=(.take 0 (.take 1 (.take 2 (.take 4 (.take 7 (.take 8 (.take 9 (.take 11 (.rd 3 (.take 5 (.rd 6 (.rd 10 (.take 12 (.rd 13 (.take 14 (.rd 15 (.all [(16,(.all [(17,.done)]))])))))))))))))))))
def RE:dM:=(.take 0 (.take 1 (.take 2 (.take 4 (.rd 3 (.take 6 (.take 7 (.join (.all [(5,(.all [(8,(.take 9 (.take 10 .done)))])),(8,(.rd 5 (.take 9 (.take 10 .done))))]) (.all [(11,.done)])))))))))
def Dj:dM:=(.take 0 (.take 5 (.rd 1 (.rd 2 (.join (.all [(3,(.all [(4,(.rd 6 (.take 9 (.all [(7,.done)])))),(6,(.all [(4,(.take 9 (.all [(7,.done)]))),(7,(.all [(4,(.take 9 .done))]))])),(7,(.all [(4,(.rd 6 (.take 9 .done))),(6,(.all [(4,(.take 9 .done))]))]))])),(6,(.all [(3,(.all [(4,(.take 9 (.all [(7,.done)]))),(7,(.all [(4,(.take 9 .done))]))])),(7,(.all [(3,(.all [(4,(.take 9 .done))]))]))])),(7,(.all [(3,(.all [(4,(.rd 6 (.take 9 .done))),(6,(.all [(4,(.take 9 .done))]))])),(6,(.all [(3,(.all [(4,(.take 9 .done))]))]))]))]) (.all [(8,(.all [(10,(.take 11 (.all [(12,.done)])))]))]))))))
def Di:dM:=(.take 0 (.take 2 (.take 3 (.take 4 (.take 6 (.take 7 (.take 10 (.rd 5 (.take 8 (.rd 9 (.join (.all [(1,(.all [(11,(.all [(12,(.take 13 .done))]))])),(11,(.all [(1,(.all [(12,(.take 13 .done))])),(12,(.rd 1 (.take 13 .done)))]))]) (.all [(14,.done)]))))))))))))
def Dh:dM:=(.take 0 (.take 1 (.take 3 (.take 4 (.take 7 (.rd 5 (.rd 6 (.join (.all [(2,(.all [(8,(.all [(9,.done)]))])),(8,(.all [(2,(.all [(9,.done)])),(9,(.rd 2 .done))]))]) (.all [(10,.done)])))))))))
def Dg:dM:=(.take 0 (.take 2 (.take 3 (.take 5 (.take 8 (.rd 4 (.take 6 (.rd 7 (.join (.all [(1,(.all [(9,(.all [(10,(.take 11 .done))]))])),(9,(.all [(1,(.all [(10,(.take 11 .done))])),(10,(.rd 1 (.take 11 .done)))]))]) (.all [(12,.done)]))))))))))
def Uu:dM:=(.take 0 (.take 1 (.take 3 (.take 5 (.join (.all [(2,(.rd 4 (.rd 6 (.all [(7,.done)])))),(4,(.all [(2,(.rd 6 (.all [(7,.done)]))),(6,(.all [(2,(.all [(7,.done)])),(7,(.all [(2,.done)]))]))])),(6,(.all [(2,(.rd 4 (.all [(7,.done)]))),(4,(.all [(2,(.all [(7,.done)])),(7,(.all [(2,.done)]))])),(7,(.all [(2,(.rd 4 .done)),(4,(.all [(2,.done)]))]))]))]) (.all [(8,(.all [(9,(.take 10 .done))]))]))))))
def Ut:dM:=(.take 0 (.take 2 (.take 5 (.take 7 (.rd 1 (.take 3 (.rd 4 (.take 10 (.join (.all [(6,(.take 8 (.all [(9,(.all [(11,(.take 12 .done))])),(11,(.rd 9 (.take 12 .done)))]))),(11,(.rd 6 (.take 8 (.rd 9 (.take 12 .done)))))]) (.all [(13,.done)]))))))))))
def RD:dM:=(.take 0 (.take 2 (.take 4 (.rd 1 (.take 6 (.join (.all [(3,(.all [(5,(.all [(7,(.take 8 (.all [(9,(.take 10 .done))])))])),(7,(.take 8 (.all [(5,(.all [(9,(.take 10 .done))])),(9,(.rd 5 (.take 10 .done)))])))])),(5,(.all [(3,(.all [(7,(.take 8 (.all [(9,(.take 10 .done))])))])),(7,(.rd 3 (.take 8 (.all [(9,(.take 10 .done))]))))])),(7,(.rd 3 (.take 8 (.all [(5,(.all [(9,(.take 10 .done))])),(9,(.rd 5 (.take 10 .done)))]))))]) (.all [(11,.done)])))))))
def RC:dM:=(.take 0 (.take 2 (.rd 1 (.take 4 (.join (.all [(3,(.all [(5,(.take 6 .done))])),(5,(.rd 3 (.take 6 .done)))]) (.all [(7,.done)]))))))
def RB:dM:=(.rd 0 (.join (.all [(1,(.all [(2,.done)])),(2,(.rd 1 .done))]) (.all [(3,.done)])))
def IY:dM:=(.take 0 (.take 2 (.take 4 (.rd 1 (.take 6 (.join (.all [(3,(.all [(5,(.all [(7,(.take 8 (.all [(9,(.take 10 .done))])))])),(7,(.take 8 (.all [(5,(.all [(9,(.take 10 .done))])),(9,(.rd 5 (.take 10 .done)))])))])),(5,(.all [(3,(.all [(7,(.take 8 (.all [(9,(.take 10 .done))])))])),(7,(.rd 3 (.take 8 (.all [(9,(.take 10 .done))]))))])),(7,(.rd 3 (.take 8 (.all [(5,(.all [(9,(.take 10 .done))])),(9,(.rd 5 (.take 10 .done)))]))))]) (.all [(11,.done)])))))))
def IX:dM:=(.take 0 (.take 2 (.rd 1 (.take 4 (.join (.all [(3,(.all [(5,(.take 6 .done))])),(5,(.rd 3 (.take 6 .done)))]) (.all [(7,.done)]))))))
def Df:dM:=(.take 0 (.take 2 (.rd 1 (.take 4 (.join (.all [(3,(.all [(5,(.take 6 .done))])),(5,(.rd 3 (.take 6 .done)))]) (.all [(7,.done)]))))))
def w4:dM:=(.take 0 (.take 2 (.take 5 (.rd 1 (.rd 3 (.rd 6 (.all [(4,(.take 8 (.all [(7,(.take 9 .done))]))),(7,(.all [(4,(.take 8 (.take 9 .done)))]))])))))))
def wZ:dM:=(.take 0 (.take 3 (.rd 1 (.rd 4 (.all [(2,(.take 6 (.all [(5,(.take 7 .done))]))),(5,(.all [(2,(.take 6 (.take 7 .done)))]))])))))
def Us:dM:=(.take 0 (.take 1 (.take 2 (.take 4 (.take 7 (.take 8 (.take 9 (.take 11 (.rd 3 (.take 5 (.rd 6 (.rd 10 (.take 12 (.rd 13 (.take 14 (.rd 15 (.all [(16,(.all [(17,.done)]))])))))))))))))))))
def Rz:dM:=(.take 0 (.take 1 (.take 2 (.take 4 (.take 7 (.take 8 (.take 9 (.take 11 (.rd 3 (.take 5 (.rd 6 (.rd 10 (.take 12 (.rd 13 (.take 14 (.rd 15 (.all [(16,(.all [(17,.done)]))])))))))))))))))))
def Ry:dM:=(.take 0 (.take 1 (.take 2 (.take 4 (.rd 3 (.take 6 (.take 7 (.join (.all [(5,(.all [(8,(.take 9 (.take 10 .done)))])),(8,(.rd 5 (.take 9 (.take 10 .done))))]) (.all [(11,.done)])))))))))
def Rx:dM:=(.take 0 (.take 1 (.take 2 (.take 4 (.take 7 (.take 8 (.take 9 (.take 11 (.rd 10 (.rd 12 (.take 13 (.rd 14 (.join (.all [(3,(.all [(5,(.all [(6,(.all [(15,(.take 16 .done))]))])),(6,(.all [(5,(.all [(15,(.take 16 .done))])),(15,(.rd 5 (.take 16 .done)))]))])),(5,(.all [(3,(.all [(6,(.all [(15,(.take 16 .done))]))])),(6,(.all [(3,(.all [(15,(.take 16 .done))])),(15,(.rd 3 (.take 16 .done)))]))])),(6,(.all [(3,(.all [(5,(.all [(15,(.take 16 .done))])),(15,(.rd 5 (.take 16 .done)))])),(5,(.all [(3,(.all [(15,(.take 16 .done))])),(15,(.rd 3 (.take 16 .done)))])),(15,(.rd 3 (.rd 5 (.take 16 .done))))]))]) (.all [(17,.done)]))))))))))))))
def Ur:dM:=(.take 0 (.take 1 (.take 2 (.take 3 (.take 5 (.take 9 (.take 10 (.take 11 (.take 13 (.rd 4 (.take 6 (.rd 7 (.rd 8 (.rd 12 (.take 14 (.rd 15 (.take 16 (.all [(17,(.all [(18,(.take 19 .done))]))]))))))))))))))))))
def Dm:dM:=(.take 0 (.take 1 (.take 2 (.take 4 (.take 5 (.rd 3 (.rd 6 (.rd 7 (.take 8 (.all [(9,(.take 10 (.all [(11,.done)])))]))))))))))
def Dl:dM:=(.take 0 (.take 1 (.take 2 (.take 4 (.join (.all [(3,(.all [(5,.done)])),(5,(.rd 3 .done))]) (.all [(6,(.all [(7,(.take 8 (.all [(9,.done)])))]))]))))))
def Dk:dM:=(.take 0 (.take 1 (.take 2 (.take 3 (.take 4 (.take 5 (.take 6 (.take 8 (.take 9 (.take 10 (.rd 7 (.rd 11 (.take 12 (.all [(13,(.take 14 (.all [(15,.done)])))]))))))))))))))
def pl6 (r:Nat):Option Way:=if r=21 then some (.calm) else none
theorem XJ:cA pl6 (Tryz.f6.body.getD .skip)=true:=by kernel_rfl
def pl7 (r:Nat):Option Way:=if r=8 then some (.plan RA) else none
theorem Rr:pl7 8=some (.plan RA):=rfl
theorem XI:cA pl7 (Tryz.f7.body.getD .skip)=true:=by kernel_rfl
def lO (r:Nat):Option Way:=if r=4 then some (.plan I1) else if r=8 then some (.plan I0) else if r=9 then some (.tail 7) else none
theorem NI:lO 4=some (.plan I1):=rfl
theorem NH:lO 8=some (.plan I0):=rfl
theorem NG:lO 9=some (.tail 7):=rfl
theorem T4:cA lO (Tryz.f10.body.getD .skip)=true:=by kernel_rfl
def IW (r:Nat):Option Way:=if r=4 then some (.reads) else none
theorem TZ:cA IW (Tryz.f12.body.getD .skip)=true:=by kernel_rfl
def Oh (r:Nat):Option Way:=if r=6 then some (.reads) else none
theorem TY:cA Oh (Tryz.f13.body.getD .skip)=true:=by kernel_rfl
def iV (r:Nat):Option Way:=if r=14 then some (.plan Dn) else if r=36 then some (.plan z3) else none
theorem IN:iV 14=some (.plan Dn):=rfl
theorem Bf:iV 36=some (.plan z3):=rfl
theorem TX:cA iV (Tryz.f19.body.getD .skip)=true:=by kernel_rfl
def Og (r:Nat):Option Way:=if r=8 then some (.calm) else none
theorem TW:cA Og (Tryz.f20.body.getD .skip)=true:=by kernel_rfl
def Of (r:Nat):Option Way:=if r=13 then some (.plan RH) else none
theorem TV:cA Of (Tryz.f22.body.getD .skip)=true:=by kernel_rfl
def Oe (r:Nat):Option Way:=if r=6 then some (.plan Uv) else if r=14 then some (.plan RG) else if r=18 then some (.plan RF) else if r=19 then some (.tail 54) else if r=29 then some (.tail 31) else none
theorem TU:cA Oe (Tryz.f23.body.getD .skip)=true:=by kernel_rfl
def rN (r:Nat):Option Way:=if r=6 then some (.reads) else if r=11 then some (.reads) else none
theorem NF:rN 6=some (.reads):=rfl
theorem IM:rN 11=some (.reads):=rfl
theorem TT:cA rN (Tryz.f25.body.getD .skip)=true:=by kernel_rfl
def vy (r:Nat):Option Way:=if r=8 then some (.reads) else none
theorem vR:vy 8=some (.reads):=rfl
theorem TS:cA vy (Tryz.f33.body.getD .skip)=true:=by kernel_rfl
def mu (r:Nat):Option Way:=if r=8 then some (.plan IZ) else if r=13 then some (.plan RE) else if r=15 then some (.tail 16) else if r=17 then some (.reads) else if r=20 then some (.tail 12) else if r=23 then some (.tail 6) else none
theorem ND:mu 8=some (.plan IZ):=rfl
theorem IL:mu 15=some (.tail 16):=rfl
theorem IK:mu 17=some (.reads):=rfl
theorem IJ:mu 20=some (.tail 12):=rfl
theorem II:mu 23=some (.tail 6):=rfl
theorem TR:cA mu (Tryz.f34.body.getD .skip)=true:=by kernel_rfl
def zZ (r:Nat):Option Way:=if r=7 then some (.calm) else none
theorem Er:zZ 7=some (.calm):=rfl
theorem TQ:cA zZ (Tryz.f37.body.getD .skip)=true:=by kernel_rfl
def yr (r:Nat):Option Way:=if r=2 then some (.reads) else if r=5 then some (.calm) else if r=7 then some (.calm) else none
theorem NC:yr 2=some (.reads):=rfl
theorem cW:yr 5=some (.calm):=rfl
theorem cV:yr 7=some (.calm):=rfl
theorem TP:cA yr (Tryz.f39.body.getD .skip)=true:=by kernel_rfl
def iE (r:Nat):Option Way:=if r=10 then some (.plan Dj) else if r=12 then some (.plan Di) else if r=14 then some (.plan Dh) else if r=22 then some (.plan Dg) else none
theorem IC:iE 10=some (.plan Dj):=rfl
theorem IB:iE 12=some (.plan Di):=rfl
theorem IA:iE 14=some (.plan Dh):=rfl
theorem Iz:iE 22=some (.plan Dg):=rfl
theorem TO:cA iE (Tryz.f42.body.getD .skip)=true:=by kernel_rfl
def Od (r:Nat):Option Way:=if r=1 then some (.plan Uu) else none
theorem TN:cA Od (Tryz.f52.body.getD .skip)=true:=by kernel_rfl
def Oc (r:Nat):Option Way:=if r=8 then some (.reads) else none
theorem TM:cA Oc (Tryz.f54.body.getD .skip)=true:=by kernel_rfl
def Ob (r:Nat):Option Way:=if r=8 then some (.plan Ut) else if r=10 then some (.plan RD) else if r=12 then some (.plan RC) else if r=13 then some (.plan RB) else none
theorem TL:cA Ob (Tryz.f55.body.getD .skip)=true:=by kernel_rfl
def o4 (r:Nat):Option Way:=if r=6 then some (.plan IY) else if r=7 then some (.calm) else if r=9 then some (.plan IX) else if r=10 then some (.calm) else if r=12 then some (.plan Df) else none
theorem NB:o4 6=some (.plan IY):=rfl
theorem cj:o4 7=some (.calm):=rfl
theorem NA:o4 9=some (.plan IX):=rfl
theorem bN:o4 10=some (.calm):=rfl
theorem Iy:o4 12=some (.plan Df):=rfl
theorem TK:cA o4 (Tryz.f62.body.getD .skip)=true:=by kernel_rfl
def m8 (r:Nat):Option Way:=if r=22 then some (.reads) else none
theorem Be:m8 22=some (.reads):=rfl
theorem TJ:cA m8 (Tryz.f66.body.getD .skip)=true:=by kernel_rfl
def wW (r:Nat):Option Way:=if r=11 then some (.plan w4) else if r=13 then some (.plan wZ) else none
theorem wV:wW 11=some (.plan w4):=rfl
theorem wU:wW 13=some (.plan wZ):=rfl
theorem TI:cA wW (Tryz.f75.body.getD .skip)=true:=by kernel_rfl
def Oa (r:Nat):Option Way:=if r=5 then some (.reads) else if r=6 then some (.plan Us) else if r=7 then some (.reads) else none
theorem TH:cA Oa (Tryz.f80.body.getD .skip)=true:=by kernel_rfl
def N9 (r:Nat):Option Way:=if r=12 then some (.plan Rz) else if r=17 then some (.plan Ry) else if r=19 then some (.plan Rx) else if r=22 then some (.reads) else if r=24 then some (.tail 12) else if r=26 then some (.tail 6) else none
theorem TF:cA N9 (Tryz.f82.body.getD .skip)=true:=by kernel_rfl
def N8 (r:Nat):Option Way:=if r=5 then some (.plan Ur) else none
theorem TE:cA N8 (Tryz.f83.body.getD .skip)=true:=by kernel_rfl
def yK (r:Nat):Option Way:=if r=1 then some (.reads) else none
theorem IH:yK 1=some (.reads):=rfl
theorem QP:cA yK (Tryz.f350.body.getD .skip)=true:=by kernel_rfl
def wX (r:Nat):Option Way:=if r=1 then some (.reads) else if r=2 then some (.plan Dm) else none
theorem IG:wX 1=some (.reads):=rfl
theorem IF:wX 2=some (.plan Dm):=rfl
theorem QO:cA wX (Tryz.f351.body.getD .skip)=true:=by kernel_rfl
def yJ (r:Nat):Option Way:=if r=0 then some (.plan Dl) else none
theorem IE:yJ 0=some (.plan Dl):=rfl
theorem QN:cA yJ (Tryz.f352.body.getD .skip)=true:=by kernel_rfl
def yI (r:Nat):Option Way:=if r=0 then some (.plan Dk) else none
theorem ID:yI 0=some (.plan Dk):=rfl
theorem QM:cA yI (Tryz.f353.body.getD .skip)=true:=by kernel_rfl
def oI:Code->List (Nat × Array Oper)
 | .region id ops true=>[(id,ops)]
 | .seq a b=>oI a++oI b
 | .cond _ a b=>oI a++oI b
 | .block _ b=>oI b
 | .loop b=>oI b
 | _=>[]
def yD (P:Program) (pl:Nat->Option Way):List (Nat × Array Oper)->Prop
 | []=>True
 | (id,ops)::l=>(match pl id with
   | some w=>zJ P ops w
   | none=>True)/\yD P pl l
theorem tL (P:Program) (pl:Nat->Option Way):∀ (l m:List (Nat × Array Oper)),yD P pl (l++m)->yD P pl l/\yD P pl m
 | [],_,h=>⟨trivial,h⟩
 | (id,ops)::l,m,h=>by
   have:=tL P pl l m h.2
   exact ⟨⟨h.1,this.1⟩,this.2⟩
theorem cT (P:Program) (pl:Nat->Option Way):∀ c:Code,yD P pl (oI c)->gk P pl c
 | .region _ _ true,h=>h.1
 | .region _ _ false,_=>trivial
 | .seq a b,h=>by have:=tL P pl _ _ h; exact ⟨cT P pl a this.1,cT P pl b this.2⟩
 | .cond _ x y,h=>by have:=tL P pl _ _ h; exact ⟨cT P pl x this.1,cT P pl y this.2⟩
 | .block _ b,h=>cT P pl b h
 | .loop b,h=>cT P pl b h
 | .skip,_=>trivial
 | .exit _,_=>trivial
 | .ret,_=>trivial
 | .rangeFunc ..,_=>trivial
 | .scope _,_=>trivial
 | .label _,_=>trivial
 | .goto _,_=>trivial
 | .refuse _,_=>trivial
def plain (pl:Nat->Option Way):Prop:=∀ id p l,pl id≠some (.known p l)
theorem bR {P:Program} {pl:Nat->Option Way} (h:plain pl):∀ l:List (Nat × Array Oper),yD P pl l
 | []=>trivial
 | (id,ops)::l=>by
   refine ⟨?_,bR h l⟩
   split
   · rename_i w hw
     cases w <;> first | trivial | exact absurd hw (h _ _ _)
   · trivial
theorem iJ:∀ c:Code,cA (fun _=>none) c=true
 | .region _ _ true=>rfl
 | .region _ _ false=>rfl
 | .seq a b=>by simp only [cA,iJ a,iJ b]; rfl
 | .cond _ x y=>by simp only [cA,iJ x,iJ y]; rfl
 | .block _ b=>by simp only [cA,iJ b]
 | .loop b=>by simp only [cA,iJ b]
 | .skip=>rfl
 | .exit _=>rfl
 | .ret=>rfl
 | .rangeFunc ..=>rfl
 | .scope _=>rfl
 | .label _=>rfl
 | .goto _=>rfl
 | .refuse _=>rfl
theorem Rt:plain pl6:=by
 intro id p l h
 unfold pl6 at h
 repeat' (split at h; (cases h))
 cases h
theorem Rs:plain pl7:=by
 intro id p l h
 unfold pl7 at h
 repeat' (split at h; (cases h))
 cases h
theorem N4:plain lO:=by
 intro id p l h
 unfold lO at h
 repeat' (split at h; (cases h))
 cases h
theorem N3:plain IW:=by
 intro id p l h
 unfold IW at h
 repeat' (split at h; (cases h))
 cases h
theorem N2:plain Oh:=by
 intro id p l h
 unfold Oh at h
 repeat' (split at h; (cases h))
 cases h
theorem N1:plain iV:=by
 intro id p l h
 unfold iV at h
 repeat' (split at h; (cases h))
 cases h
theorem N0:plain Og:=by
 intro id p l h
 unfold Og at h
 repeat' (split at h; (cases h))
 cases h
theorem NZ:plain Of:=by
 intro id p l h
 unfold Of at h
 repeat' (split at h; (cases h))
 cases h
theorem NY:plain Oe:=by
 intro id p l h
 unfold Oe at h
 repeat' (split at h; (cases h))
 cases h
theorem NX:plain rN:=by
 intro id p l h
 unfold rN at h
 repeat' (split at h; (cases h))
 cases h
theorem NW:plain vy:=by
 intro id p l h
 unfold vy at h
 repeat' (split at h; (cases h))
 cases h
theorem NV:plain mu:=by
 intro id p l h
 unfold mu at h
 repeat' (split at h; (cases h))
 cases h
theorem NU:plain zZ:=by
 intro id p l h
 unfold zZ at h
 repeat' (split at h; (cases h))
 cases h
theorem NT:plain yr:=by
 intro id p l h
 unfold yr at h
 repeat' (split at h; (cases h))
 cases h
theorem NS:plain iE:=by
 intro id p l h
 unfold iE at h
 repeat' (split at h; (cases h))
 cases h
theorem NR:plain Od:=by
 intro id p l h
 unfold Od at h
 repeat' (split at h; (cases h))
 cases h
theorem NQ:plain Oc:=by
 intro id p l h
 unfold Oc at h
 repeat' (split at h; (cases h))
 cases h
theorem NP:plain Ob:=by
 intro id p l h
 unfold Ob at h
 repeat' (split at h; (cases h))
 cases h
theorem NO:plain o4:=by
 intro id p l h
 unfold o4 at h
 repeat' (split at h; (cases h))
 cases h
theorem NN:plain m8:=by
 intro id p l h
 unfold m8 at h
 repeat' (split at h; (cases h))
 cases h
theorem NM:plain wW:=by
 intro id p l h
 unfold wW at h
 repeat' (split at h; (cases h))
 cases h
theorem NL:plain Oa:=by
 intro id p l h
 unfold Oa at h
 repeat' (split at h; (cases h))
 cases h
theorem NK:plain N9:=by
 intro id p l h
 unfold N9 at h
 repeat' (split at h; (cases h))
 cases h
theorem NJ:plain N8:=by
 intro id p l h
 unfold N8 at h
 repeat' (split at h; (cases h))
 cases h
theorem IU:plain yK:=by
 intro id p l h
 unfold yK at h
 repeat' (split at h; (cases h))
 cases h
theorem IT:plain wX:=by
 intro id p l h
 unfold wX at h
 repeat' (split at h; (cases h))
 cases h
theorem IS:plain yJ:=by
 intro id p l h
 unfold yJ at h
 repeat' (split at h; (cases h))
 cases h
theorem IQ:plain yI:=by
 intro id p l h
 unfold yI at h
 repeat' (split at h; (cases h))
 cases h
def plN:Nat->Option Way:=fun _=>none
def plQ (f:FuncId):Nat->Option Way:=if f=6 then pl6 else if f=7 then pl7 else if f=10 then lO else if f=12 then IW else if f=13 then Oh else if f=19 then iV else if f=20 then Og else if f=22 then Of else if f=23 then Oe else if f=25 then rN else if f=33 then vy else if f=34 then mu else if f=37 then zZ else if f=39 then yr else if f=42 then iE else if f=52 then Od else if f=54 then Oc else if f=55 then Ob else if f=62 then o4 else if f=66 then m8 else if f=75 then wW else if f=80 then Oa else if f=82 then N9 else if f=83 then N8 else if f=350 then yK else if f=351 then wX else if f=352 then yJ else if f=353 then yI else plN
theorem Rv (f:FuncId) (fn:Func) (c:Code) (hf:aa.funcs[f]? =some fn) (hc:fn.body=some c):cA (plQ f) c=true/\gk aa (plQ f) c:=by
 by_cases h6:f=6
 · subst h6
   obtain rfl:=aC (Tryz.func6.symm.trans hf)
   have:=XJ
   rw [hc] at this; exact ⟨this,cT _ _ _ (bR Rt _)⟩
 by_cases h7:f=7
 · subst h7
   obtain rfl:=aC (Tryz.func7.symm.trans hf)
   have:=XI
   rw [hc] at this; exact ⟨this,cT _ _ _ (bR Rs _)⟩
 by_cases h10:f=10
 · subst h10
   obtain rfl:=aC (Tryz.func10.symm.trans hf)
   have:=T4
   rw [hc] at this; exact ⟨this,cT _ _ _ (bR N4 _)⟩
 by_cases h12:f=12
 · subst h12
   obtain rfl:=aC (Tryz.func12.symm.trans hf)
   have:=TZ
   rw [hc] at this; exact ⟨this,cT _ _ _ (bR N3 _)⟩
 by_cases h13:f=13
 · subst h13
   obtain rfl:=aC (Tryz.func13.symm.trans hf)
   have:=TY
   rw [hc] at this; exact ⟨this,cT _ _ _ (bR N2 _)⟩
 by_cases h19:f=19
 · subst h19
   obtain rfl:=aC (Tryz.func19.symm.trans hf)
   have:=TX
   rw [hc] at this; exact ⟨this,cT _ _ _ (bR N1 _)⟩
 by_cases h20:f=20
 · subst h20
   obtain rfl:=aC (Tryz.func20.symm.trans hf)
   have:=TW
   rw [hc] at this; exact ⟨this,cT _ _ _ (bR N0 _)⟩
 by_cases h22:f=22
 · subst h22
   obtain rfl:=aC (Tryz.func22.symm.trans hf)
   have:=TV
   rw [hc] at this; exact ⟨this,cT _ _ _ (bR NZ _)⟩
 by_cases h23:f=23
 · subst h23
   obtain rfl:=aC (Tryz.func23.symm.trans hf)
   have:=TU
   rw [hc] at this; exact ⟨this,cT _ _ _ (bR NY _)⟩
 by_cases h25:f=25
 · subst h25
   obtain rfl:=aC (Tryz.func25.symm.trans hf)
   have:=TT
   rw [hc] at this; exact ⟨this,cT _ _ _ (bR NX _)⟩
 by_cases h33:f=33
 · subst h33
   obtain rfl:=aC (Tryz.func33.symm.trans hf)
   have:=TS
   rw [hc] at this; exact ⟨this,cT _ _ _ (bR NW _)⟩
 by_cases h34:f=34
 · subst h34
   obtain rfl:=aC (Tryz.func34.symm.trans hf)
   have:=TR
   rw [hc] at this; exact ⟨this,cT _ _ _ (bR NV _)⟩
 by_cases h37:f=37
 · subst h37
   obtain rfl:=aC (Tryz.func37.symm.trans hf)
   have:=TQ
   rw [hc] at this; exact ⟨this,cT _ _ _ (bR NU _)⟩
 by_cases h39:f=39
 · subst h39
   obtain rfl:=aC (Tryz.func39.symm.trans hf)
   have:=TP
   rw [hc] at this; exact ⟨this,cT _ _ _ (bR NT _)⟩
 by_cases h42:f=42
 · subst h42
   obtain rfl:=aC (Tryz.func42.symm.trans hf)
   have:=TO
   rw [hc] at this; exact ⟨this,cT _ _ _ (bR NS _)⟩
 by_cases h52:f=52
 · subst h52
   obtain rfl:=aC (Tryz.func52.symm.trans hf)
   have:=TN
   rw [hc] at this; exact ⟨this,cT _ _ _ (bR NR _)⟩
 by_cases h54:f=54
 · subst h54
   obtain rfl:=aC (Tryz.func54.symm.trans hf)
   have:=TM
   rw [hc] at this; exact ⟨this,cT _ _ _ (bR NQ _)⟩
 by_cases h55:f=55
 · subst h55
   obtain rfl:=aC (Tryz.func55.symm.trans hf)
   have:=TL
   rw [hc] at this; exact ⟨this,cT _ _ _ (bR NP _)⟩
 by_cases h62:f=62
 · subst h62
   obtain rfl:=aC (Tryz.func62.symm.trans hf)
   have:=TK
   rw [hc] at this; exact ⟨this,cT _ _ _ (bR NO _)⟩
 by_cases h66:f=66
 · subst h66
   obtain rfl:=aC (Tryz.func66.symm.trans hf)
   have:=TJ
   rw [hc] at this; exact ⟨this,cT _ _ _ (bR NN _)⟩
 by_cases h75:f=75
 · subst h75
   obtain rfl:=aC (Tryz.func75.symm.trans hf)
   have:=TI
   rw [hc] at this; exact ⟨this,cT _ _ _ (bR NM _)⟩
 by_cases h80:f=80
 · subst h80
   obtain rfl:=aC (Tryz.func80.symm.trans hf)
   have:=TH
   rw [hc] at this; exact ⟨this,cT _ _ _ (bR NL _)⟩
 by_cases h82:f=82
 · subst h82
   obtain rfl:=aC (Tryz.func82.symm.trans hf)
   have:=TF
   rw [hc] at this; exact ⟨this,cT _ _ _ (bR NK _)⟩
 by_cases h83:f=83
 · subst h83
   obtain rfl:=aC (Tryz.func83.symm.trans hf)
   have:=TE
   rw [hc] at this; exact ⟨this,cT _ _ _ (bR NJ _)⟩
 by_cases h350:f=350
 · subst h350
   obtain rfl:=aC (Tryz.func350.symm.trans hf)
   have:=QP
   rw [hc] at this; exact ⟨this,cT _ _ _ (bR IU _)⟩
 by_cases h351:f=351
 · subst h351
   obtain rfl:=aC (Tryz.func351.symm.trans hf)
   have:=QO
   rw [hc] at this; exact ⟨this,cT _ _ _ (bR IT _)⟩
 by_cases h352:f=352
 · subst h352
   obtain rfl:=aC (Tryz.func352.symm.trans hf)
   have:=QN
   rw [hc] at this; exact ⟨this,cT _ _ _ (bR IS _)⟩
 by_cases h353:f=353
 · subst h353
   obtain rfl:=aC (Tryz.func353.symm.trans hf)
   have:=QM
   rw [hc] at this; exact ⟨this,cT _ _ _ (bR IQ _)⟩
 have hq:plQ f=plN:=by unfold plQ; rw [if_neg h6,if_neg h7,if_neg h10,if_neg h12,if_neg h13,if_neg h19,if_neg h20,if_neg h22,if_neg h23,if_neg h25,if_neg h33,if_neg h34,if_neg h37,if_neg h39,if_neg h42,if_neg h52,if_neg h54,if_neg h55,if_neg h62,if_neg h66,if_neg h75,if_neg h80,if_neg h82,if_neg h83,if_neg h350,if_neg h351,if_neg h352,if_neg h353]
 rw [hq]
 exact ⟨iJ c,cT _ _ _ (bR (by intro _ _ _ h; cases h) _)⟩
noncomputable def W0:o6 aa:=⟨plQ,Rv⟩
end Go.Dv
namespace Go.Dv
def cb {α:Type} (b:Bool) (x y:α):α:=cond b x y
def br {α:Type} (b:Bool) (x y:α):α:=cond b x y
theorem bP {α:Type} {b b':Bool} (h:b=b') (x y:α):cb b x y=cb b' x y:=by rw [h]
theorem Fk {α:Type} (b:Bool) (x y:α):cb b x y=br b x y:=rfl
theorem eh {α:Type} (x y:α):br true x y=x:=rfl
theorem cZ {α:Type} (x y:α):br false x y=y:=rfl
theorem AD {α:Type} (b:Bool) (x y:α):br (!b) x y=br b y x:=by cases b <;> rfl
theorem bQ {α:Type} {b b':Bool} {x x' y y':α} (h:b=b') (hx:b'=true->x=x') (hy:b'=false->y=y'):br b x y=br b' x' y':=by
 subst h; cases b
 · exact hy rfl
 · exact hx rfl
theorem wg {α β:Type} (b:Bool) (x y:Option α) (k:α->Option β):(br b x y).bind k=br b (x.bind k) (y.bind k):=by cases b <;> rfl
theorem wc (b x y:Bool) (H:AH):br b (some (AV.bool x,H)) (some (AV.bool y,H))=some (.bool (br b x y),H):=by cases b <;> rfl
theorem AE (b:Bool) (k:IntKind) (x y:Int) (H:AH):br b (some (AV.int k x,H)) (some (AV.int k y,H))=some (.int k (br b x y),H):=by cases b <;> rfl
theorem v5 (b x y x' y':Bool) (H:AH):br b (some (AV.tuple [.bool x,.bool y],H)) (some (AV.tuple [.bool x',.bool y'],H))=some (.tuple [.bool (br b x x'),.bool (br b y y')],H):=by cases b <;> rfl
theorem vZ (b x y z x' y' z':Bool) (H:AH):br b (some (AV.tuple [.bool x,.bool y,.bool z],H)) (some (AV.tuple [.bool x',.bool y',.bool z'],H))=some (.tuple [.bool (br b x x'),.bool (br b y y'),.bool (br b z z')],H):=by cases b <;> rfl
def ltB (a b:Int):Bool:=decide (a < b)
def leB (a b:Int):Bool:=decide (a<=b)
def eqB (a b:Int):Bool:=a == b
theorem Ah (k:IntKind) (a b:Int):eV .lss k a b=some (.bool (ltB a b)):=rfl
theorem Ai (k:IntKind) (a b:Int):eV .leq k a b=some (.bool (leB a b)):=rfl
theorem Aj (k:IntKind) (a b:Int):eV .gtr k a b=some (.bool (ltB b a)):=rfl
theorem Ak (k:IntKind) (a b:Int):eV .geq k a b=some (.bool (leB b a)):=rfl
theorem Al (k:IntKind) (a b:Int):eV .eql k a b=some (.bool (eqB a b)):=rfl
theorem Ag (k:IntKind) (a b:Int):eV .neq k a b=some (.bool (!eqB a b)):=rfl
theorem Am (k:IntKind) (a b:Int):eV .add k a b=some (.int k (k.wrap (a+b))):=rfl
theorem Af (k:IntKind) (a b:Int):eV .sub k a b=some (.int k (k.wrap (a - b))):=rfl
theorem cQ {a b:Int} (h:a < b):ltB a b=true:=by simp [ltB,h]
theorem db {a b:Int} (h:b<=a):ltB a b=false:=by simp [ltB]; omega
theorem yQ {a b:Int} (h:a<=b):leB a b=true:=by simp [leB,h]
theorem UU {a b:Int} (h:b < a):leB a b=false:=by simp [leB]; omega
theorem ve {a b:Int} (h:a=b):eqB a b=true:=by simp [eqB,h]
theorem jh {a b:Int} (h:a≠b):eqB a b=false:=by simp [eqB,h]
theorem dC (a b:Int):ltB a b=true↔a < b:=by simp [ltB]
theorem dp (a b:Int):leB a b=true↔a<=b:=by simp [leB]
theorem cX (a b:Int):eqB a b=true↔a=b:=by simp [eqB]
theorem fe (a b:Int):ltB a b=false↔b<=a:=by simp [ltB]
theorem nL (a b:Int):leB a b=false↔b < a:=by simp [leB]
theorem pL (a b:Int):eqB a b=false↔a≠b:=by simp [eqB]
def vh {α:Type} (v:AV) (x y:Option α):Option α:=match v with
 | .bool b=>cb b x y
 | _=>none
theorem bj {α:Type} {v v':AV} (h:v=v') (x y:Option α):vh v x y=vh v' x y:=by rw [h]
theorem iS {α:Type} (b:Bool) (x y:Option α):vh (.bool b) x y=cb b x y:=rfl
def gd {α:Type} (y:Option Bool) (b:Bool) (x z:α):α:=if y == some b then x else z
theorem lU:AF uA=none:=rfl
theorem bO {α:Type} {y y':Option Bool} (h:y=y') (b:Bool) (x z:α):gd y b x z=gd y' b x z:=by rw [h]
theorem BJ {α:Type} (c:Bool) (x z:α):gd (some c) true x z=cb c x z:=by cases c <;> rfl
theorem BK {α:Type} (c:Bool) (x z:α):gd (some c) false x z=cb c z x:=by cases c <;> rfl
theorem mQ {α:Type} (b:Bool) (x z:α):gd none b x z=z:=by cases b <;> rfl
section
variable {P:Program} {C:Cfg P} {W:o6 P} {pl:Nat->Option Way}
theorem qL (q:Operand) (x y:Code) (s:St):EvC P C W pl (.cond q x y) s=(cz C.gl s.1 q).bind fun v=>vh v (EvC P C W pl x s) (EvC P C W pl y s):=by
 rw [MC]
 cases cz C.gl s.1 q with
 | none=>rfl
 | some v=>cases v <;> first | rfl | (rename_i b; cases b <;> rfl)
theorem lJ (call:bT) (slot:Option Nat) (ops:Array Oper) (dst:Option Tmp) (op:Op) (ty:TypeId) (pos:String) (after:Array Edge) (j:Nat) (b:Bool) (tm:List AV) (H:AH) :
   uQ P C call slot ops ⟨dst,op,ty,pos,after,some (j,b)⟩ (tm,H)=gd (cL ops tm j) b ((aop P C slot (cz C.gl tm) ⟨dst,op,ty,pos,after,some (j,b)⟩ H).bind fun r=>match r with
     | (.val v,H')=>some (dY dst v tm,H')
     | (.skip,H')=>some (dY dst uA tm,H')
     | (.enter f args,H')=>(call f args H').bind fun r=>some (dY dst r.1 tm,r.2))
     (some (dY dst uA tm,H)):=rfl
theorem bX (gl:GL) (ops:Array Oper) (dst:Option Tmp) (op:Op) (ty:TypeId) (pos:String) (after:Array Edge) (j:Nat) (b:Bool) (tm:List AV):Dc P gl ops ⟨dst,op,ty,pos,after,some (j,b)⟩ tm=gd (cL ops tm j) b (cB P (cz gl tm) ⟨dst,op,ty,pos,after,some (j,b)⟩) (some uA):=rfl
theorem kH (gl:GL) (ops:Array Oper) (dst:Option Tmp) (op:Op) (ty:TypeId) (pos:String) (after:Array Edge) (j:Nat) (b:Bool) (os:List Oper) (tm:List AV) (H:AH):jj P gl ops (⟨dst,op,ty,pos,after,some (j,b)⟩::os) (tm,H) =
   gd (cL ops tm j) b ((eY P (cz gl tm) ⟨dst,op,ty,pos,after,some (j,b)⟩ H).bind fun v=>jj P gl ops os (dY dst v tm,H)) (jj P gl ops os (dY dst uA tm,H)):=rfl
theorem kK (call:bT) (ops:Array Oper) (dst:Option Tmp) (op:Op) (ty:TypeId) (pos:String) (after:Array Edge) (j:Nat) (b:Bool) (os:List Oper) (tm:List AV) (H:AH):gE P C call ops (⟨dst,op,ty,pos,after,some (j,b)⟩::os) (tm,H) =
   gd (cL ops tm j) b ((gz P C call (cz C.gl tm) ⟨dst,op,ty,pos,after,some (j,b)⟩ H).bind fun v=>gE P C call ops os (dY dst v tm,H)) (gE P C call ops os (dY dst uA tm,H)):=rfl
section
variable (slot:Option Nat) (ev:Operand->Option AV) (dst:Option Tmp) (ty:TypeId) (pos:String) (after:Array Edge) (g:Option (Nat × Bool)) (H:AH)
theorem qF (c a b:Operand):aop P C slot ev ⟨dst,.pick c a b,ty,pos,after,g⟩ H=(ev c).bind fun cv=>vh cv ((ev a).map fun v=>(.val v,H)) ((ev b).map fun v=>(.val v,H)):=by
 rw [Mq]
 cases ev c with
 | none=>rfl
 | some v=>cases v <;> first | rfl | (rename_i b; cases b <;> rfl)
theorem e9 (c a b:Operand):cB P ev ⟨dst,.pick c a b,ty,pos,after,g⟩=(ev c).bind fun cv=>vh cv (ev a) (ev b):=by
 rw [Rp]
 cases ev c with
 | none=>rfl
 | some v=>cases v <;> first | rfl | (rename_i b; cases b <;> rfl)
theorem sE (c a b:Operand):eY P ev ⟨dst,.pick c a b,ty,pos,after,g⟩ H=(ev c).bind fun cv=>vh cv (ev a) (ev b):=e9 (P:=P) ev dst ty pos after g c a b
end
theorem E3 {H G:AH} {v:AV} (h:ox H v=true):kj true H (v,G)=some (v,H):=by
 unfold kj
 simp only [if_true,h]
theorem th (call:bT) (ev:Operand->Option AV) (dst:Option Tmp) (ty:TypeId) (pos:String) (after:Array Edge) (g:Option (Nat × Bool)) (H:AH) (c a b:Operand):gz P C call ev ⟨dst,.pick c a b,ty,pos,after,g⟩ H=(ev c).bind fun cv=>vh cv (ev a) (ev b):=e9 (P:=P) ev dst ty pos after g c a b
theorem gT (H G:AH) (b:Bool):kj true H (.bool b,G)=some (.bool b,H):=rfl
theorem vU (H G:AH) (k:IntKind) (n:Int):kj true H (.int k n,G)=some (.int k n,H):=rfl
theorem s9 (H G:AH) (a b:Bool):kj true H (.tuple [.bool a,.bool b],G)=some (.tuple [.bool a,.bool b],H):=rfl
theorem s8 (H G:AH) (a b c:Bool):kj true H (.tuple [.bool a,.bool b,.bool c],G)=some (.tuple [.bool a,.bool b,.bool c],H):=rfl
theorem Ar (H G:AH) (a:Bool) (k:IntKind) (n:Int):kj true H (.tuple [.bool a,.int k n],G)=some (.tuple [.bool a,.int k n],H):=rfl
end
end Go.Dv
namespace Go.Dv
open Go.Proofs
theorem Je:aa.funcs.toList.all (fun g=>!(g.name == "runtime.NumGoroutine"))=true:=by kernel_rfl
theorem Ez (f:Nat) (g:Func) (h:aa.funcs[f]? =some g):(g.name == "runtime.NumGoroutine")=false:=by
 have:=List.all_eq_true.1 Je g (by
   have h':aa.funcs.toList[f]? =some g:=by simpa using h
   exact List.mem_of_getElem? h')
 simpa using this
def d4:List AV:=Lib.asciiSpaceTab.map fun n=>.int .u8 n
def dg:List ByteArray:=[⟨#[102,117,110,99]⟩,⟨#[107,101,114,110,101,108]⟩,⟨#[98,117,102,102,101,114]⟩,⟨#[105,110,116]⟩,⟨#[115,104,97,114,101,100]⟩,⟨#[108,101,116]⟩,⟨#[105,102]⟩,⟨#[101,108,115,101]⟩,⟨#[119,104,105,108,101]⟩,⟨#[98,114,101,97,107]⟩,⟨#[99,111,110,116,105,110,117,101]⟩,⟨#[114,101,116,117,114,110]⟩,⟨#[98,97,114,114,105,101,114]⟩,⟨#[97,116,111,109,105,99]⟩,⟨#[99,111,108,108,101,99,116]⟩,⟨#[116,105,100]⟩,⟨#[98,105,100]⟩,⟨#[100,105,109]⟩,⟨#[103,114,105,100]⟩,⟨#[109,105,110]⟩,⟨#[109,97,120]⟩,⟨#[97,100,100]⟩,⟨#[97,110,100]⟩,⟨#[111,114]⟩,⟨#[120,111,114]⟩]
def tI:List (AV × AV × Nat):=(List.zip dg (List.range 25)).map fun p=>(.str p.1,.bool true,p.2)
def vK:bT:=fun f args H=>match args with
 | []=>if f=130 then some (.map H.length,H++[.map tI 25]) else none
 | _=>none
noncomputable def K1:Cfg aa:={ gl:=fun x=>if x=0 then some 0 else none,pin:=nT 0 d4,orc:=fun _ _ _=>none,orcOk:=(by intro _ _ _ _ _ _ _ _ h; cases h),meth:=fun _ _=>none,methOk:=(by intro t n f h; cases h),name:=Ez,mixed:=Tryz.checked.mixed,pinRo:=fun w0 Pr φ H w h hW=>nT.later h hW }
theorem Eh:AM K1 [.arg d4]:=C3 rfl rfl
theorem bL {f:Nat} (h:(aa.funcs[f]?).map (fun fn=>fn.body.isSome)=some true) (C:Cfg aa) (slot:Option Nat) (ev:Operand->Option AV) (H:AH) (o:Oper) (xs:Array Operand) (ats:Array TypeId)
   (he:ev (.func f)=some (.func (.func f) [] [])):fN aa C slot ev o ⟨.value (.func f),xs,ats⟩ H=(evL ev xs.toList).map fun vs=>(.enter f vs,H):=WW h slot ev H o xs ats he
end Go.Dv
namespace Go.Dv
section
variable {P:Program} {C:Cfg P} {W:o6 P} {pl:Nat->Option Way}
theorem r9 {n:Nat} {c:Code} {s:St} {r:bu × St} (h:evC P C (ct P C W n) pl n c s=some r):EvC P C W pl c s=some r:=tZ (fc cp c s) h
def lB (P:Program) (C:Cfg P) (W:o6 P) (pl:Nat->Option Way) (n:Nat) (b:Code):Nat->St->Option St
 | 0,s=>some s
 | k+1,s=>match evC P C (ct P C W n) pl n b s with
   | some (.normal,s')=>lB P C W pl n b k s'
   | _=>none
theorem gJ {n:Nat} {b:Code}:∀ (k:Nat) {s s':St},lB P C W pl n b k s=some s'->EvC P C W pl (.loop b) s=EvC P C W pl (.loop b) s'
 | 0,s,s',h=>by cases h; rfl
 | k+1,s,s',h=>by
   unfold lB at h
   split at h
   · rename_i s1 h1
     rw [bk,r9 h1]
     exact gJ k h
   · cases h
end
end Go.Dv
namespace Go.Dv
def zY (es:List (AV × AV × Nat)):Bool:=es.all fun e=>(toV e.1).isSome && (toV e.2.1).isSome
theorem Mz {φ ψ:Env}:∀ (es:List (AV × AV × Nat)) (l:List MapEntry),zY es=true->MR φ es l->MR ψ es l
 | [],_,_,r=>r
 | (_,_,_)::es,_,h,⟨e,l',q,rk,rv,rn,rs⟩=>by
   simp only [zY,List.all_cons,Bool.and_eq_true] at h
   exact ⟨e,l',q,zM h.1.1 rk,zM h.1.2 rv,rn,Mz es _ h.2 rs⟩
def BM (f:FuncId) (es:List (AV × AV × Nat)) (n:Nat):bT:=fun g args H=>match args with
 | []=>if g=f then some (.map H.length,H++[.map es n]) else none
 | _=>none
theorem BL {P:Program} {C:Cfg P} {W:o6 P} {G:AH} (hst:AM C G) {f:FuncId} {i n:Nat} {es:List (AV × AV × Nat)} {G':AH} (he:Ev P C W f [] G=some (.map i,G')) (hi:G'[i]? =some (.map es n)) (hes:zY es=true) (gl:GL) (w0:World) (Pr:Nat->Prop) (hpin:C.pin w0 Pr):iq P gl w0 Pr (BM f es n):=by
 intro g args H v H' h φ w vs _ hW hr
 unfold BM at h
 split at h
 · split at h
   · rename_i hg
     cases h
     subst hg
     have hv:vs=#[]:=by
       have:=hr.length
       simp at this; exact Array.eq_empty_of_size_eq_zero this.symm
     subst hv
     obtain ⟨φ0,hW0,hg0,hp0⟩:=hst w0 Pr φ H w hpin hW
     have:=CH hp0 g [] G _ _ he φ0 w #[] hg0 hW0 (.nil _)
     refine this.mono fun e w' hw=>?_
     obtain ⟨φ',u,hle,he,hu,hW'⟩:=hw
     have hL:=hW.later hW'.size hW'.old hW'.os hW'.tape hW'.output
     obtain ⟨b,z,es',hφ,hb,hm⟩:=hW'.obj i _ hi
     have hown:jM G' i:=⟨_,hi,rfl⟩
     have hnp:=hW'.own i _ hown hφ
     simp only [Nat.not_lt] at hnp
     have hbs:=hW'.lt i _ hφ
     obtain ⟨hl,hA⟩:=hL.Qv (slot:=none) (o:=.map es n) (i:=H.length) (H':=H++[.map es n]) rfl (b:=b) (off:=0) (z:=z) hbs (fun hp=>by
       have h1:=hW.prLt b hp
       have h2:=hW.size
       omega) (fun j x _ hx e=>by
       have:=hW.lt j x hx
       omega) ⟨b,z,es',Env.dU _ _ _,hb,Mz es _ hes hm⟩ rfl
     obtain ⟨b',z',h2,rfl⟩:=hu
     rw [hφ] at h2
     cases h2
     exact ⟨_,_,hl,he,⟨b,z,Env.dU _ _ _,rfl⟩,hA⟩
   · cases h
 · cases h
end Go.Dv
