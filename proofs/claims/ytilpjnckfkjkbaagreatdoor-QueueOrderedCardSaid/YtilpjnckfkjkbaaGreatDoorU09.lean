/- Part 09 of the walks (own work). -/
import Derived.Test.YtilpjnckfkjkbaaGreatDoorU08
import Derived.Test.YtilpjnckfkjkbaaGreatDoorProg
import Derived.KernelRfl
import Derived.Test.YtilpjnckfkjkbaaGreatDoorChecked
import Derived.Lib.Space
open Option.some renaming inj→aB
open Go.Proofs.Tryz renaming prog→aa
set_option maxRecDepth 100000
set_option maxHeartbeats 4000000
set_option linter.unusedSimpArgs false
set_option linter.unusedVariables false
open Go.Proofs.Tryz (f10 f12 f13 f19 f20 f22 f23 f25 f33 f34 f37 f39 f42 f52 f54 f55 f6 f62 f66 f7 f75 f80 f82 f83 func6 func7)
namespace Go.Dv
open Go.Proofs
set_option maxRecDepth 1000000
def abQ:ep:=(.take 0 (.take 2 (.take 4 (.rd 1 (.rd 3 (.take 5 (.rd 6 (.all [(7,(.all [(8,(.take 9 (.all [(10,.done)])))]))]))))))))
def Lm:ep:=(.take 0 (.take 2 (.take 5 (.join (.all [(1,(.all [(3,(.rd 4 (.rd 6 (.all [(7,.done)])))),(4,(.all [(3,(.rd 6 (.all [(7,.done)]))),(6,(.all [(3,(.all [(7,.done)])),(7,(.all [(3,.done)]))]))])),(6,(.all [(3,(.rd 4 (.all [(7,.done)]))),(4,(.all [(3,(.all [(7,.done)])),(7,(.all [(3,.done)]))])),(7,(.all [(3,(.rd 4 .done)),(4,(.all [(3,.done)]))]))]))])),(4,(.all [(1,(.all [(3,(.rd 6 (.all [(7,.done)]))),(6,(.all [(3,(.all [(7,.done)])),(7,(.all [(3,.done)]))]))])),(6,(.all [(1,(.all [(3,(.all [(7,.done)])),(7,(.all [(3,.done)]))])),(7,(.all [(1,(.all [(3,.done)]))]))]))])),(6,(.all [(1,(.all [(3,(.rd 4 (.all [(7,.done)]))),(4,(.all [(3,(.all [(7,.done)])),(7,(.all [(3,.done)]))])),(7,(.all [(3,(.rd 4 .done)),(4,(.all [(3,.done)]))]))])),(4,(.all [(1,(.all [(3,(.all [(7,.done)])),(7,(.all [(3,.done)]))])),(7,(.all [(1,(.all [(3,.done)]))]))])),(7,(.all [(1,(.all [(3,(.rd 4 .done)),(4,(.all [(3,.done)]))])),(4,(.all [(1,(.all [(3,.done)]))]))]))]))]) (.all [(8,(.all [(9,(.take 10 .done))]))])))))
def Ll:ep:=(.take 0 (.take 3 (.take 6 (.rd 1 (.join (.all [(2,(.rd 4 (.all [(5,(.rd 7 (.take 9 .done))),(7,(.take 9 (.all [(5,.done)])))]))),(4,(.all [(2,(.all [(5,(.rd 7 (.take 9 .done))),(7,(.take 9 (.all [(5,.done)])))])),(7,(.all [(2,(.take 9 (.all [(5,.done)])))]))])),(7,(.all [(2,(.rd 4 (.take 9 (.all [(5,.done)])))),(4,(.all [(2,(.take 9 (.all [(5,.done)])))]))]))]) (.all [(8,(.all [(10,(.take 11 (.all [(12,(.take 13 (.all [(14,.done)])))])))]))]))))))
def Bc:ep:=(.take 0 (.take 1 (.take 2 (.take 3 (.take 4 (.rd 5 (.take 6 (.take 7 (.take 8 (.rd 9 (.take 10 (.all [(11,(.take 12 (.all [(13,.done)])))]))))))))))))
def EP:ep:=(.take 0 (.take 1 (.take 2 (.take 3 (.take 4 (.rd 5 (.take 6 (.take 7 (.take 8 (.rd 9 (.take 10 (.all [(11,(.take 12 (.all [(13,.done)])))]))))))))))))
def ER:ep:=(.take 0 (.take 4 (.rd 1 (.rd 2 (.rd 5 (.rd 6 (.all [(3,(.take 8 (.all [(7,(.take 9 .done))]))),(7,(.all [(3,(.take 8 (.take 9 .done)))]))])))))))
def Lk:ep:=(.take 0 (.take 1 (.take 2 (.take 3 (.take 4 (.take 8 (.take 9 (.take 10 (.take 11 (.rd 5 (.take 6 (.rd 7 (.rd 12 (.take 13 (.rd 14 (.all [(15,(.all [(16,.done)]))]))))))))))))))))
def EO:ep:=(.take 0 (.take 1 (.take 2 (.take 3 (.take 4 (.take 8 (.take 9 (.take 10 (.take 11 (.rd 5 (.take 6 (.rd 7 (.rd 12 (.take 13 (.rd 14 (.all [(15,(.all [(16,.done)]))]))))))))))))))))
def EN:ep:=(.take 0 (.take 1 (.take 2 (.take 3 (.take 4 (.take 8 (.take 9 (.take 10 (.take 11 (.rd 5 (.take 6 (.rd 7 (.rd 12 (.take 13 (.rd 14 (.all [(15,(.all [(16,.done)]))]))))))))))))))))
def Lj:ep:=(.take 0 (.take 1 (.take 2 (.take 4 (.take 7 (.take 8 (.take 9 (.take 11 (.rd 3 (.take 5 (.rd 6 (.rd 10 (.take 12 (.rd 13 (.take 14 (.rd 15 (.all [(16,(.all [(17,.done)]))])))))))))))))))))
def U8:ep:=(.take 0 (.take 1 (.take 2 (.take 4 (.rd 3 (.take 6 (.take 7 (.join (.all [(5,(.all [(8,(.take 9 (.take 10 .done)))])),(8,(.rd 5 (.take 9 (.take 10 .done))))]) (.all [(11,.done)])))))))))
def EJ:ep:=(.take 0 (.take 5 (.rd 1 (.rd 2 (.join (.all [(3,(.all [(4,(.rd 6 (.take 9 (.all [(7,.done)])))),(6,(.all [(4,(.take 9 (.all [(7,.done)]))),(7,(.all [(4,(.take 9 .done))]))])),(7,(.all [(4,(.rd 6 (.take 9 .done))),(6,(.all [(4,(.take 9 .done))]))]))])),(6,(.all [(3,(.all [(4,(.take 9 (.all [(7,.done)]))),(7,(.all [(4,(.take 9 .done))]))])),(7,(.all [(3,(.all [(4,(.take 9 .done))]))]))])),(7,(.all [(3,(.all [(4,(.rd 6 (.take 9 .done))),(6,(.all [(4,(.take 9 .done))]))])),(6,(.all [(3,(.all [(4,(.take 9 .done))]))]))]))]) (.all [(8,(.all [(10,(.take 11 (.all [(12,.done)])))]))]))))))
def EI:ep:=(.take 0 (.take 2 (.take 3 (.take 4 (.take 6 (.take 7 (.take 10 (.rd 5 (.take 8 (.rd 9 (.join (.all [(1,(.all [(11,(.all [(12,(.take 13 .done))]))])),(11,(.all [(1,(.all [(12,(.take 13 .done))])),(12,(.rd 1 (.take 13 .done)))]))]) (.all [(14,.done)]))))))))))))
def EH:ep:=(.take 0 (.take 1 (.take 3 (.take 4 (.take 7 (.rd 5 (.rd 6 (.join (.all [(2,(.all [(8,(.all [(9,.done)]))])),(8,(.all [(2,(.all [(9,.done)])),(9,(.rd 2 .done))]))]) (.all [(10,.done)])))))))))
def EG:ep:=(.take 0 (.take 2 (.take 3 (.take 5 (.take 8 (.rd 4 (.take 6 (.rd 7 (.join (.all [(1,(.all [(9,(.all [(10,(.take 11 .done))]))])),(9,(.all [(1,(.all [(10,(.take 11 .done))])),(10,(.rd 1 (.take 11 .done)))]))]) (.all [(12,.done)]))))))))))
def Li:ep:=(.take 0 (.take 1 (.take 3 (.take 5 (.join (.all [(2,(.rd 4 (.rd 6 (.all [(7,.done)])))),(4,(.all [(2,(.rd 6 (.all [(7,.done)]))),(6,(.all [(2,(.all [(7,.done)])),(7,(.all [(2,.done)]))]))])),(6,(.all [(2,(.rd 4 (.all [(7,.done)]))),(4,(.all [(2,(.all [(7,.done)])),(7,(.all [(2,.done)]))])),(7,(.all [(2,(.rd 4 .done)),(4,(.all [(2,.done)]))]))]))]) (.all [(8,(.all [(9,(.take 10 .done))]))]))))))
def Lh:ep:=(.take 0 (.take 2 (.take 5 (.take 7 (.rd 1 (.take 3 (.rd 4 (.take 10 (.join (.all [(6,(.take 8 (.all [(9,(.all [(11,(.take 12 .done))])),(11,(.rd 9 (.take 12 .done)))]))),(11,(.rd 6 (.take 8 (.rd 9 (.take 12 .done)))))]) (.all [(13,.done)]))))))))))
def EF:ep:=(.take 0 (.take 2 (.take 4 (.rd 1 (.take 6 (.join (.all [(3,(.all [(5,(.all [(7,(.take 8 (.all [(9,(.take 10 .done))])))])),(7,(.take 8 (.all [(5,(.all [(9,(.take 10 .done))])),(9,(.rd 5 (.take 10 .done)))])))])),(5,(.all [(3,(.all [(7,(.take 8 (.all [(9,(.take 10 .done))])))])),(7,(.rd 3 (.take 8 (.all [(9,(.take 10 .done))]))))])),(7,(.rd 3 (.take 8 (.all [(5,(.all [(9,(.take 10 .done))])),(9,(.rd 5 (.take 10 .done)))]))))]) (.all [(11,.done)])))))))
def EE:ep:=(.take 0 (.take 2 (.rd 1 (.take 4 (.join (.all [(3,(.all [(5,(.take 6 .done))])),(5,(.rd 3 (.take 6 .done)))]) (.all [(7,.done)]))))))
def ED:ep:=(.rd 0 (.join (.all [(1,(.all [(2,.done)])),(2,(.rd 1 .done))]) (.all [(3,.done)])))
def Lg:ep:=(.take 0 (.take 2 (.take 4 (.rd 1 (.take 6 (.join (.all [(3,(.all [(5,(.all [(7,(.take 8 (.all [(9,(.take 10 .done))])))])),(7,(.take 8 (.all [(5,(.all [(9,(.take 10 .done))])),(9,(.rd 5 (.take 10 .done)))])))])),(5,(.all [(3,(.all [(7,(.take 8 (.all [(9,(.take 10 .done))])))])),(7,(.rd 3 (.take 8 (.all [(9,(.take 10 .done))]))))])),(7,(.rd 3 (.take 8 (.all [(5,(.all [(9,(.take 10 .done))])),(9,(.rd 5 (.take 10 .done)))]))))]) (.all [(11,.done)])))))))
def Lf:ep:=(.take 0 (.take 2 (.rd 1 (.take 4 (.join (.all [(3,(.all [(5,(.take 6 .done))])),(5,(.rd 3 (.take 6 .done)))]) (.all [(7,.done)]))))))
def EC:ep:=(.take 0 (.take 2 (.rd 1 (.take 4 (.join (.all [(3,(.all [(5,(.take 6 .done))])),(5,(.rd 3 (.take 6 .done)))]) (.all [(7,.done)]))))))
def yf:ep:=(.take 0 (.take 2 (.take 5 (.rd 1 (.rd 3 (.rd 6 (.all [(4,(.take 8 (.all [(7,(.take 9 .done))]))),(7,(.all [(4,(.take 8 (.take 9 .done)))]))])))))))
def yd:ep:=(.take 0 (.take 3 (.rd 1 (.rd 4 (.all [(2,(.take 6 (.all [(5,(.take 7 .done))]))),(5,(.all [(2,(.take 6 (.take 7 .done)))]))])))))
def Le:ep:=(.take 0 (.take 1 (.take 2 (.take 4 (.take 7 (.take 8 (.take 9 (.take 11 (.rd 3 (.take 5 (.rd 6 (.rd 10 (.take 12 (.rd 13 (.take 14 (.rd 15 (.all [(16,(.all [(17,.done)]))])))))))))))))))))
def EB:ep:=(.take 0 (.take 1 (.take 2 (.take 4 (.take 7 (.take 8 (.take 9 (.take 11 (.rd 3 (.take 5 (.rd 6 (.rd 10 (.take 12 (.rd 13 (.take 14 (.rd 15 (.all [(16,(.all [(17,.done)]))])))))))))))))))))
def U7:ep:=(.take 0 (.take 1 (.take 2 (.take 4 (.rd 3 (.take 6 (.take 7 (.join (.all [(5,(.all [(8,(.take 9 (.take 10 .done)))])),(8,(.rd 5 (.take 9 (.take 10 .done))))]) (.all [(11,.done)])))))))))
def U6:ep:=(.take 0 (.take 1 (.take 2 (.take 4 (.take 7 (.take 8 (.take 9 (.take 11 (.rd 10 (.rd 12 (.take 13 (.rd 14 (.join (.all [(3,(.all [(5,(.all [(6,(.all [(15,(.take 16 .done))]))])),(6,(.all [(5,(.all [(15,(.take 16 .done))])),(15,(.rd 5 (.take 16 .done)))]))])),(5,(.all [(3,(.all [(6,(.all [(15,(.take 16 .done))]))])),(6,(.all [(3,(.all [(15,(.take 16 .done))])),(15,(.rd 3 (.take 16 .done)))]))])),(6,(.all [(3,(.all [(5,(.all [(15,(.take 16 .done))])),(15,(.rd 5 (.take 16 .done)))])),(5,(.all [(3,(.all [(15,(.take 16 .done))])),(15,(.rd 3 (.take 16 .done)))])),(15,(.rd 3 (.rd 5 (.take 16 .done))))]))]) (.all [(17,.done)]))))))))))))))
def Ld:ep:=(.take 0 (.take 1 (.take 2 (.take 3 (.take 5 (.take 9 (.take 10 (.take 11 (.take 13 (.rd 4 (.take 6 (.rd 7 (.rd 8 (.rd 12 (.take 14 (.rd 15 (.take 16 (.all [(17,(.all [(18,(.take 19 .done))]))]))))))))))))))))))
def EM:ep:=(.take 0 (.take 1 (.take 2 (.take 4 (.take 5 (.rd 3 (.rd 6 (.rd 7 (.take 8 (.all [(9,(.take 10 (.all [(11,.done)])))]))))))))))
def EL:ep:=(.take 0 (.take 1 (.take 2 (.take 4 (.join (.all [(3,(.all [(5,.done)])),(5,(.rd 3 .done))]) (.all [(6,(.all [(7,(.take 8 (.all [(9,.done)])))]))]))))))
def EK:ep:=(.take 0 (.take 1 (.take 2 (.take 3 (.take 4 (.take 5 (.take 6 (.take 8 (.take 9 (.take 10 (.rd 7 (.rd 11 (.take 12 (.all [(13,(.take 14 (.all [(15,.done)])))]))))))))))))))
def pl6 (r:Nat):Option Way:=if r=21 then some (.calm) else none
theorem abx:c7 pl6 (f6.body.getD .skip)=true:=by kernel_rfl
def pl7 (r:Nat):Option Way:=if r=8 then some (.plan abQ) else none
theorem abw:c7 pl7 (f7.body.getD .skip)=true:=by kernel_rfl
def pU (r:Nat):Option Way:=if r=4 then some (.plan Lm) else if r=8 then some (.plan Ll) else if r=9 then some (.tail 7) else none
theorem Qa:pU 4=some (.plan Lm):=rfl
theorem P9:pU 8=some (.plan Ll):=rfl
theorem P8:pU 9=some (.tail 7):=rfl
theorem Xu:c7 pU (f10.body.getD .skip)=true:=by kernel_rfl
def Lc (r:Nat):Option Way:=if r=4 then some (.reads) else none
theorem Xt:c7 Lc (f12.body.getD .skip)=true:=by kernel_rfl
def Bb (r:Nat):Option Way:=if r=6 then some (.reads) else none
theorem P7:Bb 6=some (.reads):=rfl
theorem Xs:c7 Bb (f13.body.getD .skip)=true:=by kernel_rfl
def kC (r:Nat):Option Way:=if r=14 then some (.plan ER) else if r=36 then some (.plan Bc) else none
theorem KX:kC 14=some (.plan ER):=rfl
theorem Ck:kC 36=some (.plan Bc):=rfl
theorem Xr:c7 kC (f19.body.getD .skip)=true:=by kernel_rfl
def uM (r:Nat):Option Way:=if r=8 then some (.calm) else none
theorem P6:uM 8=some (.calm):=rfl
theorem Xq:c7 uM (f20.body.getD .skip)=true:=by kernel_rfl
def rC (r:Nat):Option Way:=if r=13 then some (.plan EP) else none
theorem KW:rC 13=some (.plan EP):=rfl
theorem Xp:c7 rC (f22.body.getD .skip)=true:=by kernel_rfl
def jc (r:Nat):Option Way:=if r=6 then some (.plan Lk) else if r=14 then some (.plan EO) else if r=18 then some (.plan EN) else if r=19 then some (.tail 54) else if r=29 then some (.tail 31) else none
theorem P5:jc 6=some (.plan Lk):=rfl
theorem KV:jc 14=some (.plan EO):=rfl
theorem KU:jc 18=some (.plan EN):=rfl
theorem KT:jc 19=some (.tail 54):=rfl
theorem KS:jc 29=some (.tail 31):=rfl
theorem Xo:c7 jc (f23.body.getD .skip)=true:=by kernel_rfl
def uL (r:Nat):Option Way:=if r=6 then some (.reads) else if r=11 then some (.reads) else none
theorem P4:uL 6=some (.reads):=rfl
theorem KR:uL 11=some (.reads):=rfl
theorem Xn:c7 uL (f25.body.getD .skip)=true:=by kernel_rfl
def Ba (r:Nat):Option Way:=if r=8 then some (.reads) else none
theorem wQ:Ba 8=some (.reads):=rfl
theorem Xm:c7 Ba (f33.body.getD .skip)=true:=by kernel_rfl
def m4 (r:Nat):Option Way:=if r=8 then some (.plan Lj) else if r=13 then some (.plan U8) else if r=15 then some (.tail 16) else if r=17 then some (.reads) else if r=20 then some (.tail 12) else if r=23 then some (.tail 6) else none
theorem P0:m4 8=some (.plan Lj):=rfl
theorem KQ:m4 15=some (.tail 16):=rfl
theorem KP:m4 17=some (.reads):=rfl
theorem KN:m4 20=some (.tail 12):=rfl
theorem KM:m4 23=some (.tail 6):=rfl
theorem Xl:c7 m4 (f34.body.getD .skip)=true:=by kernel_rfl
def Cn (r:Nat):Option Way:=if r=7 then some (.calm) else none
theorem FY:Cn 7=some (.calm):=rfl
theorem Xk:c7 Cn (f37.body.getD .skip)=true:=by kernel_rfl
def A9 (r:Nat):Option Way:=if r=2 then some (.reads) else if r=5 then some (.calm) else if r=7 then some (.calm) else none
theorem PZ:A9 2=some (.reads):=rfl
theorem dx:A9 5=some (.calm):=rfl
theorem dw:A9 7=some (.calm):=rfl
theorem Xj:c7 A9 (f39.body.getD .skip)=true:=by kernel_rfl
def jb (r:Nat):Option Way:=if r=10 then some (.plan EJ) else if r=12 then some (.plan EI) else if r=14 then some (.plan EH) else if r=22 then some (.plan EG) else none
theorem KF:jb 10=some (.plan EJ):=rfl
theorem KE:jb 12=some (.plan EI):=rfl
theorem KD:jb 14=some (.plan EH):=rfl
theorem KC:jb 22=some (.plan EG):=rfl
theorem Xi:c7 jb (f42.body.getD .skip)=true:=by kernel_rfl
def Ez (r:Nat):Option Way:=if r=1 then some (.plan Li) else none
theorem PY:Ez 1=some (.plan Li):=rfl
theorem Xh:c7 Ez (f52.body.getD .skip)=true:=by kernel_rfl
def Cm (r:Nat):Option Way:=if r=8 then some (.reads) else none
theorem Xg:c7 Cm (f54.body.getD .skip)=true:=by kernel_rfl
def pz (r:Nat):Option Way:=if r=8 then some (.plan Lh) else if r=10 then some (.plan EF) else if r=12 then some (.plan EE) else if r=13 then some (.plan ED) else none
theorem PX:pz 8=some (.plan Lh):=rfl
theorem KB:pz 10=some (.plan EF):=rfl
theorem KA:pz 12=some (.plan EE):=rfl
theorem Kz:pz 13=some (.plan ED):=rfl
theorem Xf:c7 pz (f55.body.getD .skip)=true:=by kernel_rfl
def sg (r:Nat):Option Way:=if r=6 then some (.plan Lg) else if r=7 then some (.calm) else if r=9 then some (.plan Lf) else if r=10 then some (.calm) else if r=12 then some (.plan EC) else none
theorem PW:sg 6=some (.plan Lg):=rfl
theorem cS:sg 7=some (.calm):=rfl
theorem PV:sg 9=some (.plan Lf):=rfl
theorem cm:sg 10=some (.calm):=rfl
theorem Ky:sg 12=some (.plan EC):=rfl
theorem Xe:c7 sg (f62.body.getD .skip)=true:=by kernel_rfl
def tg (r:Nat):Option Way:=if r=22 then some (.reads) else none
theorem Cj:tg 22=some (.reads):=rfl
theorem Xd:c7 tg (f66.body.getD .skip)=true:=by kernel_rfl
def A8 (r:Nat):Option Way:=if r=11 then some (.plan yf) else if r=13 then some (.plan yd) else none
theorem xZ:A8 11=some (.plan yf):=rfl
theorem xY:A8 13=some (.plan yd):=rfl
theorem Xc:c7 A8 (f75.body.getD .skip)=true:=by kernel_rfl
def wo (r:Nat):Option Way:=if r=5 then some (.reads) else if r=6 then some (.plan Le) else if r=7 then some (.reads) else none
theorem FX:wo 5=some (.reads):=rfl
theorem PU:wo 6=some (.plan Le):=rfl
theorem A3:wo 7=some (.reads):=rfl
theorem Xb:c7 wo (f80.body.getD .skip)=true:=by kernel_rfl
def uK (r:Nat):Option Way:=if r=12 then some (.plan EB) else if r=17 then some (.plan U7) else if r=19 then some (.plan U6) else if r=22 then some (.reads) else if r=24 then some (.tail 12) else if r=26 then some (.tail 6) else none
theorem Kx:uK 12=some (.plan EB):=rfl
theorem Kv:uK 26=some (.tail 6):=rfl
theorem Xa:c7 uK (f82.body.getD .skip)=true:=by kernel_rfl
def zx (r:Nat):Option Way:=if r=5 then some (.plan Ld) else none
theorem PT:zx 5=some (.plan Ld):=rfl
theorem W9:c7 zx (f83.body.getD .skip)=true:=by kernel_rfl
def zT (r:Nat):Option Way:=if r=1 then some (.reads) else none
theorem KL:zT 1=some (.reads):=rfl
theorem Uc:c7 zT (Tryz.f350.body.getD .skip)=true:=by kernel_rfl
def ya (r:Nat):Option Way:=if r=1 then some (.reads) else if r=2 then some (.plan EM) else none
theorem KK:ya 1=some (.reads):=rfl
theorem KJ:ya 2=some (.plan EM):=rfl
theorem Ub:c7 ya (Tryz.f351.body.getD .skip)=true:=by kernel_rfl
def zS (r:Nat):Option Way:=if r=0 then some (.plan EL) else none
theorem KH:zS 0=some (.plan EL):=rfl
theorem Ua:c7 zS (Tryz.f352.body.getD .skip)=true:=by kernel_rfl
def zR (r:Nat):Option Way:=if r=0 then some (.plan EK) else none
theorem KG:zR 0=some (.plan EK):=rfl
theorem T9:c7 zR (Tryz.f353.body.getD .skip)=true:=by kernel_rfl
def o5:Code->List (Nat × Array Oper)
 | .region id ops true=>[(id,ops)]
 | .seq a b=>o5 a++o5 b
 | .cond _ a b=>o5 a++o5 b
 | .block _ b=>o5 b
 | .loop b=>o5 b
 | _=>[]
def zK (P:Program) (pl:Nat->Option Way):List (Nat × Array Oper)->Prop
 | []=>True
 | (id,ops)::l=>(match pl id with
   | some w=>AM P ops w
   | none=>True)/\zK P pl l
theorem uF (P:Program) (pl:Nat->Option Way):∀ (l m:List (Nat × Array Oper)),zK P pl (l++m)->zK P pl l/\zK P pl m
 | [],_,h=>⟨trivial,h⟩
 | (id,ops)::l,m,h=>by
   have:=uF P pl l m h.2
   exact ⟨⟨h.1,this.1⟩,this.2⟩
theorem dv (P:Program) (pl:Nat->Option Way):∀ c:Code,zK P pl (o5 c)->gJ P pl c
 | .region _ _ true,h=>h.1
 | .region _ _ false,_=>trivial
 | .seq a b,h=>by have:=uF P pl _ _ h; exact ⟨dv P pl a this.1,dv P pl b this.2⟩
 | .cond _ x y,h=>by have:=uF P pl _ _ h; exact ⟨dv P pl x this.1,dv P pl y this.2⟩
 | .block _ b,h=>dv P pl b h
 | .loop b,h=>dv P pl b h
 | .skip,_=>trivial
 | .exit _,_=>trivial
 | .ret,_=>trivial
 | .rangeFunc ..,_=>trivial
 | .scope _,_=>trivial
 | .label _,_=>trivial
 | .goto _,_=>trivial
 | .refuse _,_=>trivial
def plain (pl:Nat->Option Way):Prop:=∀ id p l,pl id≠some (.known p l)
theorem ct {P:Program} {pl:Nat->Option Way} (h:plain pl):∀ l:List (Nat × Array Oper),zK P pl l
 | []=>trivial
 | (id,ops)::l=>by
   refine ⟨?_,ct h l⟩
   split
   · rename_i w hw
     cases w <;> first | trivial | exact absurd hw (h _ _ _)
   · trivial
theorem jh:∀ c:Code,c7 (fun _=>none) c=true
 | .region _ _ true=>rfl
 | .region _ _ false=>rfl
 | .seq a b=>by simp only [c7,jh a,jh b]; rfl
 | .cond _ x y=>by simp only [c7,jh x,jh y]; rfl
 | .block _ b=>by simp only [c7,jh b]
 | .loop b=>by simp only [c7,jh b]
 | .skip=>rfl
 | .exit _=>rfl
 | .ret=>rfl
 | .rangeFunc ..=>rfl
 | .scope _=>rfl
 | .label _=>rfl
 | .goto _=>rfl
 | .refuse _=>rfl
theorem U1:plain pl6:=by
 intro id p l h;unfold pl6 at h;repeat' (split at h; (cases h))
 cases h
theorem U0:plain pl7:=by
 intro id p l h;unfold pl7 at h;repeat' (split at h; (cases h))
 cases h
theorem Qx:plain pU:=by
 intro id p l h;unfold pU at h;repeat' (split at h; (cases h))
 cases h
theorem Qw:plain Lc:=by
 intro id p l h;unfold Lc at h;repeat' (split at h; (cases h))
 cases h
theorem Qv:plain Bb:=by
 intro id p l h;unfold Bb at h;repeat' (split at h; (cases h))
 cases h
theorem Qt:plain kC:=by
 intro id p l h;unfold kC at h;repeat' (split at h; (cases h))
 cases h
theorem Qs:plain uM:=by
 intro id p l h;unfold uM at h;repeat' (split at h; (cases h))
 cases h
theorem Qr:plain rC:=by
 intro id p l h;unfold rC at h;repeat' (split at h; (cases h))
 cases h
theorem Qq:plain jc:=by
 intro id p l h;unfold jc at h;repeat' (split at h; (cases h))
 cases h
theorem Qp:plain uL:=by
 intro id p l h;unfold uL at h;repeat' (split at h; (cases h))
 cases h
theorem Qo:plain Ba:=by
 intro id p l h;unfold Ba at h;repeat' (split at h; (cases h))
 cases h
theorem Qn:plain m4:=by
 intro id p l h;unfold m4 at h;repeat' (split at h; (cases h))
 cases h
theorem Qm:plain Cn:=by
 intro id p l h;unfold Cn at h;repeat' (split at h; (cases h))
 cases h
theorem Ql:plain A9:=by
 intro id p l h;unfold A9 at h;repeat' (split at h; (cases h))
 cases h
theorem Qk:plain jb:=by
 intro id p l h;unfold jb at h;repeat' (split at h; (cases h))
 cases h
theorem Qj:plain Ez:=by
 intro id p l h;unfold Ez at h;repeat' (split at h; (cases h))
 cases h
theorem Qi:plain Cm:=by
 intro id p l h;unfold Cm at h;repeat' (split at h; (cases h))
 cases h
theorem Qh:plain pz:=by
 intro id p l h;unfold pz at h;repeat' (split at h; (cases h))
 cases h
theorem Qg:plain sg:=by
 intro id p l h;unfold sg at h;repeat' (split at h; (cases h))
 cases h
theorem Qf:plain tg:=by
 intro id p l h;unfold tg at h;repeat' (split at h; (cases h))
 cases h
theorem Qe:plain A8:=by
 intro id p l h;unfold A8 at h;repeat' (split at h; (cases h))
 cases h
theorem Qd:plain wo:=by
 intro id p l h;unfold wo at h;repeat' (split at h; (cases h))
 cases h
theorem Qc:plain uK:=by
 intro id p l h;unfold uK at h;repeat' (split at h; (cases h))
 cases h
theorem Qb:plain zx:=by
 intro id p l h;unfold zx at h;repeat' (split at h; (cases h))
 cases h
theorem La:plain zT:=by
 intro id p l h;unfold zT at h;repeat' (split at h; (cases h))
 cases h
theorem K9:plain ya:=by
 intro id p l h;unfold ya at h;repeat' (split at h; (cases h))
 cases h
theorem KZ:plain zS:=by
 intro id p l h;unfold zS at h;repeat' (split at h; (cases h))
 cases h
theorem KY:plain zR:=by
 intro id p l h;unfold zR at h;repeat' (split at h; (cases h))
 cases h
def plN:Nat->Option Way:=fun _=>none
def plQ (f:FuncId):Nat->Option Way:=if f=6 then pl6 else if f=7 then pl7 else if f=10 then pU else if f=12 then Lc else if f=13 then Bb else if f=19 then kC else if f=20 then uM else if f=22 then rC else if f=23 then jc else if f=25 then uL else if f=33 then Ba else if f=34 then m4 else if f=37 then Cn else if f=39 then A9 else if f=42 then jb else if f=52 then Ez else if f=54 then Cm else if f=55 then pz else if f=62 then sg else if f=66 then tg else if f=75 then A8 else if f=80 then wo else if f=82 then uK else if f=83 then zx else if f=350 then zT else if f=351 then ya else if f=352 then zS else if f=353 then zR else plN
theorem U4 (f:FuncId) (fn:Func) (c:Code) (hf:aa.funcs[f]? =some fn) (hc:fn.body=some c):c7 (plQ f) c=true/\gJ aa (plQ f) c:=by
 by_cases h6:f=6
 · subst h6;obtain rfl:=aB (func6.symm.trans hf);have:=abx;rw [hc] at this; exact ⟨this,dv _ _ _ (ct U1 _)⟩
 by_cases h7:f=7
 · subst h7;obtain rfl:=aB (func7.symm.trans hf);have:=abw;rw [hc] at this; exact ⟨this,dv _ _ _ (ct U0 _)⟩
 by_cases h10:f=10
 · subst h10;obtain rfl:=aB (Tryz.func10.symm.trans hf);have:=Xu;rw [hc] at this; exact ⟨this,dv _ _ _ (ct Qx _)⟩
 by_cases h12:f=12
 · subst h12;obtain rfl:=aB (Tryz.func12.symm.trans hf);have:=Xt;rw [hc] at this; exact ⟨this,dv _ _ _ (ct Qw _)⟩
 by_cases h13:f=13
 · subst h13;obtain rfl:=aB (Tryz.func13.symm.trans hf);have:=Xs;rw [hc] at this; exact ⟨this,dv _ _ _ (ct Qv _)⟩
 by_cases h19:f=19
 · subst h19;obtain rfl:=aB (Tryz.func19.symm.trans hf);have:=Xr;rw [hc] at this; exact ⟨this,dv _ _ _ (ct Qt _)⟩
 by_cases h20:f=20
 · subst h20;obtain rfl:=aB (Tryz.func20.symm.trans hf);have:=Xq;rw [hc] at this; exact ⟨this,dv _ _ _ (ct Qs _)⟩
 by_cases h22:f=22
 · subst h22;obtain rfl:=aB (Tryz.func22.symm.trans hf);have:=Xp;rw [hc] at this; exact ⟨this,dv _ _ _ (ct Qr _)⟩
 by_cases h23:f=23
 · subst h23;obtain rfl:=aB (Tryz.func23.symm.trans hf);have:=Xo;rw [hc] at this; exact ⟨this,dv _ _ _ (ct Qq _)⟩
 by_cases h25:f=25
 · subst h25;obtain rfl:=aB (Tryz.func25.symm.trans hf);have:=Xn;rw [hc] at this; exact ⟨this,dv _ _ _ (ct Qp _)⟩
 by_cases h33:f=33
 · subst h33;obtain rfl:=aB (Tryz.func33.symm.trans hf);have:=Xm;rw [hc] at this; exact ⟨this,dv _ _ _ (ct Qo _)⟩
 by_cases h34:f=34
 · subst h34;obtain rfl:=aB (Tryz.func34.symm.trans hf);have:=Xl;rw [hc] at this; exact ⟨this,dv _ _ _ (ct Qn _)⟩
 by_cases h37:f=37
 · subst h37;obtain rfl:=aB (Tryz.func37.symm.trans hf);have:=Xk;rw [hc] at this; exact ⟨this,dv _ _ _ (ct Qm _)⟩
 by_cases h39:f=39
 · subst h39;obtain rfl:=aB (Tryz.func39.symm.trans hf);have:=Xj;rw [hc] at this; exact ⟨this,dv _ _ _ (ct Ql _)⟩
 by_cases h42:f=42
 · subst h42;obtain rfl:=aB (Tryz.func42.symm.trans hf);have:=Xi;rw [hc] at this; exact ⟨this,dv _ _ _ (ct Qk _)⟩
 by_cases h52:f=52
 · subst h52;obtain rfl:=aB (Tryz.func52.symm.trans hf);have:=Xh;rw [hc] at this; exact ⟨this,dv _ _ _ (ct Qj _)⟩
 by_cases h54:f=54
 · subst h54;obtain rfl:=aB (Tryz.func54.symm.trans hf);have:=Xg;rw [hc] at this; exact ⟨this,dv _ _ _ (ct Qi _)⟩
 by_cases h55:f=55
 · subst h55;obtain rfl:=aB (Tryz.func55.symm.trans hf);have:=Xf;rw [hc] at this; exact ⟨this,dv _ _ _ (ct Qh _)⟩
 by_cases h62:f=62
 · subst h62;obtain rfl:=aB (Tryz.func62.symm.trans hf);have:=Xe;rw [hc] at this; exact ⟨this,dv _ _ _ (ct Qg _)⟩
 by_cases h66:f=66
 · subst h66;obtain rfl:=aB (Tryz.func66.symm.trans hf);have:=Xd;rw [hc] at this; exact ⟨this,dv _ _ _ (ct Qf _)⟩
 by_cases h75:f=75
 · subst h75;obtain rfl:=aB (Tryz.func75.symm.trans hf);have:=Xc;rw [hc] at this; exact ⟨this,dv _ _ _ (ct Qe _)⟩
 by_cases h80:f=80
 · subst h80;obtain rfl:=aB (Tryz.func80.symm.trans hf);have:=Xb;rw [hc] at this; exact ⟨this,dv _ _ _ (ct Qd _)⟩
 by_cases h82:f=82
 · subst h82;obtain rfl:=aB (Tryz.func82.symm.trans hf);have:=Xa;rw [hc] at this; exact ⟨this,dv _ _ _ (ct Qc _)⟩
 by_cases h83:f=83
 · subst h83;obtain rfl:=aB (Tryz.func83.symm.trans hf);have:=W9;rw [hc] at this; exact ⟨this,dv _ _ _ (ct Qb _)⟩
 by_cases h350:f=350
 · subst h350;obtain rfl:=aB (Tryz.func350.symm.trans hf);have:=Uc;rw [hc] at this; exact ⟨this,dv _ _ _ (ct La _)⟩
 by_cases h351:f=351
 · subst h351;obtain rfl:=aB (Tryz.func351.symm.trans hf);have:=Ub;rw [hc] at this; exact ⟨this,dv _ _ _ (ct K9 _)⟩
 by_cases h352:f=352
 · subst h352;obtain rfl:=aB (Tryz.func352.symm.trans hf);have:=Ua;rw [hc] at this; exact ⟨this,dv _ _ _ (ct KZ _)⟩
 by_cases h353:f=353
 · subst h353;obtain rfl:=aB (Tryz.func353.symm.trans hf);have:=T9;rw [hc] at this; exact ⟨this,dv _ _ _ (ct KY _)⟩
 have hq:plQ f=plN:=by unfold plQ; rw [if_neg h6,if_neg h7,if_neg h10,if_neg h12,if_neg h13,if_neg h19,if_neg h20,if_neg h22,if_neg h23,if_neg h25,if_neg h33,if_neg h34,if_neg h37,if_neg h39,if_neg h42,if_neg h52,if_neg h54,if_neg h55,if_neg h62,if_neg h66,if_neg h75,if_neg h80,if_neg h82,if_neg h83,if_neg h350,if_neg h351,if_neg h352,if_neg h353]
 rw [hq];exact ⟨jh c,dv _ _ _ (ct (by intro _ _ _ h; cases h) _)⟩
noncomputable def W0:pB aa:=⟨plQ,U4⟩
end Go.Dv
namespace Go.Dv
def cb {α:Type} (b:Bool) (x y:α):α:=cond b x y
def br {α:Type} (b:Bool) (x y:α):α:=cond b x y
theorem bC {α:Type} {b b':Bool} (h:b=b') (x y:α):cb b x y=cb b' x y:=by rw [h]
theorem GF {α:Type} (b:Bool) (x y:α):cb b x y=br b x y:=rfl
theorem d7 {α:Type} (x y:α):br true x y=x:=rfl
theorem cM {α:Type} (x y:α):br false x y=y:=rfl
theorem BJ {α:Type} (b:Bool) (x y:α):br (!b) x y=br b y x:=by cases b <;> rfl
theorem bD {α:Type} {b b':Bool} {x x' y y':α} (h:b=b') (hx:b'=true->x=x') (hy:b'=false->y=y'):br b x y=br b' x' y':=by
 subst h; cases b
 · exact hy rfl
 · exact hx rfl
theorem w9 {α β:Type} (b:Bool) (x y:Option α) (k:α->Option β):(br b x y).bind k=br b (x.bind k) (y.bind k):=by cases b <;> rfl
theorem w7 (b x y:Bool) (H:AH):br b (some (AV.bool x,H)) (some (AV.bool y,H))=some (.bool (br b x y),H):=by cases b <;> rfl
theorem BK (b:Bool) (k:IntKind) (x y:Int) (H:AH):br b (some (AV.int k x,H)) (some (AV.int k y,H))=some (.int k (br b x y),H):=by cases b <;> rfl
theorem w6 (b x y x' y':Bool) (H:AH):br b (some (AV.tuple [.bool x,.bool y],H)) (some (AV.tuple [.bool x',.bool y'],H))=some (.tuple [.bool (br b x x'),.bool (br b y y')],H):=by cases b <;> rfl
theorem w4 (b x y z x' y' z':Bool) (H:AH):br b (some (AV.tuple [.bool x,.bool y,.bool z],H)) (some (AV.tuple [.bool x',.bool y',.bool z'],H))=some (.tuple [.bool (br b x x'),.bool (br b y y'),.bool (br b z z')],H):=by cases b <;> rfl
def ltB (a b:Int):Bool:=decide (a < b)
def leB (a b:Int):Bool:=decide (a<=b)
def eqB (a b:Int):Bool:=a == b
theorem Bp (k:IntKind) (a b:Int):fy .lss k a b=some (.bool (ltB a b)):=rfl
theorem Bq (k:IntKind) (a b:Int):fy .leq k a b=some (.bool (leB a b)):=rfl
theorem Br (k:IntKind) (a b:Int):fy .gtr k a b=some (.bool (ltB b a)):=rfl
theorem Bs (k:IntKind) (a b:Int):fy .geq k a b=some (.bool (leB b a)):=rfl
theorem Bt (k:IntKind) (a b:Int):fy .eql k a b=some (.bool (eqB a b)):=rfl
theorem Bo (k:IntKind) (a b:Int):fy .neq k a b=some (.bool (!eqB a b)):=rfl
theorem Bu (k:IntKind) (a b:Int):fy .add k a b=some (.int k (k.wrap (a+b))):=rfl
theorem Bn (k:IntKind) (a b:Int):fy .sub k a b=some (.int k (k.wrap (a - b))):=rfl
theorem cu {a b:Int} (h:a < b):ltB a b=true:=by simp [ltB,h]
theorem cw {a b:Int} (h:b<=a):ltB a b=false:=by simp [ltB]; omega
theorem z3 {a b:Int} (h:a<=b):leB a b=true:=by simp [leB,h]
theorem Yu {a b:Int} (h:b < a):leB a b=false:=by simp [leB]; omega
theorem kP {a b:Int} (h:a=b):eqB a b=true:=by simp [eqB,h]
theorem fR {a b:Int} (h:a≠b):eqB a b=false:=by simp [eqB,h]
theorem dB (a b:Int):ltB a b=true↔a < b:=by simp [ltB]
theorem dC (a b:Int):leB a b=true↔a<=b:=by simp [leB]
theorem cP (a b:Int):eqB a b=true↔a=b:=by simp [eqB]
theorem fZ (a b:Int):ltB a b=false↔b<=a:=by simp [ltB]
theorem oh (a b:Int):leB a b=false↔b < a:=by simp [leB]
theorem qe (a b:Int):eqB a b=false↔a≠b:=by simp [eqB]
def wc {α:Type} (v:AV) (x y:Option α):Option α:=match v with
 | .bool b=>cb b x y
 | _=>none
theorem aT {α:Type} {v v':AV} (h:v=v') (x y:Option α):wc v x y=wc v' x y:=by rw [h]
theorem jr {α:Type} (b:Bool) (x y:Option α):wc (.bool b) x y=cb b x y:=rfl
def gd {α:Type} (y:Option Bool) (b:Bool) (x z:α):α:=if y == some b then x else z
theorem mi:BL uA=none:=rfl
theorem bB {α:Type} {y y':Option Bool} (h:y=y') (b:Bool) (x z:α):gd y b x z=gd y' b x z:=by rw [h]
theorem CQ {α:Type} (c:Bool) (x z:α):gd (some c) true x z=cb c x z:=by cases c <;> rfl
theorem CR {α:Type} (c:Bool) (x z:α):gd (some c) false x z=cb c z x:=by cases c <;> rfl
theorem ny {α:Type} (b:Bool) (x z:α):gd none b x z=z:=by cases b <;> rfl
section
variable {P:Program} {C:Cfg P} {W:pB P} {pl:Nat->Option Way}
theorem rA (q:Operand) (x y:Code) (s:St):EvC P C W pl (.cond q x y) s=(cY C.gl s.1 q).bind fun v=>wc v (EvC P C W pl x s) (EvC P C W pl y s):=by
 rw [OQ];cases cY C.gl s.1 q with
 | none=>rfl
 | some v=>cases v <;> first | rfl | (rename_i b; cases b <;> rfl)
theorem l5 (call:cz) (slot:Option Nat) (ops:Array Oper) (dst:Option Tmp) (op:Op) (ty:TypeId) (pos:String) (after:Array Edge) (j:Nat) (b:Bool) (tm:List AV) (H:AH) :
   vL P C call slot ops ⟨dst,op,ty,pos,after,some (j,b)⟩ (tm,H)=gd (dp ops tm j) b ((aop P C slot (cY C.gl tm) ⟨dst,op,ty,pos,after,some (j,b)⟩ H).bind fun r=>match r with
     | (.val v,H')=>some (eC dst v tm,H')
     | (.skip,H')=>some (eC dst uA tm,H')
     | (.enter f args,H')=>(call f args H').bind fun r=>some (eC dst r.1 tm,r.2))
     (some (eC dst uA tm,H)):=rfl
theorem bz (gl:GL) (ops:Array Oper) (dst:Option Tmp) (op:Op) (ty:TypeId) (pos:String) (after:Array Edge) (j:Nat) (b:Bool) (tm:List AV):Ew P gl ops ⟨dst,op,ty,pos,after,some (j,b)⟩ tm=gd (dp ops tm j) b (dc P (cY gl tm) ⟨dst,op,ty,pos,after,some (j,b)⟩) (some uA):=rfl
theorem k6 (gl:GL) (ops:Array Oper) (dst:Option Tmp) (op:Op) (ty:TypeId) (pos:String) (after:Array Edge) (j:Nat) (b:Bool) (os:List Oper) (tm:List AV) (H:AH):jD P gl ops (⟨dst,op,ty,pos,after,some (j,b)⟩::os) (tm,H) =
   gd (dp ops tm j) b ((fD P (cY gl tm) ⟨dst,op,ty,pos,after,some (j,b)⟩ H).bind fun v=>jD P gl ops os (eC dst v tm,H)) (jD P gl ops os (eC dst uA tm,H)):=rfl
theorem k9 (call:cz) (ops:Array Oper) (dst:Option Tmp) (op:Op) (ty:TypeId) (pos:String) (after:Array Edge) (j:Nat) (b:Bool) (os:List Oper) (tm:List AV) (H:AH):gS P C call ops (⟨dst,op,ty,pos,after,some (j,b)⟩::os) (tm,H) =
   gd (dp ops tm j) b ((gO P C call (cY C.gl tm) ⟨dst,op,ty,pos,after,some (j,b)⟩ H).bind fun v=>gS P C call ops os (eC dst v tm,H)) (gS P C call ops os (eC dst uA tm,H)):=rfl
section
variable (slot:Option Nat) (ev:Operand->Option AV) (dst:Option Tmp) (ty:TypeId) (pos:String) (after:Array Edge) (g:Option (Nat × Bool)) (H:AH)
theorem qY (c a b:Operand):aop P C slot ev ⟨dst,.pick c a b,ty,pos,after,g⟩ H=(ev c).bind fun cv=>wc cv ((ev a).map fun v=>(.val v,H)) ((ev b).map fun v=>(.val v,H)):=by
 rw [OE];cases ev c with
 | none=>rfl
 | some v=>cases v <;> first | rfl | (rename_i b; cases b <;> rfl)
theorem dJ (c a b:Operand):dc P ev ⟨dst,.pick c a b,ty,pos,after,g⟩=(ev c).bind fun cv=>wc cv (ev a) (ev b):=by
 rw [UY];cases ev c with
 | none=>rfl
 | some v=>cases v <;> first | rfl | (rename_i b; cases b <;> rfl)
theorem s8 (c a b:Operand):fD P ev ⟨dst,.pick c a b,ty,pos,after,g⟩ H=(ev c).bind fun cv=>wc cv (ev a) (ev b):=dJ (P:=P) ev dst ty pos after g c a b
end
theorem Gn {H G:AH} {v:AV} (h:oR H v=true):kM true H (v,G)=some (v,H):=by unfold kM;simp only [if_true,h]
theorem tU (call:cz) (ev:Operand->Option AV) (dst:Option Tmp) (ty:TypeId) (pos:String) (after:Array Edge) (g:Option (Nat × Bool)) (H:AH) (c a b:Operand):gO P C call ev ⟨dst,.pick c a b,ty,pos,after,g⟩ H=(ev c).bind fun cv=>wc cv (ev a) (ev b):=dJ (P:=P) ev dst ty pos after g c a b
theorem ik (H G:AH) (b:Bool):kM true H (.bool b,G)=some (.bool b,H):=rfl
theorem wT (H G:AH) (k:IntKind) (n:Int):kM true H (.int k n,G)=some (.int k n,H):=rfl
theorem tM (H G:AH) (a b:Bool):kM true H (.tuple [.bool a,.bool b],G)=some (.tuple [.bool a,.bool b],H):=rfl
theorem tL (H G:AH) (a b c:Bool):kM true H (.tuple [.bool a,.bool b,.bool c],G)=some (.tuple [.bool a,.bool b,.bool c],H):=rfl
theorem Bz (H G:AH) (a:Bool) (k:IntKind) (n:Int):kM true H (.tuple [.bool a,.int k n],G)=some (.tuple [.bool a,.int k n],H):=rfl
end
end Go.Dv
namespace Go.Dv
open Go.Proofs
theorem Lx:aa.funcs.toList.all (fun g=>!(g.name == "runtime.NumGoroutine"))=true:=by kernel_rfl
theorem F5 (f:Nat) (g:Func) (h:aa.funcs[f]? =some g):(g.name == "runtime.NumGoroutine")=false:=by
 have:=List.all_eq_true.1 Lx g (by
   have h':aa.funcs.toList[f]? =some g:=by simpa using h
   exact List.mem_of_getElem? h')
 simpa using this
def eG:List AV:=Lib.asciiSpaceTab.map fun n=>.int .u8 n
def dG:List ByteArray:=[⟨#[102,117,110,99]⟩,⟨#[107,101,114,110,101,108]⟩,⟨#[98,117,102,102,101,114]⟩,⟨#[105,110,116]⟩,⟨#[115,104,97,114,101,100]⟩,⟨#[108,101,116]⟩,⟨#[105,102]⟩,⟨#[101,108,115,101]⟩,⟨#[119,104,105,108,101]⟩,⟨#[98,114,101,97,107]⟩,⟨#[99,111,110,116,105,110,117,101]⟩,⟨#[114,101,116,117,114,110]⟩,⟨#[98,97,114,114,105,101,114]⟩,⟨#[97,116,111,109,105,99]⟩,⟨#[99,111,108,108,101,99,116]⟩,⟨#[116,105,100]⟩,⟨#[98,105,100]⟩,⟨#[100,105,109]⟩,⟨#[103,114,105,100]⟩,⟨#[109,105,110]⟩,⟨#[109,97,120]⟩,⟨#[97,100,100]⟩,⟨#[97,110,100]⟩,⟨#[111,114]⟩,⟨#[120,111,114]⟩]
def uD:List (AV × AV × Nat):=(List.zip dG (List.range 25)).map fun p=>(.str p.1,.bool true,p.2)
def wG:cz:=fun f args H=>match args with
 | []=>if f=130 then some (.map H.length,H++[.map uD 25]) else none
 | _=>none
noncomputable def K1:Cfg aa:={ gl:=fun x=>if x=0 then some 0 else none,pin:=oz 0 eG,orc:=fun _ _ _=>none,orcOk:=(by intro _ _ _ _ _ _ _ _ h; cases h),meth:=fun _ _=>none,methOk:=(by intro t n f h; cases h),name:=F5,mixed:=Tryz.checked.mixed,pinRo:=fun w0 Pr φ H w h hW=>oz.later h hW }
theorem FL:BP K1 [.arg eG]:=Eg rfl rfl
theorem bM {f:Nat} (h:(aa.funcs[f]?).map (fun fn=>fn.body.isSome)=some true) (C:Cfg aa) (slot:Option Nat) (ev:Operand->Option AV) (H:AH) (o:Oper) (xs:Array Operand) (ats:Array TypeId)
   (he:ev (.func f)=some (.func (.func f) [] [])):gk aa C slot ev o ⟨.value (.func f),xs,ats⟩ H=(evL ev xs.toList).map fun vs=>(.enter f vs,H):=aaE h slot ev H o xs ats he
end Go.Dv
namespace Go.Dv
section
variable {P:Program} {C:Cfg P} {W:pB P} {pl:Nat->Option Way}
theorem sH {n:Nat} {c:Code} {s:St} {r:bk × St} (h:evC P C (cX P C W n) pl n c s=some r):EvC P C W pl c s=some r:=uW (fK cU c s) h
def lS (P:Program) (C:Cfg P) (W:pB P) (pl:Nat->Option Way) (n:Nat) (b:Code):Nat->St->Option St
 | 0,s=>some s
 | k+1,s=>match evC P C (cX P C W n) pl n b s with
   | some (.normal,s')=>lS P C W pl n b k s'
   | _=>none
theorem g6 {n:Nat} {b:Code}:∀ (k:Nat) {s s':St},lS P C W pl n b k s=some s'->EvC P C W pl (.loop b) s=EvC P C W pl (.loop b) s'
 | 0,s,s',h=>by cases h; rfl
 | k+1,s,s',h=>by
   unfold lS at h
   split at h
   · rename_i s1 h1
     rw [aX,sH h1]
     exact g6 k h
   · cases h
end
end Go.Dv
namespace Go.Dv
def A6 (es:List (AV × AV × Nat)):Bool:=es.all fun e=>(toV e.1).isSome && (toV e.2.1).isSome
theorem ON {φ ψ:Env}:∀ (es:List (AV × AV × Nat)) (l:List MapEntry),A6 es=true->MR φ es l->MR ψ es l
 | [],_,_,r=>r
 | (_,_,_)::es,_,h,⟨e,l',q,rk,rv,rn,rs⟩=>by
   simp only [A6,List.all_cons,Bool.and_eq_true] at h
   exact ⟨e,l',q,AO h.1.1 rk,AO h.1.2 rv,rn,ON es _ h.2 rs⟩
def CT (f:FuncId) (es:List (AV × AV × Nat)) (n:Nat):cz:=fun g args H=>match args with
 | []=>if g=f then some (.map H.length,H++[.map es n]) else none
 | _=>none
theorem CS {P:Program} {C:Cfg P} {W:pB P} {G:AH} (hst:BP C G) {f:FuncId} {i n:Nat} {es:List (AV × AV × Nat)} {G':AH} (he:Ev P C W f [] G=some (.map i,G')) (hi:G'[i]? =some (.map es n)) (hes:A6 es=true) (gl:GL) (w0:World) (Pr:Nat->Prop) (hpin:C.pin w0 Pr):iL P gl w0 Pr (CT f es n):=by
 intro g args H v H' h φ w vs _ hW hr;unfold CT at h;split at h
 · split at h
   · rename_i hg;cases h;subst hg;have hv:vs=#[]:=by have:=hr.length;simp at this; exact Array.eq_empty_of_size_eq_zero this.symm
     subst hv;obtain ⟨φ0,hW0,hg0,hp0⟩:=hst w0 Pr φ H w hpin hW;have:=DY hp0 g [] G _ _ he φ0 w #[] hg0 hW0 (.nil _);refine this.mono fun e w' hw=>?_;obtain ⟨φ',u,hle,he,hu,hW'⟩:=hw;have hL:=hW.later hW'.size hW'.old hW'.os hW'.tape hW'.output;obtain ⟨b,z,es',hφ,hb,hm⟩:=hW'.obj i _ hi;have hown:kh G' i:=⟨_,hi,rfl⟩;have hnp:=hW'.own i _ hown hφ;simp only [Nat.not_lt] at hnp;have hbs:=hW'.lt i _ hφ;obtain ⟨hl,hA⟩:=hL.TO (slot:=none) (o:=.map es n) (i:=H.length) (H':=H++[.map es n]) rfl (b:=b) (off:=0) (z:=z) hbs (fun hp=>by
       have h1:=hW.prLt b hp;have h2:=hW.size;omega) (fun j x _ hx e=>by
       have:=hW.lt j x hx;omega) ⟨b,z,es',Env.d3 _ _ _,hb,ON es _ hes hm⟩ rfl
     obtain ⟨b',z',h2,rfl⟩:=hu;rw [hφ] at h2;cases h2;exact ⟨_,_,hl,he,⟨b,z,Env.d3 _ _ _,rfl⟩,hA⟩
   · cases h
 · cases h
end Go.Dv
