/- Part 09 of the walks (own work). -/
import Derived.Test.YtilpjnckfkjkbaaGreatDoorT08
import Derived.Test.YtilpjnckfkjkbaaGreatDoorProg
import Derived.KernelRfl
import Derived.Test.YtilpjnckfkjkbaaGreatDoorChecked
import Derived.Lib.Space
open Option.some renaming inj→aE
open Go.Proofs.Tryz renaming prog→aa
set_option maxRecDepth 100000
set_option maxHeartbeats 4000000
set_option linter.unusedSimpArgs false
set_option linter.unusedVariables false
namespace Go.Dv
open Go.Proofs
set_option maxRecDepth 1000000
def aax:d5:=(.take 0 (.take 2 (.take 4 (.rd 1 (.rd 3 (.take 5 (.rd 6 (.all [(7,(.all [(8,(.take 9 (.all [(10,.done)])))]))]))))))))
def Kd:d5:=(.take 0 (.take 2 (.take 5 (.join (.all [(1,(.all [(3,(.rd 4 (.rd 6 (.all [(7,.done)])))),(4,(.all [(3,(.rd 6 (.all [(7,.done)]))),(6,(.all [(3,(.all [(7,.done)])),(7,(.all [(3,.done)]))]))])),(6,(.all [(3,(.rd 4 (.all [(7,.done)]))),(4,(.all [(3,(.all [(7,.done)])),(7,(.all [(3,.done)]))])),(7,(.all [(3,(.rd 4 .done)),(4,(.all [(3,.done)]))]))]))])),(4,(.all [(1,(.all [(3,(.rd 6 (.all [(7,.done)]))),(6,(.all [(3,(.all [(7,.done)])),(7,(.all [(3,.done)]))]))])),(6,(.all [(1,(.all [(3,(.all [(7,.done)])),(7,(.all [(3,.done)]))])),(7,(.all [(1,(.all [(3,.done)]))]))]))])),(6,(.all [(1,(.all [(3,(.rd 4 (.all [(7,.done)]))),(4,(.all [(3,(.all [(7,.done)])),(7,(.all [(3,.done)]))])),(7,(.all [(3,(.rd 4 .done)),(4,(.all [(3,.done)]))]))])),(4,(.all [(1,(.all [(3,(.all [(7,.done)])),(7,(.all [(3,.done)]))])),(7,(.all [(1,(.all [(3,.done)]))]))])),(7,(.all [(1,(.all [(3,(.rd 4 .done)),(4,(.all [(3,.done)]))])),(4,(.all [(1,(.all [(3,.done)]))]))]))]))]) (.all [(8,(.all [(9,(.take 10 .done))]))])))))
def Kc:d5:=(.take 0 (.take 3 (.take 6 (.rd 1 (.join (.all [(2,(.rd 4 (.all [(5,(.rd 7 (.take 9 .done))),(7,(.take 9 (.all [(5,.done)])))]))),(4,(.all [(2,(.all [(5,(.rd 7 (.take 9 .done))),(7,(.take 9 (.all [(5,.done)])))])),(7,(.all [(2,(.take 9 (.all [(5,.done)])))]))])),(7,(.all [(2,(.rd 4 (.take 9 (.all [(5,.done)])))),(4,(.all [(2,(.take 9 (.all [(5,.done)])))]))]))]) (.all [(8,(.all [(10,(.take 11 (.all [(12,(.take 13 (.all [(14,.done)])))])))]))]))))))
def AQ:d5:=(.take 0 (.take 1 (.take 2 (.take 3 (.take 4 (.rd 5 (.take 6 (.take 7 (.take 8 (.rd 9 (.take 10 (.all [(11,(.take 12 (.all [(13,.done)])))]))))))))))))
def TS:d5:=(.take 0 (.take 1 (.take 2 (.take 3 (.take 4 (.rd 5 (.take 6 (.take 7 (.take 8 (.rd 9 (.take 10 (.all [(11,(.take 12 (.all [(13,.done)])))]))))))))))))
def Ej:d5:=(.take 0 (.take 4 (.rd 1 (.rd 2 (.rd 5 (.rd 6 (.all [(3,(.take 8 (.all [(7,(.take 9 .done))]))),(7,(.all [(3,(.take 8 (.take 9 .done)))]))])))))))
def J9:d5:=(.take 0 (.take 1 (.take 2 (.take 3 (.take 4 (.take 8 (.take 9 (.take 10 (.take 11 (.rd 5 (.take 6 (.rd 7 (.rd 12 (.take 13 (.rd 14 (.all [(15,(.all [(16,.done)]))]))))))))))))))))
def Ei:d5:=(.take 0 (.take 1 (.take 2 (.take 3 (.take 4 (.take 8 (.take 9 (.take 10 (.take 11 (.rd 5 (.take 6 (.rd 7 (.rd 12 (.take 13 (.rd 14 (.all [(15,(.all [(16,.done)]))]))))))))))))))))
def Eh:d5:=(.take 0 (.take 1 (.take 2 (.take 3 (.take 4 (.take 8 (.take 9 (.take 10 (.take 11 (.rd 5 (.take 6 (.rd 7 (.rd 12 (.take 13 (.rd 14 (.all [(15,(.all [(16,.done)]))]))))))))))))))))
def J8:d5:=(.take 0 (.take 1 (.take 2 (.take 4 (.take 7 (.take 8 (.take 9 (.take 11 (.rd 3 (.take 5 (.rd 6 (.rd 10 (.take 12 (.rd 13 (.take 14 (.rd 15 (.all [(16,(.all [(17,.done)]))])))))))))))))))))
def TR:d5:=(.take 0 (.take 1 (.take 2 (.take 4 (.rd 3 (.take 6 (.take 7 (.join (.all [(5,(.all [(8,(.take 9 (.take 10 .done)))])),(8,(.rd 5 (.take 9 (.take 10 .done))))]) (.all [(11,.done)])))))))))
def Ed:d5:=(.take 0 (.take 5 (.rd 1 (.rd 2 (.join (.all [(3,(.all [(4,(.rd 6 (.take 9 (.all [(7,.done)])))),(6,(.all [(4,(.take 9 (.all [(7,.done)]))),(7,(.all [(4,(.take 9 .done))]))])),(7,(.all [(4,(.rd 6 (.take 9 .done))),(6,(.all [(4,(.take 9 .done))]))]))])),(6,(.all [(3,(.all [(4,(.take 9 (.all [(7,.done)]))),(7,(.all [(4,(.take 9 .done))]))])),(7,(.all [(3,(.all [(4,(.take 9 .done))]))]))])),(7,(.all [(3,(.all [(4,(.rd 6 (.take 9 .done))),(6,(.all [(4,(.take 9 .done))]))])),(6,(.all [(3,(.all [(4,(.take 9 .done))]))]))]))]) (.all [(8,(.all [(10,(.take 11 (.all [(12,.done)])))]))]))))))
def Ec:d5:=(.take 0 (.take 2 (.take 3 (.take 4 (.take 6 (.take 7 (.take 10 (.rd 5 (.take 8 (.rd 9 (.join (.all [(1,(.all [(11,(.all [(12,(.take 13 .done))]))])),(11,(.all [(1,(.all [(12,(.take 13 .done))])),(12,(.rd 1 (.take 13 .done)))]))]) (.all [(14,.done)]))))))))))))
def Eb:d5:=(.take 0 (.take 1 (.take 3 (.take 4 (.take 7 (.rd 5 (.rd 6 (.join (.all [(2,(.all [(8,(.all [(9,.done)]))])),(8,(.all [(2,(.all [(9,.done)])),(9,(.rd 2 .done))]))]) (.all [(10,.done)])))))))))
def Ea:d5:=(.take 0 (.take 2 (.take 3 (.take 5 (.take 8 (.rd 4 (.take 6 (.rd 7 (.join (.all [(1,(.all [(9,(.all [(10,(.take 11 .done))]))])),(9,(.all [(1,(.all [(10,(.take 11 .done))])),(10,(.rd 1 (.take 11 .done)))]))]) (.all [(12,.done)]))))))))))
def WD:d5:=(.take 0 (.take 1 (.take 3 (.take 5 (.join (.all [(2,(.rd 4 (.rd 6 (.all [(7,.done)])))),(4,(.all [(2,(.rd 6 (.all [(7,.done)]))),(6,(.all [(2,(.all [(7,.done)])),(7,(.all [(2,.done)]))]))])),(6,(.all [(2,(.rd 4 (.all [(7,.done)]))),(4,(.all [(2,(.all [(7,.done)])),(7,(.all [(2,.done)]))])),(7,(.all [(2,(.rd 4 .done)),(4,(.all [(2,.done)]))]))]))]) (.all [(8,(.all [(9,(.take 10 .done))]))]))))))
def J7:d5:=(.take 0 (.take 2 (.take 5 (.take 7 (.rd 1 (.take 3 (.rd 4 (.take 10 (.join (.all [(6,(.take 8 (.all [(9,(.all [(11,(.take 12 .done))])),(11,(.rd 9 (.take 12 .done)))]))),(11,(.rd 6 (.take 8 (.rd 9 (.take 12 .done)))))]) (.all [(13,.done)]))))))))))
def D9:d5:=(.take 0 (.take 2 (.take 4 (.rd 1 (.take 6 (.join (.all [(3,(.all [(5,(.all [(7,(.take 8 (.all [(9,(.take 10 .done))])))])),(7,(.take 8 (.all [(5,(.all [(9,(.take 10 .done))])),(9,(.rd 5 (.take 10 .done)))])))])),(5,(.all [(3,(.all [(7,(.take 8 (.all [(9,(.take 10 .done))])))])),(7,(.rd 3 (.take 8 (.all [(9,(.take 10 .done))]))))])),(7,(.rd 3 (.take 8 (.all [(5,(.all [(9,(.take 10 .done))])),(9,(.rd 5 (.take 10 .done)))]))))]) (.all [(11,.done)])))))))
def D8:d5:=(.take 0 (.take 2 (.rd 1 (.take 4 (.join (.all [(3,(.all [(5,(.take 6 .done))])),(5,(.rd 3 (.take 6 .done)))]) (.all [(7,.done)]))))))
def D7:d5:=(.rd 0 (.join (.all [(1,(.all [(2,.done)])),(2,(.rd 1 .done))]) (.all [(3,.done)])))
def J6:d5:=(.take 0 (.take 2 (.take 4 (.rd 1 (.take 6 (.join (.all [(3,(.all [(5,(.all [(7,(.take 8 (.all [(9,(.take 10 .done))])))])),(7,(.take 8 (.all [(5,(.all [(9,(.take 10 .done))])),(9,(.rd 5 (.take 10 .done)))])))])),(5,(.all [(3,(.all [(7,(.take 8 (.all [(9,(.take 10 .done))])))])),(7,(.rd 3 (.take 8 (.all [(9,(.take 10 .done))]))))])),(7,(.rd 3 (.take 8 (.all [(5,(.all [(9,(.take 10 .done))])),(9,(.rd 5 (.take 10 .done)))]))))]) (.all [(11,.done)])))))))
def J5:d5:=(.take 0 (.take 2 (.rd 1 (.take 4 (.join (.all [(3,(.all [(5,(.take 6 .done))])),(5,(.rd 3 (.take 6 .done)))]) (.all [(7,.done)]))))))
def D6:d5:=(.take 0 (.take 2 (.rd 1 (.take 4 (.join (.all [(3,(.all [(5,(.take 6 .done))])),(5,(.rd 3 (.take 6 .done)))]) (.all [(7,.done)]))))))
def xP:d5:=(.take 0 (.take 2 (.take 5 (.rd 1 (.rd 3 (.rd 6 (.all [(4,(.take 8 (.all [(7,(.take 9 .done))]))),(7,(.all [(4,(.take 8 (.take 9 .done)))]))])))))))
def xO:d5:=(.take 0 (.take 3 (.rd 1 (.rd 4 (.all [(2,(.take 6 (.all [(5,(.take 7 .done))]))),(5,(.all [(2,(.take 6 (.take 7 .done)))]))])))))
def WC:d5:=(.take 0 (.take 1 (.take 2 (.take 4 (.take 7 (.take 8 (.take 9 (.take 11 (.rd 3 (.take 5 (.rd 6 (.rd 10 (.take 12 (.rd 13 (.take 14 (.rd 15 (.all [(16,(.all [(17,.done)]))])))))))))))))))))
def TQ:d5:=(.take 0 (.take 1 (.take 2 (.take 4 (.take 7 (.take 8 (.take 9 (.take 11 (.rd 3 (.take 5 (.rd 6 (.rd 10 (.take 12 (.rd 13 (.take 14 (.rd 15 (.all [(16,(.all [(17,.done)]))])))))))))))))))))
def TP:d5:=(.take 0 (.take 1 (.take 2 (.take 4 (.rd 3 (.take 6 (.take 7 (.join (.all [(5,(.all [(8,(.take 9 (.take 10 .done)))])),(8,(.rd 5 (.take 9 (.take 10 .done))))]) (.all [(11,.done)])))))))))
def TO:d5:=(.take 0 (.take 1 (.take 2 (.take 4 (.take 7 (.take 8 (.take 9 (.take 11 (.rd 10 (.rd 12 (.take 13 (.rd 14 (.join (.all [(3,(.all [(5,(.all [(6,(.all [(15,(.take 16 .done))]))])),(6,(.all [(5,(.all [(15,(.take 16 .done))])),(15,(.rd 5 (.take 16 .done)))]))])),(5,(.all [(3,(.all [(6,(.all [(15,(.take 16 .done))]))])),(6,(.all [(3,(.all [(15,(.take 16 .done))])),(15,(.rd 3 (.take 16 .done)))]))])),(6,(.all [(3,(.all [(5,(.all [(15,(.take 16 .done))])),(15,(.rd 5 (.take 16 .done)))])),(5,(.all [(3,(.all [(15,(.take 16 .done))])),(15,(.rd 3 (.take 16 .done)))])),(15,(.rd 3 (.rd 5 (.take 16 .done))))]))]) (.all [(17,.done)]))))))))))))))
def WB:d5:=(.take 0 (.take 1 (.take 2 (.take 3 (.take 5 (.take 9 (.take 10 (.take 11 (.take 13 (.rd 4 (.take 6 (.rd 7 (.rd 8 (.rd 12 (.take 14 (.rd 15 (.take 16 (.all [(17,(.all [(18,(.take 19 .done))]))]))))))))))))))))))
def Eg:d5:=(.take 0 (.take 1 (.take 2 (.take 4 (.take 5 (.rd 3 (.rd 6 (.rd 7 (.take 8 (.all [(9,(.take 10 (.all [(11,.done)])))]))))))))))
def Ef:d5:=(.take 0 (.take 1 (.take 2 (.take 4 (.join (.all [(3,(.all [(5,.done)])),(5,(.rd 3 .done))]) (.all [(6,(.all [(7,(.take 8 (.all [(9,.done)])))]))]))))))
def Ee:d5:=(.take 0 (.take 1 (.take 2 (.take 3 (.take 4 (.take 5 (.take 6 (.take 8 (.take 9 (.take 10 (.rd 7 (.rd 11 (.take 12 (.all [(13,(.take 14 (.all [(15,.done)])))]))))))))))))))
def pl6 (r:Nat):Option Way:=if r=21 then some (.calm) else none
theorem m4:pl6 21=some (.calm):=rfl
theorem aae:cQ pl6 (Tryz.f6.body.getD .skip)=true:=by kernel_rfl
def pl7 (r:Nat):Option Way:=if r=8 then some (.plan aax) else none
theorem aad:cQ pl7 (Tryz.f7.body.getD .skip)=true:=by kernel_rfl
def pf (r:Nat):Option Way:=if r=4 then some (.plan Kd) else if r=8 then some (.plan Kc) else if r=9 then some (.tail 7) else none
theorem OO:pf 4=some (.plan Kd):=rfl
theorem ON:pf 8=some (.plan Kc):=rfl
theorem OM:pf 9=some (.tail 7):=rfl
theorem V9:cQ pf (Tryz.f10.body.getD .skip)=true:=by kernel_rfl
def J4 (r:Nat):Option Way:=if r=4 then some (.reads) else none
theorem V8:cQ J4 (Tryz.f12.body.getD .skip)=true:=by kernel_rfl
def Pp (r:Nat):Option Way:=if r=6 then some (.reads) else none
theorem V7:cQ Pp (Tryz.f13.body.getD .skip)=true:=by kernel_rfl
def kn (r:Nat):Option Way:=if r=14 then some (.plan Ej) else if r=36 then some (.plan AQ) else none
theorem JY:kn 14=some (.plan Ej):=rfl
theorem BY:kn 36=some (.plan AQ):=rfl
theorem V6:cQ kn (Tryz.f19.body.getD .skip)=true:=by kernel_rfl
def Po (r:Nat):Option Way:=if r=8 then some (.calm) else none
theorem V5:cQ Po (Tryz.f20.body.getD .skip)=true:=by kernel_rfl
def Pn (r:Nat):Option Way:=if r=13 then some (.plan TS) else none
theorem V4:cQ Pn (Tryz.f22.body.getD .skip)=true:=by kernel_rfl
def iH (r:Nat):Option Way:=if r=6 then some (.plan J9) else if r=14 then some (.plan Ei) else if r=18 then some (.plan Eh) else if r=19 then some (.tail 54) else if r=29 then some (.tail 31) else none
theorem OL:iH 6=some (.plan J9):=rfl
theorem JX:iH 14=some (.plan Ei):=rfl
theorem JW:iH 18=some (.plan Eh):=rfl
theorem km:iH 19=some (.tail 54):=rfl
theorem xK:iH 29=some (.tail 31):=rfl
theorem V3:cQ iH (Tryz.f23.body.getD .skip)=true:=by kernel_rfl
def uw (r:Nat):Option Way:=if r=6 then some (.reads) else if r=11 then some (.reads) else none
theorem OK:uw 6=some (.reads):=rfl
theorem JV:uw 11=some (.reads):=rfl
theorem V2:cQ uw (Tryz.f25.body.getD .skip)=true:=by kernel_rfl
def zh (r:Nat):Option Way:=if r=8 then some (.reads) else none
theorem wB:zh 8=some (.reads):=rfl
theorem V1:cQ zh (Tryz.f33.body.getD .skip)=true:=by kernel_rfl
def mQ (r:Nat):Option Way:=if r=8 then some (.plan J8) else if r=13 then some (.plan TR) else if r=15 then some (.tail 16) else if r=17 then some (.reads) else if r=20 then some (.tail 12) else if r=23 then some (.tail 6) else none
theorem OJ:mQ 8=some (.plan J8):=rfl
theorem JU:mQ 15=some (.tail 16):=rfl
theorem JT:mQ 17=some (.reads):=rfl
theorem JS:mQ 20=some (.tail 12):=rfl
theorem JR:mQ 23=some (.tail 6):=rfl
theorem V0:cQ mQ (Tryz.f34.body.getD .skip)=true:=by kernel_rfl
def BZ (r:Nat):Option Way:=if r=7 then some (.calm) else none
theorem Ft:BZ 7=some (.calm):=rfl
theorem VZ:cQ BZ (Tryz.f37.body.getD .skip)=true:=by kernel_rfl
def zg (r:Nat):Option Way:=if r=2 then some (.reads) else if r=5 then some (.calm) else if r=7 then some (.calm) else none
theorem OI:zg 2=some (.reads):=rfl
theorem dh:zg 5=some (.calm):=rfl
theorem dg:zg 7=some (.calm):=rfl
theorem VY:cQ zg (Tryz.f39.body.getD .skip)=true:=by kernel_rfl
def iR (r:Nat):Option Way:=if r=10 then some (.plan Ed) else if r=12 then some (.plan Ec) else if r=14 then some (.plan Eb) else if r=22 then some (.plan Ea) else none
theorem JL:iR 10=some (.plan Ed):=rfl
theorem JK:iR 12=some (.plan Ec):=rfl
theorem JJ:iR 14=some (.plan Eb):=rfl
theorem JI:iR 22=some (.plan Ea):=rfl
theorem VX:cQ iR (Tryz.f42.body.getD .skip)=true:=by kernel_rfl
def Pm (r:Nat):Option Way:=if r=1 then some (.plan WD) else none
theorem VW:cQ Pm (Tryz.f52.body.getD .skip)=true:=by kernel_rfl
def Pl (r:Nat):Option Way:=if r=8 then some (.reads) else none
theorem VV:cQ Pl (Tryz.f54.body.getD .skip)=true:=by kernel_rfl
def nD (r:Nat):Option Way:=if r=8 then some (.plan J7) else if r=10 then some (.plan D9) else if r=12 then some (.plan D8) else if r=13 then some (.plan D7) else none
theorem OH:nD 8=some (.plan J7):=rfl
theorem JH:nD 10=some (.plan D9):=rfl
theorem JG:nD 12=some (.plan D8):=rfl
theorem JF:nD 13=some (.plan D7):=rfl
theorem VU:cQ nD (Tryz.f55.body.getD .skip)=true:=by kernel_rfl
def pe (r:Nat):Option Way:=if r=6 then some (.plan J6) else if r=7 then some (.calm) else if r=9 then some (.plan J5) else if r=10 then some (.calm) else if r=12 then some (.plan D6) else none
theorem OG:pe 6=some (.plan J6):=rfl
theorem cG:pe 7=some (.calm):=rfl
theorem OF:pe 9=some (.plan J5):=rfl
theorem bT:pe 10=some (.calm):=rfl
theorem JE:pe 12=some (.plan D6):=rfl
theorem VT:cQ pe (Tryz.f62.body.getD .skip)=true:=by kernel_rfl
def s8 (r:Nat):Option Way:=if r=22 then some (.reads) else none
theorem BX:s8 22=some (.reads):=rfl
theorem VS:cQ s8 (Tryz.f66.body.getD .skip)=true:=by kernel_rfl
def AP (r:Nat):Option Way:=if r=11 then some (.plan xP) else if r=13 then some (.plan xO) else none
theorem xJ:AP 11=some (.plan xP):=rfl
theorem xH:AP 13=some (.plan xO):=rfl
theorem VQ:cQ AP (Tryz.f75.body.getD .skip)=true:=by kernel_rfl
def Pk (r:Nat):Option Way:=if r=5 then some (.reads) else if r=6 then some (.plan WC) else if r=7 then some (.reads) else none
theorem VP:cQ Pk (Tryz.f80.body.getD .skip)=true:=by kernel_rfl
def Pj (r:Nat):Option Way:=if r=12 then some (.plan TQ) else if r=17 then some (.plan TP) else if r=19 then some (.plan TO) else if r=22 then some (.reads) else if r=24 then some (.tail 12) else if r=26 then some (.tail 6) else none
theorem VO:cQ Pj (Tryz.f82.body.getD .skip)=true:=by kernel_rfl
def Ph (r:Nat):Option Way:=if r=5 then some (.plan WB) else none
theorem VN:cQ Ph (Tryz.f83.body.getD .skip)=true:=by kernel_rfl
def zG (r:Nat):Option Way:=if r=1 then some (.reads) else none
theorem JQ:zG 1=some (.reads):=rfl
theorem SU:cQ zG (Tryz.f350.body.getD .skip)=true:=by kernel_rfl
def xL (r:Nat):Option Way:=if r=1 then some (.reads) else if r=2 then some (.plan Eg) else none
theorem JP:xL 1=some (.reads):=rfl
theorem JO:xL 2=some (.plan Eg):=rfl
theorem SS:cQ xL (Tryz.f351.body.getD .skip)=true:=by kernel_rfl
def zF (r:Nat):Option Way:=if r=0 then some (.plan Ef) else none
theorem JN:zF 0=some (.plan Ef):=rfl
theorem SQ:cQ zF (Tryz.f352.body.getD .skip)=true:=by kernel_rfl
def zE (r:Nat):Option Way:=if r=0 then some (.plan Ee) else none
theorem JM:zE 0=some (.plan Ee):=rfl
theorem SP:cQ zE (Tryz.f353.body.getD .skip)=true:=by kernel_rfl
def oR:Code->List (Nat × Array Oper)
 | .region id ops true=>[(id,ops)]
 | .seq a b=>oR a++oR b
 | .cond _ a b=>oR a++oR b
 | .block _ b=>oR b
 | .loop b=>oR b
 | _=>[]
def zw (P:Program) (pl:Nat->Option Way):List (Nat × Array Oper)->Prop
 | []=>True
 | (id,ops)::l=>(match pl id with
   | some w=>Ay P ops w
   | none=>True)/\zw P pl l
theorem uj (P:Program) (pl:Nat->Option Way):∀ (l m:List (Nat × Array Oper)),zw P pl (l++m)->zw P pl l/\zw P pl m
 | [],_,h=>⟨trivial,h⟩
 | (id,ops)::l,m,h=>by
   have:=uj P pl l m h.2
   exact ⟨⟨h.1,this.1⟩,this.2⟩
theorem de (P:Program) (pl:Nat->Option Way):∀ c:Code,zw P pl (oR c)->gD P pl c
 | .region _ _ true,h=>h.1
 | .region _ _ false,_=>trivial
 | .seq a b,h=>by have:=uj P pl _ _ h; exact ⟨de P pl a this.1,de P pl b this.2⟩
 | .cond _ x y,h=>by have:=uj P pl _ _ h; exact ⟨de P pl x this.1,de P pl y this.2⟩
 | .block _ b,h=>de P pl b h
 | .loop b,h=>de P pl b h
 | .skip,_=>trivial
 | .exit _,_=>trivial
 | .ret,_=>trivial
 | .rangeFunc ..,_=>trivial
 | .scope _,_=>trivial
 | .label _,_=>trivial
 | .goto _,_=>trivial
 | .refuse _,_=>trivial
def plain (pl:Nat->Option Way):Prop:=∀ id p l,pl id≠some (.known p l)
theorem bU {P:Program} {pl:Nat->Option Way} (h:plain pl):∀ l:List (Nat × Array Oper),zw P pl l
 | []=>trivial
 | (id,ops)::l=>by
   refine ⟨?_,bU h l⟩
   split
   · rename_i w hw
     cases w <;> first | trivial | exact absurd hw (h _ _ _)
   · trivial
theorem iU:∀ c:Code,cQ (fun _=>none) c=true
 | .region _ _ true=>rfl
 | .region _ _ false=>rfl
 | .seq a b=>by simp only [cQ,iU a,iU b]; rfl
 | .cond _ x y=>by simp only [cQ,iU x,iU y]; rfl
 | .block _ b=>by simp only [cQ,iU b]
 | .loop b=>by simp only [cQ,iU b]
 | .skip=>rfl
 | .exit _=>rfl
 | .ret=>rfl
 | .rangeFunc ..=>rfl
 | .scope _=>rfl
 | .label _=>rfl
 | .goto _=>rfl
 | .refuse _=>rfl
theorem TJ:plain pl6:=by
 intro id p l h
 unfold pl6 at h
 repeat' (split at h; (cases h))
 cases h
theorem TI:plain pl7:=by
 intro id p l h
 unfold pl7 at h
 repeat' (split at h; (cases h))
 cases h
theorem Pc:plain pf:=by
 intro id p l h
 unfold pf at h
 repeat' (split at h; (cases h))
 cases h
theorem Pb:plain J4:=by
 intro id p l h
 unfold J4 at h
 repeat' (split at h; (cases h))
 cases h
theorem Pa:plain Pp:=by
 intro id p l h
 unfold Pp at h
 repeat' (split at h; (cases h))
 cases h
theorem O9:plain kn:=by
 intro id p l h
 unfold kn at h
 repeat' (split at h; (cases h))
 cases h
theorem O8:plain Po:=by
 intro id p l h
 unfold Po at h
 repeat' (split at h; (cases h))
 cases h
theorem O7:plain Pn:=by
 intro id p l h
 unfold Pn at h
 repeat' (split at h; (cases h))
 cases h
theorem O6:plain iH:=by
 intro id p l h
 unfold iH at h
 repeat' (split at h; (cases h))
 cases h
theorem O5:plain uw:=by
 intro id p l h
 unfold uw at h
 repeat' (split at h; (cases h))
 cases h
theorem O4:plain zh:=by
 intro id p l h
 unfold zh at h
 repeat' (split at h; (cases h))
 cases h
theorem O3:plain mQ:=by
 intro id p l h
 unfold mQ at h
 repeat' (split at h; (cases h))
 cases h
theorem O2:plain BZ:=by
 intro id p l h
 unfold BZ at h
 repeat' (split at h; (cases h))
 cases h
theorem O1:plain zg:=by
 intro id p l h
 unfold zg at h
 repeat' (split at h; (cases h))
 cases h
theorem O0:plain iR:=by
 intro id p l h
 unfold iR at h
 repeat' (split at h; (cases h))
 cases h
theorem OZ:plain Pm:=by
 intro id p l h
 unfold Pm at h
 repeat' (split at h; (cases h))
 cases h
theorem OY:plain Pl:=by
 intro id p l h
 unfold Pl at h
 repeat' (split at h; (cases h))
 cases h
theorem OX:plain nD:=by
 intro id p l h
 unfold nD at h
 repeat' (split at h; (cases h))
 cases h
theorem OW:plain pe:=by
 intro id p l h
 unfold pe at h
 repeat' (split at h; (cases h))
 cases h
theorem OV:plain s8:=by
 intro id p l h
 unfold s8 at h
 repeat' (split at h; (cases h))
 cases h
theorem OU:plain AP:=by
 intro id p l h
 unfold AP at h
 repeat' (split at h; (cases h))
 cases h
theorem OT:plain Pk:=by
 intro id p l h
 unfold Pk at h
 repeat' (split at h; (cases h))
 cases h
theorem OQ:plain Pj:=by
 intro id p l h
 unfold Pj at h
 repeat' (split at h; (cases h))
 cases h
theorem OP:plain Ph:=by
 intro id p l h
 unfold Ph at h
 repeat' (split at h; (cases h))
 cases h
theorem J2:plain zG:=by
 intro id p l h
 unfold zG at h
 repeat' (split at h; (cases h))
 cases h
theorem J1:plain xL:=by
 intro id p l h
 unfold xL at h
 repeat' (split at h; (cases h))
 cases h
theorem J0:plain zF:=by
 intro id p l h
 unfold zF at h
 repeat' (split at h; (cases h))
 cases h
theorem JZ:plain zE:=by
 intro id p l h
 unfold zE at h
 repeat' (split at h; (cases h))
 cases h
def plN:Nat->Option Way:=fun _=>none
def plQ (f:FuncId):Nat->Option Way:=if f=6 then pl6 else if f=7 then pl7 else if f=10 then pf else if f=12 then J4 else if f=13 then Pp else if f=19 then kn else if f=20 then Po else if f=22 then Pn else if f=23 then iH else if f=25 then uw else if f=33 then zh else if f=34 then mQ else if f=37 then BZ else if f=39 then zg else if f=42 then iR else if f=52 then Pm else if f=54 then Pl else if f=55 then nD else if f=62 then pe else if f=66 then s8 else if f=75 then AP else if f=80 then Pk else if f=82 then Pj else if f=83 then Ph else if f=350 then zG else if f=351 then xL else if f=352 then zF else if f=353 then zE else plN
theorem TM (f:FuncId) (fn:Func) (c:Code) (hf:aa.funcs[f]? =some fn) (hc:fn.body=some c):cQ (plQ f) c=true/\gD aa (plQ f) c:=by
 by_cases h6:f=6
 · subst h6
   obtain rfl:=aE (Tryz.func6.symm.trans hf)
   have:=aae
   rw [hc] at this; exact ⟨this,de _ _ _ (bU TJ _)⟩
 by_cases h7:f=7
 · subst h7
   obtain rfl:=aE (Tryz.func7.symm.trans hf)
   have:=aad
   rw [hc] at this; exact ⟨this,de _ _ _ (bU TI _)⟩
 by_cases h10:f=10
 · subst h10
   obtain rfl:=aE (Tryz.func10.symm.trans hf)
   have:=V9
   rw [hc] at this; exact ⟨this,de _ _ _ (bU Pc _)⟩
 by_cases h12:f=12
 · subst h12
   obtain rfl:=aE (Tryz.func12.symm.trans hf)
   have:=V8
   rw [hc] at this; exact ⟨this,de _ _ _ (bU Pb _)⟩
 by_cases h13:f=13
 · subst h13
   obtain rfl:=aE (Tryz.func13.symm.trans hf)
   have:=V7
   rw [hc] at this; exact ⟨this,de _ _ _ (bU Pa _)⟩
 by_cases h19:f=19
 · subst h19
   obtain rfl:=aE (Tryz.func19.symm.trans hf)
   have:=V6
   rw [hc] at this; exact ⟨this,de _ _ _ (bU O9 _)⟩
 by_cases h20:f=20
 · subst h20
   obtain rfl:=aE (Tryz.func20.symm.trans hf)
   have:=V5
   rw [hc] at this; exact ⟨this,de _ _ _ (bU O8 _)⟩
 by_cases h22:f=22
 · subst h22
   obtain rfl:=aE (Tryz.func22.symm.trans hf)
   have:=V4
   rw [hc] at this; exact ⟨this,de _ _ _ (bU O7 _)⟩
 by_cases h23:f=23
 · subst h23
   obtain rfl:=aE (Tryz.func23.symm.trans hf)
   have:=V3
   rw [hc] at this; exact ⟨this,de _ _ _ (bU O6 _)⟩
 by_cases h25:f=25
 · subst h25
   obtain rfl:=aE (Tryz.func25.symm.trans hf)
   have:=V2
   rw [hc] at this; exact ⟨this,de _ _ _ (bU O5 _)⟩
 by_cases h33:f=33
 · subst h33
   obtain rfl:=aE (Tryz.func33.symm.trans hf)
   have:=V1
   rw [hc] at this; exact ⟨this,de _ _ _ (bU O4 _)⟩
 by_cases h34:f=34
 · subst h34
   obtain rfl:=aE (Tryz.func34.symm.trans hf)
   have:=V0
   rw [hc] at this; exact ⟨this,de _ _ _ (bU O3 _)⟩
 by_cases h37:f=37
 · subst h37
   obtain rfl:=aE (Tryz.func37.symm.trans hf)
   have:=VZ
   rw [hc] at this; exact ⟨this,de _ _ _ (bU O2 _)⟩
 by_cases h39:f=39
 · subst h39
   obtain rfl:=aE (Tryz.func39.symm.trans hf)
   have:=VY
   rw [hc] at this; exact ⟨this,de _ _ _ (bU O1 _)⟩
 by_cases h42:f=42
 · subst h42
   obtain rfl:=aE (Tryz.func42.symm.trans hf)
   have:=VX
   rw [hc] at this; exact ⟨this,de _ _ _ (bU O0 _)⟩
 by_cases h52:f=52
 · subst h52
   obtain rfl:=aE (Tryz.func52.symm.trans hf)
   have:=VW
   rw [hc] at this; exact ⟨this,de _ _ _ (bU OZ _)⟩
 by_cases h54:f=54
 · subst h54
   obtain rfl:=aE (Tryz.func54.symm.trans hf)
   have:=VV
   rw [hc] at this; exact ⟨this,de _ _ _ (bU OY _)⟩
 by_cases h55:f=55
 · subst h55
   obtain rfl:=aE (Tryz.func55.symm.trans hf)
   have:=VU
   rw [hc] at this; exact ⟨this,de _ _ _ (bU OX _)⟩
 by_cases h62:f=62
 · subst h62
   obtain rfl:=aE (Tryz.func62.symm.trans hf)
   have:=VT
   rw [hc] at this; exact ⟨this,de _ _ _ (bU OW _)⟩
 by_cases h66:f=66
 · subst h66
   obtain rfl:=aE (Tryz.func66.symm.trans hf)
   have:=VS
   rw [hc] at this; exact ⟨this,de _ _ _ (bU OV _)⟩
 by_cases h75:f=75
 · subst h75
   obtain rfl:=aE (Tryz.func75.symm.trans hf)
   have:=VQ
   rw [hc] at this; exact ⟨this,de _ _ _ (bU OU _)⟩
 by_cases h80:f=80
 · subst h80
   obtain rfl:=aE (Tryz.func80.symm.trans hf)
   have:=VP
   rw [hc] at this; exact ⟨this,de _ _ _ (bU OT _)⟩
 by_cases h82:f=82
 · subst h82
   obtain rfl:=aE (Tryz.func82.symm.trans hf)
   have:=VO
   rw [hc] at this; exact ⟨this,de _ _ _ (bU OQ _)⟩
 by_cases h83:f=83
 · subst h83
   obtain rfl:=aE (Tryz.func83.symm.trans hf)
   have:=VN
   rw [hc] at this; exact ⟨this,de _ _ _ (bU OP _)⟩
 by_cases h350:f=350
 · subst h350
   obtain rfl:=aE (Tryz.func350.symm.trans hf)
   have:=SU
   rw [hc] at this; exact ⟨this,de _ _ _ (bU J2 _)⟩
 by_cases h351:f=351
 · subst h351
   obtain rfl:=aE (Tryz.func351.symm.trans hf)
   have:=SS
   rw [hc] at this; exact ⟨this,de _ _ _ (bU J1 _)⟩
 by_cases h352:f=352
 · subst h352
   obtain rfl:=aE (Tryz.func352.symm.trans hf)
   have:=SQ
   rw [hc] at this; exact ⟨this,de _ _ _ (bU J0 _)⟩
 by_cases h353:f=353
 · subst h353
   obtain rfl:=aE (Tryz.func353.symm.trans hf)
   have:=SP
   rw [hc] at this; exact ⟨this,de _ _ _ (bU JZ _)⟩
 have hq:plQ f=plN:=by unfold plQ; rw [if_neg h6,if_neg h7,if_neg h10,if_neg h12,if_neg h13,if_neg h19,if_neg h20,if_neg h22,if_neg h23,if_neg h25,if_neg h33,if_neg h34,if_neg h37,if_neg h39,if_neg h42,if_neg h52,if_neg h54,if_neg h55,if_neg h62,if_neg h66,if_neg h75,if_neg h80,if_neg h82,if_neg h83,if_neg h350,if_neg h351,if_neg h352,if_neg h353]
 rw [hq]
 exact ⟨iU c,de _ _ _ (bU (by intro _ _ _ h; cases h) _)⟩
noncomputable def W0:ph aa:=⟨plQ,TM⟩
end Go.Dv
namespace Go.Dv
def cb {α:Type} (b:Bool) (x y:α):α:=cond b x y
def br {α:Type} (b:Bool) (x y:α):α:=cond b x y
theorem bC {α:Type} {b b':Bool} (h:b=b') (x y:α):cb b x y=cb b' x y:=by rw [h]
theorem F8 {α:Type} (b:Bool) (x y:α):cb b x y=br b x y:=rfl
theorem dO {α:Type} (x y:α):br true x y=x:=rfl
theorem ct {α:Type} (x y:α):br false x y=y:=rfl
theorem Bq {α:Type} (b:Bool) (x y:α):br (!b) x y=br b y x:=by cases b <;> rfl
theorem bD {α:Type} {b b':Bool} {x x' y y':α} (h:b=b') (hx:b'=true->x=x') (hy:b'=false->y=y'):br b x y=br b' x' y':=by
 subst h; cases b
 · exact hy rfl
 · exact hx rfl
theorem wP {α β:Type} (b:Bool) (x y:Option α) (k:α->Option β):(br b x y).bind k=br b (x.bind k) (y.bind k):=by cases b <;> rfl
theorem wO (b x y:Bool) (H:AH):br b (some (AV.bool x,H)) (some (AV.bool y,H))=some (.bool (br b x y),H):=by cases b <;> rfl
theorem Br (b:Bool) (k:IntKind) (x y:Int) (H:AH):br b (some (AV.int k x,H)) (some (AV.int k y,H))=some (.int k (br b x y),H):=by cases b <;> rfl
theorem wN (b x y x' y':Bool) (H:AH):br b (some (AV.tuple [.bool x,.bool y],H)) (some (AV.tuple [.bool x',.bool y'],H))=some (.tuple [.bool (br b x x'),.bool (br b y y')],H):=by cases b <;> rfl
theorem wM (b x y z x' y' z':Bool) (H:AH):br b (some (AV.tuple [.bool x,.bool y,.bool z],H)) (some (AV.tuple [.bool x',.bool y',.bool z'],H))=some (.tuple [.bool (br b x x'),.bool (br b y y'),.bool (br b z z')],H):=by cases b <;> rfl
def ltB (a b:Int):Bool:=decide (a < b)
def leB (a b:Int):Bool:=decide (a<=b)
def eqB (a b:Int):Bool:=a == b
theorem A7 (k:IntKind) (a b:Int):fh .lss k a b=some (.bool (ltB a b)):=rfl
theorem A8 (k:IntKind) (a b:Int):fh .leq k a b=some (.bool (leB a b)):=rfl
theorem A9 (k:IntKind) (a b:Int):fh .gtr k a b=some (.bool (ltB b a)):=rfl
theorem Ba (k:IntKind) (a b:Int):fh .geq k a b=some (.bool (leB b a)):=rfl
theorem Bb (k:IntKind) (a b:Int):fh .eql k a b=some (.bool (eqB a b)):=rfl
theorem A6 (k:IntKind) (a b:Int):fh .neq k a b=some (.bool (!eqB a b)):=rfl
theorem Bc (k:IntKind) (a b:Int):fh .add k a b=some (.int k (k.wrap (a+b))):=rfl
theorem A5 (k:IntKind) (a b:Int):fh .sub k a b=some (.int k (k.wrap (a - b))):=rfl
theorem cD {a b:Int} (h:a < b):ltB a b=true:=by simp [ltB,h]
theorem cH {a b:Int} (h:b<=a):ltB a b=false:=by simp [ltB]; omega
theorem zN {a b:Int} (h:a<=b):leB a b=true:=by simp [leB,h]
theorem W8 {a b:Int} (h:b < a):leB a b=false:=by simp [leB]; omega
theorem kH {a b:Int} (h:a=b):eqB a b=true:=by simp [eqB,h]
theorem fU {a b:Int} (h:a≠b):eqB a b=false:=by simp [eqB,h]
theorem dm (a b:Int):ltB a b=true↔a < b:=by simp [ltB]
theorem dn (a b:Int):leB a b=true↔a<=b:=by simp [leB]
theorem cU (a b:Int):eqB a b=true↔a=b:=by simp [eqB]
theorem fS (a b:Int):ltB a b=false↔b<=a:=by simp [ltB]
theorem mG (a b:Int):leB a b=false↔b < a:=by simp [leB]
theorem pU (a b:Int):eqB a b=false↔a≠b:=by simp [eqB]
def vJ {α:Type} (v:AV) (x y:Option α):Option α:=match v with
 | .bool b=>cb b x y
 | _=>none
theorem aY {α:Type} {v v':AV} (h:v=v') (x y:Option α):vJ v x y=vJ v' x y:=by rw [h]
theorem jf {α:Type} (b:Bool) (x y:Option α):vJ (.bool b) x y=cb b x y:=rfl
def gd {α:Type} (y:Option Bool) (b:Bool) (x z:α):α:=if y == some b then x else z
theorem l9:Bs uA=none:=rfl
theorem bB {α:Type} {y y':Option Bool} (h:y=y') (b:Bool) (x z:α):gd y b x z=gd y' b x z:=by rw [h]
theorem Cr {α:Type} (c:Bool) (x z:α):gd (some c) true x z=cb c x z:=by cases c <;> rfl
theorem Cs {α:Type} (c:Bool) (x z:α):gd (some c) false x z=cb c z x:=by cases c <;> rfl
theorem ng {α:Type} (b:Bool) (x z:α):gd none b x z=z:=by cases b <;> rfl
section
variable {P:Program} {C:Cfg P} {W:ph P} {pl:Nat->Option Way}
theorem qY (q:Operand) (x y:Code) (s:St):EvC P C W pl (.cond q x y) s=(cP C.gl s.1 q).bind fun v=>vJ v (EvC P C W pl x s) (EvC P C W pl y s):=by
 rw [Ny]
 cases cP C.gl s.1 q with
 | none=>rfl
 | some v=>cases v <;> first | rfl | (rename_i b; cases b <;> rfl)
theorem lV (call:bY) (slot:Option Nat) (ops:Array Oper) (dst:Option Tmp) (op:Op) (ty:TypeId) (pos:String) (after:Array Edge) (j:Nat) (b:Bool) (tm:List AV) (H:AH) :
   vk P C call slot ops ⟨dst,op,ty,pos,after,some (j,b)⟩ (tm,H)=gd (cY ops tm j) b ((aop P C slot (cP C.gl tm) ⟨dst,op,ty,pos,after,some (j,b)⟩ H).bind fun r=>match r with
     | (.val v,H')=>some (ef dst v tm,H')
     | (.skip,H')=>some (ef dst uA tm,H')
     | (.enter f args,H')=>(call f args H').bind fun r=>some (ef dst r.1 tm,r.2))
     (some (ef dst uA tm,H)):=rfl
theorem bG (gl:GL) (ops:Array Oper) (dst:Option Tmp) (op:Op) (ty:TypeId) (pos:String) (after:Array Edge) (j:Nat) (b:Bool) (tm:List AV):D4 P gl ops ⟨dst,op,ty,pos,after,some (j,b)⟩ tm=gd (cY ops tm j) b (cR P (cP gl tm) ⟨dst,op,ty,pos,after,some (j,b)⟩) (some uA):=rfl
theorem kT (gl:GL) (ops:Array Oper) (dst:Option Tmp) (op:Op) (ty:TypeId) (pos:String) (after:Array Edge) (j:Nat) (b:Bool) (os:List Oper) (tm:List AV) (H:AH):js P gl ops (⟨dst,op,ty,pos,after,some (j,b)⟩::os) (tm,H) =
   gd (cY ops tm j) b ((fm P (cP gl tm) ⟨dst,op,ty,pos,after,some (j,b)⟩ H).bind fun v=>js P gl ops os (ef dst v tm,H)) (js P gl ops os (ef dst uA tm,H)):=rfl
theorem kX (call:bY) (ops:Array Oper) (dst:Option Tmp) (op:Op) (ty:TypeId) (pos:String) (after:Array Edge) (j:Nat) (b:Bool) (os:List Oper) (tm:List AV) (H:AH):gO P C call ops (⟨dst,op,ty,pos,after,some (j,b)⟩::os) (tm,H) =
   gd (cY ops tm j) b ((gK P C call (cP C.gl tm) ⟨dst,op,ty,pos,after,some (j,b)⟩ H).bind fun v=>gO P C call ops os (ef dst v tm,H)) (gO P C call ops os (ef dst uA tm,H)):=rfl
section
variable (slot:Option Nat) (ev:Operand->Option AV) (dst:Option Tmp) (ty:TypeId) (pos:String) (after:Array Edge) (g:Option (Nat × Bool)) (H:AH)
theorem qR (c a b:Operand):aop P C slot ev ⟨dst,.pick c a b,ty,pos,after,g⟩ H=(ev c).bind fun cv=>vJ cv ((ev a).map fun v=>(.val v,H)) ((ev b).map fun v=>(.val v,H)):=by
 rw [Nm]
 cases ev c with
 | none=>rfl
 | some v=>cases v <;> first | rfl | (rename_i b; cases b <;> rfl)
theorem d6 (c a b:Operand):cR P ev ⟨dst,.pick c a b,ty,pos,after,g⟩=(ev c).bind fun cv=>vJ cv (ev a) (ev b):=by
 rw [TF]
 cases ev c with
 | none=>rfl
 | some v=>cases v <;> first | rfl | (rename_i b; cases b <;> rfl)
theorem sX (c a b:Operand):fm P ev ⟨dst,.pick c a b,ty,pos,after,g⟩ H=(ev c).bind fun cv=>vJ cv (ev a) (ev b):=d6 (P:=P) ev dst ty pos after g c a b
end
theorem FT {H G:AH} {v:AV} (h:oG H v=true):kF true H (v,G)=some (v,H):=by
 unfold kF
 simp only [if_true,h]
theorem tI (call:bY) (ev:Operand->Option AV) (dst:Option Tmp) (ty:TypeId) (pos:String) (after:Array Edge) (g:Option (Nat × Bool)) (H:AH) (c a b:Operand):gK P C call ev ⟨dst,.pick c a b,ty,pos,after,g⟩ H=(ev c).bind fun cv=>vJ cv (ev a) (ev b):=d6 (P:=P) ev dst ty pos after g c a b
theorem g8 (H G:AH) (b:Bool):kF true H (.bool b,G)=some (.bool b,H):=rfl
theorem wE (H G:AH) (k:IntKind) (n:Int):kF true H (.int k n,G)=some (.int k n,H):=rfl
theorem tE (H G:AH) (a b:Bool):kF true H (.tuple [.bool a,.bool b],G)=some (.tuple [.bool a,.bool b],H):=rfl
theorem tD (H G:AH) (a b c:Bool):kF true H (.tuple [.bool a,.bool b,.bool c],G)=some (.tuple [.bool a,.bool b,.bool c],H):=rfl
theorem Bh (H G:AH) (a:Bool) (k:IntKind) (n:Int):kF true H (.tuple [.bool a,.int k n],G)=some (.tuple [.bool a,.int k n],H):=rfl
end
end Go.Dv
namespace Go.Dv
open Go.Proofs
theorem Kn:aa.funcs.toList.all (fun g=>!(g.name == "runtime.NumGoroutine"))=true:=by kernel_rfl
theorem FB (f:Nat) (g:Func) (h:aa.funcs[f]? =some g):(g.name == "runtime.NumGoroutine")=false:=by
 have:=List.all_eq_true.1 Kn g (by
   have h':aa.funcs.toList[f]? =some g:=by simpa using h
   exact List.mem_of_getElem? h')
 simpa using this
def eA:List AV:=Lib.asciiSpaceTab.map fun n=>.int .u8 n
def dr:List ByteArray:=[⟨#[102,117,110,99]⟩,⟨#[107,101,114,110,101,108]⟩,⟨#[98,117,102,102,101,114]⟩,⟨#[105,110,116]⟩,⟨#[115,104,97,114,101,100]⟩,⟨#[108,101,116]⟩,⟨#[105,102]⟩,⟨#[101,108,115,101]⟩,⟨#[119,104,105,108,101]⟩,⟨#[98,114,101,97,107]⟩,⟨#[99,111,110,116,105,110,117,101]⟩,⟨#[114,101,116,117,114,110]⟩,⟨#[98,97,114,114,105,101,114]⟩,⟨#[97,116,111,109,105,99]⟩,⟨#[99,111,108,108,101,99,116]⟩,⟨#[116,105,100]⟩,⟨#[98,105,100]⟩,⟨#[100,105,109]⟩,⟨#[103,114,105,100]⟩,⟨#[109,105,110]⟩,⟨#[109,97,120]⟩,⟨#[97,100,100]⟩,⟨#[97,110,100]⟩,⟨#[111,114]⟩,⟨#[120,111,114]⟩]
def ue:List (AV × AV × Nat):=(List.zip dr (List.range 25)).map fun p=>(.str p.1,.bool true,p.2)
def wg:bY:=fun f args H=>match args with
 | []=>if f=130 then some (.map H.length,H++[.map ue 25]) else none
 | _=>none
noncomputable def K1:Cfg aa:={ gl:=fun x=>if x=0 then some 0 else none,pin:=oe 0 eA,orc:=fun _ _ _=>none,orcOk:=(by intro _ _ _ _ _ _ _ _ h; cases h),meth:=fun _ _=>none,methOk:=(by intro t n f h; cases h),name:=FB,mixed:=Tryz.checked.mixed,pinRo:=fun w0 Pr φ H w h hW=>oe.later h hW }
theorem Ff:Bx K1 [.arg eA]:=DQ rfl rfl
theorem bP {f:Nat} (h:(aa.funcs[f]?).map (fun fn=>fn.body.isSome)=some true) (C:Cfg aa) (slot:Option Nat) (ev:Operand->Option AV) (H:AH) (o:Oper) (xs:Array Operand) (ats:Array TypeId)
   (he:ev (.func f)=some (.func (.func f) [] [])):fZ aa C slot ev o ⟨.value (.func f),xs,ats⟩ H=(evL ev xs.toList).map fun vs=>(.enter f vs,H):=Zk h slot ev H o xs ats he
end Go.Dv
namespace Go.Dv
section
variable {P:Program} {C:Cfg P} {W:ph P} {pl:Nat->Option Way}
theorem sA {n:Nat} {c:Code} {s:St} {r:bs × St} (h:evC P C (cO P C W n) pl n c s=some r):EvC P C W pl c s=some r:=uJ (fA cJ c s) h
def lL (P:Program) (C:Cfg P) (W:ph P) (pl:Nat->Option Way) (n:Nat) (b:Code):Nat->St->Option St
 | 0,s=>some s
 | k+1,s=>match evC P C (cO P C W n) pl n b s with
   | some (.normal,s')=>lL P C W pl n b k s'
   | _=>none
theorem gV {n:Nat} {b:Code}:∀ (k:Nat) {s s':St},lL P C W pl n b k s=some s'->EvC P C W pl (.loop b) s=EvC P C W pl (.loop b) s'
 | 0,s,s',h=>by cases h; rfl
 | k+1,s,s',h=>by
   unfold lL at h
   split at h
   · rename_i s1 h1
     rw [bf,sA h1]
     exact gV k h
   · cases h
end
end Go.Dv
namespace Go.Dv
def AO (es:List (AV × AV × Nat)):Bool:=es.all fun e=>(toV e.1).isSome && (toV e.2.1).isSome
theorem Nv {φ ψ:Env}:∀ (es:List (AV × AV × Nat)) (l:List MapEntry),AO es=true->MR φ es l->MR ψ es l
 | [],_,_,r=>r
 | (_,_,_)::es,_,h,⟨e,l',q,rk,rv,rn,rs⟩=>by
   simp only [AO,List.all_cons,Bool.and_eq_true] at h
   exact ⟨e,l',q,AA h.1.1 rk,AA h.1.2 rv,rn,Nv es _ h.2 rs⟩
def Cu (f:FuncId) (es:List (AV × AV × Nat)) (n:Nat):bY:=fun g args H=>match args with
 | []=>if g=f then some (.map H.length,H++[.map es n]) else none
 | _=>none
theorem Ct {P:Program} {C:Cfg P} {W:ph P} {G:AH} (hst:Bx C G) {f:FuncId} {i n:Nat} {es:List (AV × AV × Nat)} {G':AH} (he:Ev P C W f [] G=some (.map i,G')) (hi:G'[i]? =some (.map es n)) (hes:AO es=true) (gl:GL) (w0:World) (Pr:Nat->Prop) (hpin:C.pin w0 Pr):iE P gl w0 Pr (Cu f es n):=by
 intro g args H v H' h φ w vs _ hW hr
 unfold Cu at h
 split at h
 · split at h
   · rename_i hg
     cases h
     subst hg
     have hv:vs=#[]:=by
       have:=hr.length
       simp at this; exact Array.eq_empty_of_size_eq_zero this.symm
     subst hv
     obtain ⟨φ0,hW0,hg0,hp0⟩:=hst w0 Pr φ H w hpin hW
     have:=Dw hp0 g [] G _ _ he φ0 w #[] hg0 hW0 (.nil _)
     refine this.mono fun e w' hw=>?_
     obtain ⟨φ',u,hle,he,hu,hW'⟩:=hw
     have hL:=hW.later hW'.size hW'.old hW'.os hW'.tape hW'.output
     obtain ⟨b,z,es',hφ,hb,hm⟩:=hW'.obj i _ hi
     have hown:jX G' i:=⟨_,hi,rfl⟩
     have hnp:=hW'.own i _ hown hφ
     simp only [Nat.not_lt] at hnp
     have hbs:=hW'.lt i _ hφ
     obtain ⟨hl,hA⟩:=hL.Sy (slot:=none) (o:=.map es n) (i:=H.length) (H':=H++[.map es n]) rfl (b:=b) (off:=0) (z:=z) hbs (fun hp=>by
       have h1:=hW.prLt b hp
       have h2:=hW.size
       omega) (fun j x _ hx e=>by
       have:=hW.lt j x hx
       omega) ⟨b,z,es',Env.dL _ _ _,hb,Nv es _ hes hm⟩ rfl
     obtain ⟨b',z',h2,rfl⟩:=hu
     rw [hφ] at h2
     cases h2
     exact ⟨_,_,hl,he,⟨b,z,Env.dL _ _ _,rfl⟩,hA⟩
   · cases h
 · cases h
end Go.Dv
