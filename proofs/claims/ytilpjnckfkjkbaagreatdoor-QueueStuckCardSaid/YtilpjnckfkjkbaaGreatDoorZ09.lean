/- Part 09 of the walks (own work). -/
import Derived.Test.YtilpjnckfkjkbaaGreatDoorZ08
import Derived.Test.YtilpjnckfkjkbaaGreatDoorProg
import Derived.KernelRfl
import Derived.Test.YtilpjnckfkjkbaaGreatDoorChecked
import Derived.Lib.Space
set_option maxRecDepth 100000
set_option maxHeartbeats 4000000
set_option linter.unusedSimpArgs false
set_option linter.unusedVariables false
namespace Go.Dv
open Go.Proofs
set_option maxRecDepth 1000000
def p7_8:Plan:=(.take 0 (.take 2 (.take 4 (.rd 1 (.rd 3 (.take 5 (.rd 6 (.all [(7,(.all [(8,(.take 9 (.all [(10,.done)])))]))]))))))))
def p10_4:Plan:=(.take 0 (.take 2 (.take 5 (.join (.all [(1,(.all [(3,(.rd 4 (.rd 6 (.all [(7,.done)])))),(4,(.all [(3,(.rd 6 (.all [(7,.done)]))),(6,(.all [(3,(.all [(7,.done)])),(7,(.all [(3,.done)]))]))])),(6,(.all [(3,(.rd 4 (.all [(7,.done)]))),(4,(.all [(3,(.all [(7,.done)])),(7,(.all [(3,.done)]))])),(7,(.all [(3,(.rd 4 .done)),(4,(.all [(3,.done)]))]))]))])),(4,(.all [(1,(.all [(3,(.rd 6 (.all [(7,.done)]))),(6,(.all [(3,(.all [(7,.done)])),(7,(.all [(3,.done)]))]))])),(6,(.all [(1,(.all [(3,(.all [(7,.done)])),(7,(.all [(3,.done)]))])),(7,(.all [(1,(.all [(3,.done)]))]))]))])),(6,(.all [(1,(.all [(3,(.rd 4 (.all [(7,.done)]))),(4,(.all [(3,(.all [(7,.done)])),(7,(.all [(3,.done)]))])),(7,(.all [(3,(.rd 4 .done)),(4,(.all [(3,.done)]))]))])),(4,(.all [(1,(.all [(3,(.all [(7,.done)])),(7,(.all [(3,.done)]))])),(7,(.all [(1,(.all [(3,.done)]))]))])),(7,(.all [(1,(.all [(3,(.rd 4 .done)),(4,(.all [(3,.done)]))])),(4,(.all [(1,(.all [(3,.done)]))]))]))]))]) (.all [(8,(.all [(9,(.take 10 .done))]))])))))
def p10_8:Plan:=(.take 0 (.take 3 (.take 6 (.rd 1 (.join (.all [(2,(.rd 4 (.all [(5,(.rd 7 (.take 9 .done))),(7,(.take 9 (.all [(5,.done)])))]))),(4,(.all [(2,(.all [(5,(.rd 7 (.take 9 .done))),(7,(.take 9 (.all [(5,.done)])))])),(7,(.all [(2,(.take 9 (.all [(5,.done)])))]))])),(7,(.all [(2,(.rd 4 (.take 9 (.all [(5,.done)])))),(4,(.all [(2,(.take 9 (.all [(5,.done)])))]))]))]) (.all [(8,(.all [(10,(.take 11 (.all [(12,(.take 13 (.all [(14,.done)])))])))]))]))))))
def p19_36:Plan:=(.take 0 (.take 1 (.take 2 (.take 3 (.take 4 (.rd 5 (.take 6 (.take 7 (.take 8 (.rd 9 (.take 10 (.all [(11,(.take 12 (.all [(13,.done)])))]))))))))))))
def p22_13:Plan:=(.take 0 (.take 1 (.take 2 (.take 3 (.take 4 (.rd 5 (.take 6 (.take 7 (.take 8 (.rd 9 (.take 10 (.all [(11,(.take 12 (.all [(13,.done)])))]))))))))))))
def p19_14:Plan:=(.take 0 (.take 4 (.rd 1 (.rd 2 (.rd 5 (.rd 6 (.all [(3,(.take 8 (.all [(7,(.take 9 .done))]))),(7,(.all [(3,(.take 8 (.take 9 .done)))]))])))))))
def p23_6:Plan:=(.take 0 (.take 1 (.take 2 (.take 3 (.take 4 (.take 8 (.take 9 (.take 10 (.take 11 (.rd 5 (.take 6 (.rd 7 (.rd 12 (.take 13 (.rd 14 (.all [(15,(.all [(16,.done)]))]))))))))))))))))
def p23_14:Plan:=(.take 0 (.take 1 (.take 2 (.take 3 (.take 4 (.take 8 (.take 9 (.take 10 (.take 11 (.rd 5 (.take 6 (.rd 7 (.rd 12 (.take 13 (.rd 14 (.all [(15,(.all [(16,.done)]))]))))))))))))))))
def p23_18:Plan:=(.take 0 (.take 1 (.take 2 (.take 3 (.take 4 (.take 8 (.take 9 (.take 10 (.take 11 (.rd 5 (.take 6 (.rd 7 (.rd 12 (.take 13 (.rd 14 (.all [(15,(.all [(16,.done)]))]))))))))))))))))
def p34_8:Plan:=(.take 0 (.take 1 (.take 2 (.take 4 (.take 7 (.take 8 (.take 9 (.take 11 (.rd 3 (.take 5 (.rd 6 (.rd 10 (.take 12 (.rd 13 (.take 14 (.rd 15 (.all [(16,(.all [(17,.done)]))])))))))))))))))))
def p34_13:Plan:=(.take 0 (.take 1 (.take 2 (.take 4 (.rd 3 (.take 6 (.take 7 (.join (.all [(5,(.all [(8,(.take 9 (.take 10 .done)))])),(8,(.rd 5 (.take 9 (.take 10 .done))))]) (.all [(11,.done)])))))))))
def p42_10:Plan:=(.take 0 (.take 5 (.rd 1 (.rd 2 (.join (.all [(3,(.all [(4,(.rd 6 (.take 9 (.all [(7,.done)])))),(6,(.all [(4,(.take 9 (.all [(7,.done)]))),(7,(.all [(4,(.take 9 .done))]))])),(7,(.all [(4,(.rd 6 (.take 9 .done))),(6,(.all [(4,(.take 9 .done))]))]))])),(6,(.all [(3,(.all [(4,(.take 9 (.all [(7,.done)]))),(7,(.all [(4,(.take 9 .done))]))])),(7,(.all [(3,(.all [(4,(.take 9 .done))]))]))])),(7,(.all [(3,(.all [(4,(.rd 6 (.take 9 .done))),(6,(.all [(4,(.take 9 .done))]))])),(6,(.all [(3,(.all [(4,(.take 9 .done))]))]))]))]) (.all [(8,(.all [(10,(.take 11 (.all [(12,.done)])))]))]))))))
def p42_12:Plan:=(.take 0 (.take 2 (.take 3 (.take 4 (.take 6 (.take 7 (.take 10 (.rd 5 (.take 8 (.rd 9 (.join (.all [(1,(.all [(11,(.all [(12,(.take 13 .done))]))])),(11,(.all [(1,(.all [(12,(.take 13 .done))])),(12,(.rd 1 (.take 13 .done)))]))]) (.all [(14,.done)]))))))))))))
def p42_14:Plan:=(.take 0 (.take 1 (.take 3 (.take 4 (.take 7 (.rd 5 (.rd 6 (.join (.all [(2,(.all [(8,(.all [(9,.done)]))])),(8,(.all [(2,(.all [(9,.done)])),(9,(.rd 2 .done))]))]) (.all [(10,.done)])))))))))
def p42_22:Plan:=(.take 0 (.take 2 (.take 3 (.take 5 (.take 8 (.rd 4 (.take 6 (.rd 7 (.join (.all [(1,(.all [(9,(.all [(10,(.take 11 .done))]))])),(9,(.all [(1,(.all [(10,(.take 11 .done))])),(10,(.rd 1 (.take 11 .done)))]))]) (.all [(12,.done)]))))))))))
def p52_1:Plan:=(.take 0 (.take 1 (.take 3 (.take 5 (.join (.all [(2,(.rd 4 (.rd 6 (.all [(7,.done)])))),(4,(.all [(2,(.rd 6 (.all [(7,.done)]))),(6,(.all [(2,(.all [(7,.done)])),(7,(.all [(2,.done)]))]))])),(6,(.all [(2,(.rd 4 (.all [(7,.done)]))),(4,(.all [(2,(.all [(7,.done)])),(7,(.all [(2,.done)]))])),(7,(.all [(2,(.rd 4 .done)),(4,(.all [(2,.done)]))]))]))]) (.all [(8,(.all [(9,(.take 10 .done))]))]))))))
def p55_8:Plan:=(.take 0 (.take 2 (.take 5 (.take 7 (.rd 1 (.take 3 (.rd 4 (.take 10 (.join (.all [(6,(.take 8 (.all [(9,(.all [(11,(.take 12 .done))])),(11,(.rd 9 (.take 12 .done)))]))),(11,(.rd 6 (.take 8 (.rd 9 (.take 12 .done)))))]) (.all [(13,.done)]))))))))))
def p55_10:Plan:=(.take 0 (.take 2 (.take 4 (.rd 1 (.take 6 (.join (.all [(3,(.all [(5,(.all [(7,(.take 8 (.all [(9,(.take 10 .done))])))])),(7,(.take 8 (.all [(5,(.all [(9,(.take 10 .done))])),(9,(.rd 5 (.take 10 .done)))])))])),(5,(.all [(3,(.all [(7,(.take 8 (.all [(9,(.take 10 .done))])))])),(7,(.rd 3 (.take 8 (.all [(9,(.take 10 .done))]))))])),(7,(.rd 3 (.take 8 (.all [(5,(.all [(9,(.take 10 .done))])),(9,(.rd 5 (.take 10 .done)))]))))]) (.all [(11,.done)])))))))
def p55_12:Plan:=(.take 0 (.take 2 (.rd 1 (.take 4 (.join (.all [(3,(.all [(5,(.take 6 .done))])),(5,(.rd 3 (.take 6 .done)))]) (.all [(7,.done)]))))))
def p55_13:Plan:=(.rd 0 (.join (.all [(1,(.all [(2,.done)])),(2,(.rd 1 .done))]) (.all [(3,.done)])))
def p62_6:Plan:=(.take 0 (.take 2 (.take 4 (.rd 1 (.take 6 (.join (.all [(3,(.all [(5,(.all [(7,(.take 8 (.all [(9,(.take 10 .done))])))])),(7,(.take 8 (.all [(5,(.all [(9,(.take 10 .done))])),(9,(.rd 5 (.take 10 .done)))])))])),(5,(.all [(3,(.all [(7,(.take 8 (.all [(9,(.take 10 .done))])))])),(7,(.rd 3 (.take 8 (.all [(9,(.take 10 .done))]))))])),(7,(.rd 3 (.take 8 (.all [(5,(.all [(9,(.take 10 .done))])),(9,(.rd 5 (.take 10 .done)))]))))]) (.all [(11,.done)])))))))
def p62_9:Plan:=(.take 0 (.take 2 (.rd 1 (.take 4 (.join (.all [(3,(.all [(5,(.take 6 .done))])),(5,(.rd 3 (.take 6 .done)))]) (.all [(7,.done)]))))))
def p62_12:Plan:=(.take 0 (.take 2 (.rd 1 (.take 4 (.join (.all [(3,(.all [(5,(.take 6 .done))])),(5,(.rd 3 (.take 6 .done)))]) (.all [(7,.done)]))))))
def p75_11:Plan:=(.take 0 (.take 2 (.take 5 (.rd 1 (.rd 3 (.rd 6 (.all [(4,(.take 8 (.all [(7,(.take 9 .done))]))),(7,(.all [(4,(.take 8 (.take 9 .done)))]))])))))))
def p75_13:Plan:=(.take 0 (.take 3 (.rd 1 (.rd 4 (.all [(2,(.take 6 (.all [(5,(.take 7 .done))]))),(5,(.all [(2,(.take 6 (.take 7 .done)))]))])))))
def p80_6:Plan:=(.take 0 (.take 1 (.take 2 (.take 4 (.take 7 (.take 8 (.take 9 (.take 11 (.rd 3 (.take 5 (.rd 6 (.rd 10 (.take 12 (.rd 13 (.take 14 (.rd 15 (.all [(16,(.all [(17,.done)]))])))))))))))))))))
def p82_12:Plan:=(.take 0 (.take 1 (.take 2 (.take 4 (.take 7 (.take 8 (.take 9 (.take 11 (.rd 3 (.take 5 (.rd 6 (.rd 10 (.take 12 (.rd 13 (.take 14 (.rd 15 (.all [(16,(.all [(17,.done)]))])))))))))))))))))
def p82_17:Plan:=(.take 0 (.take 1 (.take 2 (.take 4 (.rd 3 (.take 6 (.take 7 (.join (.all [(5,(.all [(8,(.take 9 (.take 10 .done)))])),(8,(.rd 5 (.take 9 (.take 10 .done))))]) (.all [(11,.done)])))))))))
def p82_19:Plan:=(.take 0 (.take 1 (.take 2 (.take 4 (.take 7 (.take 8 (.take 9 (.take 11 (.rd 10 (.rd 12 (.take 13 (.rd 14 (.join (.all [(3,(.all [(5,(.all [(6,(.all [(15,(.take 16 .done))]))])),(6,(.all [(5,(.all [(15,(.take 16 .done))])),(15,(.rd 5 (.take 16 .done)))]))])),(5,(.all [(3,(.all [(6,(.all [(15,(.take 16 .done))]))])),(6,(.all [(3,(.all [(15,(.take 16 .done))])),(15,(.rd 3 (.take 16 .done)))]))])),(6,(.all [(3,(.all [(5,(.all [(15,(.take 16 .done))])),(15,(.rd 5 (.take 16 .done)))])),(5,(.all [(3,(.all [(15,(.take 16 .done))])),(15,(.rd 3 (.take 16 .done)))])),(15,(.rd 3 (.rd 5 (.take 16 .done))))]))]) (.all [(17,.done)]))))))))))))))
def p83_5:Plan:=(.take 0 (.take 1 (.take 2 (.take 3 (.take 5 (.take 9 (.take 10 (.take 11 (.take 13 (.rd 4 (.take 6 (.rd 7 (.rd 8 (.rd 12 (.take 14 (.rd 15 (.take 16 (.all [(17,(.all [(18,(.take 19 .done))]))]))))))))))))))))))
def p351_2:Plan:=(.take 0 (.take 1 (.take 2 (.take 4 (.take 5 (.rd 3 (.rd 6 (.rd 7 (.take 8 (.all [(9,(.take 10 (.all [(11,.done)])))]))))))))))
def p352_0:Plan:=(.take 0 (.take 1 (.take 2 (.take 4 (.join (.all [(3,(.all [(5,.done)])),(5,(.rd 3 .done))]) (.all [(6,(.all [(7,(.take 8 (.all [(9,.done)])))]))]))))))
def p353_0:Plan:=(.take 0 (.take 1 (.take 2 (.take 3 (.take 4 (.take 5 (.take 6 (.take 8 (.take 9 (.take 10 (.rd 7 (.rd 11 (.take 12 (.all [(13,(.take 14 (.all [(15,.done)])))]))))))))))))))
def pl6 (r:Nat):Option Way:=if r=21 then some (.calm) else none
theorem wok6:waysOk pl6 (Tryz.f6.body.getD .skip)=true:=by kernel_rfl
def pl7 (r:Nat):Option Way:=if r=8 then some (.plan p7_8) else none
theorem wok7:waysOk pl7 (Tryz.f7.body.getD .skip)=true:=by kernel_rfl
def pl10 (r:Nat):Option Way:=if r=4 then some (.plan p10_4) else if r=8 then some (.plan p10_8) else if r=9 then some (.tail 7) else none
theorem plr10_4:pl10 4=some (.plan p10_4):=rfl
theorem plr10_8:pl10 8=some (.plan p10_8):=rfl
theorem plr10_9:pl10 9=some (.tail 7):=rfl
theorem wok10:waysOk pl10 (Tryz.f10.body.getD .skip)=true:=by kernel_rfl
def pl12 (r:Nat):Option Way:=if r=4 then some (.reads) else none
theorem wok12:waysOk pl12 (Tryz.f12.body.getD .skip)=true:=by kernel_rfl
def pl13 (r:Nat):Option Way:=if r=6 then some (.reads) else none
theorem plr13_6:pl13 6=some (.reads):=rfl
theorem wok13:waysOk pl13 (Tryz.f13.body.getD .skip)=true:=by kernel_rfl
def pl19 (r:Nat):Option Way:=if r=14 then some (.plan p19_14) else if r=36 then some (.plan p19_36) else none
theorem wok19:waysOk pl19 (Tryz.f19.body.getD .skip)=true:=by kernel_rfl
def pl20 (r:Nat):Option Way:=if r=8 then some (.calm) else none
theorem wok20:waysOk pl20 (Tryz.f20.body.getD .skip)=true:=by kernel_rfl
def pl22 (r:Nat):Option Way:=if r=13 then some (.plan p22_13) else none
theorem wok22:waysOk pl22 (Tryz.f22.body.getD .skip)=true:=by kernel_rfl
def pl23 (r:Nat):Option Way:=if r=6 then some (.plan p23_6) else if r=14 then some (.plan p23_14) else if r=18 then some (.plan p23_18) else if r=19 then some (.tail 54) else if r=29 then some (.tail 31) else none
theorem wok23:waysOk pl23 (Tryz.f23.body.getD .skip)=true:=by kernel_rfl
def pl25 (r:Nat):Option Way:=if r=6 then some (.reads) else if r=11 then some (.reads) else none
theorem plr25_6:pl25 6=some (.reads):=rfl
theorem plr25_11:pl25 11=some (.reads):=rfl
theorem wok25:waysOk pl25 (Tryz.f25.body.getD .skip)=true:=by kernel_rfl
def pl33 (r:Nat):Option Way:=if r=8 then some (.reads) else none
theorem plr33_8:pl33 8=some (.reads):=rfl
theorem wok33:waysOk pl33 (Tryz.f33.body.getD .skip)=true:=by kernel_rfl
def pl34 (r:Nat):Option Way:=if r=8 then some (.plan p34_8) else if r=13 then some (.plan p34_13) else if r=15 then some (.tail 16) else if r=17 then some (.reads) else if r=20 then some (.tail 12) else if r=23 then some (.tail 6) else none
theorem plr34_8:pl34 8=some (.plan p34_8):=rfl
theorem plr34_15:pl34 15=some (.tail 16):=rfl
theorem plr34_17:pl34 17=some (.reads):=rfl
theorem plr34_20:pl34 20=some (.tail 12):=rfl
theorem plr34_23:pl34 23=some (.tail 6):=rfl
theorem wok34:waysOk pl34 (Tryz.f34.body.getD .skip)=true:=by kernel_rfl
def pl37 (r:Nat):Option Way:=if r=7 then some (.calm) else none
theorem plr37_7:pl37 7=some (.calm):=rfl
theorem wok37:waysOk pl37 (Tryz.f37.body.getD .skip)=true:=by kernel_rfl
def pl39 (r:Nat):Option Way:=if r=2 then some (.reads) else if r=5 then some (.calm) else if r=7 then some (.calm) else none
theorem plr39_2:pl39 2=some (.reads):=rfl
theorem plr39_5:pl39 5=some (.calm):=rfl
theorem plr39_7:pl39 7=some (.calm):=rfl
theorem wok39:waysOk pl39 (Tryz.f39.body.getD .skip)=true:=by kernel_rfl
def pl42 (r:Nat):Option Way:=if r=10 then some (.plan p42_10) else if r=12 then some (.plan p42_12) else if r=14 then some (.plan p42_14) else if r=22 then some (.plan p42_22) else none
theorem plr42_10:pl42 10=some (.plan p42_10):=rfl
theorem plr42_12:pl42 12=some (.plan p42_12):=rfl
theorem plr42_14:pl42 14=some (.plan p42_14):=rfl
theorem plr42_22:pl42 22=some (.plan p42_22):=rfl
theorem wok42:waysOk pl42 (Tryz.f42.body.getD .skip)=true:=by kernel_rfl
def pl52 (r:Nat):Option Way:=if r=1 then some (.plan p52_1) else none
theorem wok52:waysOk pl52 (Tryz.f52.body.getD .skip)=true:=by kernel_rfl
def pl54 (r:Nat):Option Way:=if r=8 then some (.reads) else none
theorem wok54:waysOk pl54 (Tryz.f54.body.getD .skip)=true:=by kernel_rfl
def pl55 (r:Nat):Option Way:=if r=8 then some (.plan p55_8) else if r=10 then some (.plan p55_10) else if r=12 then some (.plan p55_12) else if r=13 then some (.plan p55_13) else none
theorem wok55:waysOk pl55 (Tryz.f55.body.getD .skip)=true:=by kernel_rfl
def pl62 (r:Nat):Option Way:=if r=6 then some (.plan p62_6) else if r=7 then some (.calm) else if r=9 then some (.plan p62_9) else if r=10 then some (.calm) else if r=12 then some (.plan p62_12) else none
theorem plr62_6:pl62 6=some (.plan p62_6):=rfl
theorem plr62_7:pl62 7=some (.calm):=rfl
theorem plr62_9:pl62 9=some (.plan p62_9):=rfl
theorem plr62_10:pl62 10=some (.calm):=rfl
theorem plr62_12:pl62 12=some (.plan p62_12):=rfl
theorem wok62:waysOk pl62 (Tryz.f62.body.getD .skip)=true:=by kernel_rfl
def pl66 (r:Nat):Option Way:=if r=22 then some (.reads) else none
theorem plr66_22:pl66 22=some (.reads):=rfl
theorem wok66:waysOk pl66 (Tryz.f66.body.getD .skip)=true:=by kernel_rfl
def pl75 (r:Nat):Option Way:=if r=11 then some (.plan p75_11) else if r=13 then some (.plan p75_13) else none
theorem plr75_11:pl75 11=some (.plan p75_11):=rfl
theorem plr75_13:pl75 13=some (.plan p75_13):=rfl
theorem wok75:waysOk pl75 (Tryz.f75.body.getD .skip)=true:=by kernel_rfl
def pl80 (r:Nat):Option Way:=if r=5 then some (.reads) else if r=6 then some (.plan p80_6) else if r=7 then some (.reads) else none
theorem wok80:waysOk pl80 (Tryz.f80.body.getD .skip)=true:=by kernel_rfl
def pl82 (r:Nat):Option Way:=if r=12 then some (.plan p82_12) else if r=17 then some (.plan p82_17) else if r=19 then some (.plan p82_19) else if r=22 then some (.reads) else if r=24 then some (.tail 12) else if r=26 then some (.tail 6) else none
theorem wok82:waysOk pl82 (Tryz.f82.body.getD .skip)=true:=by kernel_rfl
def pl83 (r:Nat):Option Way:=if r=5 then some (.plan p83_5) else none
theorem wok83:waysOk pl83 (Tryz.f83.body.getD .skip)=true:=by kernel_rfl
def pl350 (r:Nat):Option Way:=if r=1 then some (.reads) else none
theorem wok350:waysOk pl350 (Tryz.f350.body.getD .skip)=true:=by kernel_rfl
def pl351 (r:Nat):Option Way:=if r=1 then some (.reads) else if r=2 then some (.plan p351_2) else none
theorem wok351:waysOk pl351 (Tryz.f351.body.getD .skip)=true:=by kernel_rfl
def pl352 (r:Nat):Option Way:=if r=0 then some (.plan p352_0) else none
theorem wok352:waysOk pl352 (Tryz.f352.body.getD .skip)=true:=by kernel_rfl
def pl353 (r:Nat):Option Way:=if r=0 then some (.plan p353_0) else none
theorem wok353:waysOk pl353 (Tryz.f353.body.getD .skip)=true:=by kernel_rfl
def drawsOf:Code->List (Nat × Array Oper)
 | .region id ops true=>[(id,ops)]
 | .seq a b=>drawsOf a++drawsOf b
 | .cond _ a b=>drawsOf a++drawsOf b
 | .block _ b=>drawsOf b
 | .loop b=>drawsOf b
 | _=>[]
def sureL (P:Program) (pl:Nat->Option Way):List (Nat × Array Oper)->Prop
 | []=>True
 | (id,ops)::l=>(match pl id with
   | some w=>waySure P ops w
   | none=>True)/\sureL P pl l
theorem sureL_app (P:Program) (pl:Nat->Option Way):∀ (l m:List (Nat × Array Oper)),sureL P pl (l++m)->sureL P pl l/\sureL P pl m
 | [],_,h=>⟨trivial,h⟩
 | (id,ops)::l,m,h=>by
   have:=sureL_app P pl l m h.2
   exact ⟨⟨h.1,this.1⟩,this.2⟩
theorem sure_of (P:Program) (pl:Nat->Option Way):∀ c:Code,sureL P pl (drawsOf c)->waysSure P pl c
 | .region _ _ true,h=>h.1
 | .region _ _ false,_=>trivial
 | .seq a b,h=>by have:=sureL_app P pl _ _ h; exact ⟨sure_of P pl a this.1,sure_of P pl b this.2⟩
 | .cond _ x y,h=>by have:=sureL_app P pl _ _ h; exact ⟨sure_of P pl x this.1,sure_of P pl y this.2⟩
 | .block _ b,h=>sure_of P pl b h
 | .loop b,h=>sure_of P pl b h
 | .skip,_=>trivial
 | .exit _,_=>trivial
 | .ret,_=>trivial
 | .rangeFunc ..,_=>trivial
 | .scope _,_=>trivial
 | .label _,_=>trivial
 | .goto _,_=>trivial
 | .refuse _,_=>trivial
def plain (pl:Nat->Option Way):Prop:=∀ id p l,pl id≠some (.known p l)
theorem sure_plain {P:Program} {pl:Nat->Option Way} (h:plain pl):∀ l:List (Nat × Array Oper),sureL P pl l
 | []=>trivial
 | (id,ops)::l=>by
   refine ⟨?_,sure_plain h l⟩
   split
   · rename_i w hw
     cases w <;> first | trivial | exact absurd hw (h _ _ _)
   · trivial
theorem waysOk_none:∀ c:Code,waysOk (fun _=>none) c=true
 | .region _ _ true=>rfl
 | .region _ _ false=>rfl
 | .seq a b=>by simp only [waysOk,waysOk_none a,waysOk_none b]; rfl
 | .cond _ x y=>by simp only [waysOk,waysOk_none x,waysOk_none y]; rfl
 | .block _ b=>by simp only [waysOk,waysOk_none b]
 | .loop b=>by simp only [waysOk,waysOk_none b]
 | .skip=>rfl
 | .exit _=>rfl
 | .ret=>rfl
 | .rangeFunc ..=>rfl
 | .scope _=>rfl
 | .label _=>rfl
 | .goto _=>rfl
 | .refuse _=>rfl
theorem plain6:plain pl6:=by
 intro id p l h
 unfold pl6 at h
 repeat' (split at h; (cases h))
 cases h
theorem plain7:plain pl7:=by
 intro id p l h
 unfold pl7 at h
 repeat' (split at h; (cases h))
 cases h
theorem plain10:plain pl10:=by
 intro id p l h
 unfold pl10 at h
 repeat' (split at h; (cases h))
 cases h
theorem plain12:plain pl12:=by
 intro id p l h
 unfold pl12 at h
 repeat' (split at h; (cases h))
 cases h
theorem plain13:plain pl13:=by
 intro id p l h
 unfold pl13 at h
 repeat' (split at h; (cases h))
 cases h
theorem plain19:plain pl19:=by
 intro id p l h
 unfold pl19 at h
 repeat' (split at h; (cases h))
 cases h
theorem plain20:plain pl20:=by
 intro id p l h
 unfold pl20 at h
 repeat' (split at h; (cases h))
 cases h
theorem plain22:plain pl22:=by
 intro id p l h
 unfold pl22 at h
 repeat' (split at h; (cases h))
 cases h
theorem plain23:plain pl23:=by
 intro id p l h
 unfold pl23 at h
 repeat' (split at h; (cases h))
 cases h
theorem plain25:plain pl25:=by
 intro id p l h
 unfold pl25 at h
 repeat' (split at h; (cases h))
 cases h
theorem plain33:plain pl33:=by
 intro id p l h
 unfold pl33 at h
 repeat' (split at h; (cases h))
 cases h
theorem plain34:plain pl34:=by
 intro id p l h
 unfold pl34 at h
 repeat' (split at h; (cases h))
 cases h
theorem plain37:plain pl37:=by
 intro id p l h
 unfold pl37 at h
 repeat' (split at h; (cases h))
 cases h
theorem plain39:plain pl39:=by
 intro id p l h
 unfold pl39 at h
 repeat' (split at h; (cases h))
 cases h
theorem plain42:plain pl42:=by
 intro id p l h
 unfold pl42 at h
 repeat' (split at h; (cases h))
 cases h
theorem plain52:plain pl52:=by
 intro id p l h
 unfold pl52 at h
 repeat' (split at h; (cases h))
 cases h
theorem plain54:plain pl54:=by
 intro id p l h
 unfold pl54 at h
 repeat' (split at h; (cases h))
 cases h
theorem plain55:plain pl55:=by
 intro id p l h
 unfold pl55 at h
 repeat' (split at h; (cases h))
 cases h
theorem plain62:plain pl62:=by
 intro id p l h
 unfold pl62 at h
 repeat' (split at h; (cases h))
 cases h
theorem plain66:plain pl66:=by
 intro id p l h
 unfold pl66 at h
 repeat' (split at h; (cases h))
 cases h
theorem plain75:plain pl75:=by
 intro id p l h
 unfold pl75 at h
 repeat' (split at h; (cases h))
 cases h
theorem plain80:plain pl80:=by
 intro id p l h
 unfold pl80 at h
 repeat' (split at h; (cases h))
 cases h
theorem plain82:plain pl82:=by
 intro id p l h
 unfold pl82 at h
 repeat' (split at h; (cases h))
 cases h
theorem plain83:plain pl83:=by
 intro id p l h
 unfold pl83 at h
 repeat' (split at h; (cases h))
 cases h
theorem plain350:plain pl350:=by
 intro id p l h
 unfold pl350 at h
 repeat' (split at h; (cases h))
 cases h
theorem plain351:plain pl351:=by
 intro id p l h
 unfold pl351 at h
 repeat' (split at h; (cases h))
 cases h
theorem plain352:plain pl352:=by
 intro id p l h
 unfold pl352 at h
 repeat' (split at h; (cases h))
 cases h
theorem plain353:plain pl353:=by
 intro id p l h
 unfold pl353 at h
 repeat' (split at h; (cases h))
 cases h
def plN:Nat->Option Way:=fun _=>none
def plQ (f:FuncId):Nat->Option Way:=if f=6 then pl6 else if f=7 then pl7 else if f=10 then pl10 else if f=12 then pl12 else if f=13 then pl13 else if f=19 then pl19 else if f=20 then pl20 else if f=22 then pl22 else if f=23 then pl23 else if f=25 then pl25 else if f=33 then pl33 else if f=34 then pl34 else if f=37 then pl37 else if f=39 then pl39 else if f=42 then pl42 else if f=52 then pl52 else if f=54 then pl54 else if f=55 then pl55 else if f=62 then pl62 else if f=66 then pl66 else if f=75 then pl75 else if f=80 then pl80 else if f=82 then pl82 else if f=83 then pl83 else if f=350 then pl350 else if f=351 then pl351 else if f=352 then pl352 else if f=353 then pl353 else plN
theorem plQ_ok (f:FuncId) (fn:Func) (c:Code) (hf:Tryz.prog.funcs[f]? =some fn) (hc:fn.body=some c):waysOk (plQ f) c=true/\waysSure Tryz.prog (plQ f) c:=by
 by_cases h6:f=6
 · subst h6
   obtain rfl:=Option.some.inj (Tryz.func6.symm.trans hf)
   have:=wok6
   rw [hc] at this; exact ⟨this,sure_of _ _ _ (sure_plain plain6 _)⟩
 by_cases h7:f=7
 · subst h7
   obtain rfl:=Option.some.inj (Tryz.func7.symm.trans hf)
   have:=wok7
   rw [hc] at this; exact ⟨this,sure_of _ _ _ (sure_plain plain7 _)⟩
 by_cases h10:f=10
 · subst h10
   obtain rfl:=Option.some.inj (Tryz.func10.symm.trans hf)
   have:=wok10
   rw [hc] at this; exact ⟨this,sure_of _ _ _ (sure_plain plain10 _)⟩
 by_cases h12:f=12
 · subst h12
   obtain rfl:=Option.some.inj (Tryz.func12.symm.trans hf)
   have:=wok12
   rw [hc] at this; exact ⟨this,sure_of _ _ _ (sure_plain plain12 _)⟩
 by_cases h13:f=13
 · subst h13
   obtain rfl:=Option.some.inj (Tryz.func13.symm.trans hf)
   have:=wok13
   rw [hc] at this; exact ⟨this,sure_of _ _ _ (sure_plain plain13 _)⟩
 by_cases h19:f=19
 · subst h19
   obtain rfl:=Option.some.inj (Tryz.func19.symm.trans hf)
   have:=wok19
   rw [hc] at this; exact ⟨this,sure_of _ _ _ (sure_plain plain19 _)⟩
 by_cases h20:f=20
 · subst h20
   obtain rfl:=Option.some.inj (Tryz.func20.symm.trans hf)
   have:=wok20
   rw [hc] at this; exact ⟨this,sure_of _ _ _ (sure_plain plain20 _)⟩
 by_cases h22:f=22
 · subst h22
   obtain rfl:=Option.some.inj (Tryz.func22.symm.trans hf)
   have:=wok22
   rw [hc] at this; exact ⟨this,sure_of _ _ _ (sure_plain plain22 _)⟩
 by_cases h23:f=23
 · subst h23
   obtain rfl:=Option.some.inj (Tryz.func23.symm.trans hf)
   have:=wok23
   rw [hc] at this; exact ⟨this,sure_of _ _ _ (sure_plain plain23 _)⟩
 by_cases h25:f=25
 · subst h25
   obtain rfl:=Option.some.inj (Tryz.func25.symm.trans hf)
   have:=wok25
   rw [hc] at this; exact ⟨this,sure_of _ _ _ (sure_plain plain25 _)⟩
 by_cases h33:f=33
 · subst h33
   obtain rfl:=Option.some.inj (Tryz.func33.symm.trans hf)
   have:=wok33
   rw [hc] at this; exact ⟨this,sure_of _ _ _ (sure_plain plain33 _)⟩
 by_cases h34:f=34
 · subst h34
   obtain rfl:=Option.some.inj (Tryz.func34.symm.trans hf)
   have:=wok34
   rw [hc] at this; exact ⟨this,sure_of _ _ _ (sure_plain plain34 _)⟩
 by_cases h37:f=37
 · subst h37
   obtain rfl:=Option.some.inj (Tryz.func37.symm.trans hf)
   have:=wok37
   rw [hc] at this; exact ⟨this,sure_of _ _ _ (sure_plain plain37 _)⟩
 by_cases h39:f=39
 · subst h39
   obtain rfl:=Option.some.inj (Tryz.func39.symm.trans hf)
   have:=wok39
   rw [hc] at this; exact ⟨this,sure_of _ _ _ (sure_plain plain39 _)⟩
 by_cases h42:f=42
 · subst h42
   obtain rfl:=Option.some.inj (Tryz.func42.symm.trans hf)
   have:=wok42
   rw [hc] at this; exact ⟨this,sure_of _ _ _ (sure_plain plain42 _)⟩
 by_cases h52:f=52
 · subst h52
   obtain rfl:=Option.some.inj (Tryz.func52.symm.trans hf)
   have:=wok52
   rw [hc] at this; exact ⟨this,sure_of _ _ _ (sure_plain plain52 _)⟩
 by_cases h54:f=54
 · subst h54
   obtain rfl:=Option.some.inj (Tryz.func54.symm.trans hf)
   have:=wok54
   rw [hc] at this; exact ⟨this,sure_of _ _ _ (sure_plain plain54 _)⟩
 by_cases h55:f=55
 · subst h55
   obtain rfl:=Option.some.inj (Tryz.func55.symm.trans hf)
   have:=wok55
   rw [hc] at this; exact ⟨this,sure_of _ _ _ (sure_plain plain55 _)⟩
 by_cases h62:f=62
 · subst h62
   obtain rfl:=Option.some.inj (Tryz.func62.symm.trans hf)
   have:=wok62
   rw [hc] at this; exact ⟨this,sure_of _ _ _ (sure_plain plain62 _)⟩
 by_cases h66:f=66
 · subst h66
   obtain rfl:=Option.some.inj (Tryz.func66.symm.trans hf)
   have:=wok66
   rw [hc] at this; exact ⟨this,sure_of _ _ _ (sure_plain plain66 _)⟩
 by_cases h75:f=75
 · subst h75
   obtain rfl:=Option.some.inj (Tryz.func75.symm.trans hf)
   have:=wok75
   rw [hc] at this; exact ⟨this,sure_of _ _ _ (sure_plain plain75 _)⟩
 by_cases h80:f=80
 · subst h80
   obtain rfl:=Option.some.inj (Tryz.func80.symm.trans hf)
   have:=wok80
   rw [hc] at this; exact ⟨this,sure_of _ _ _ (sure_plain plain80 _)⟩
 by_cases h82:f=82
 · subst h82
   obtain rfl:=Option.some.inj (Tryz.func82.symm.trans hf)
   have:=wok82
   rw [hc] at this; exact ⟨this,sure_of _ _ _ (sure_plain plain82 _)⟩
 by_cases h83:f=83
 · subst h83
   obtain rfl:=Option.some.inj (Tryz.func83.symm.trans hf)
   have:=wok83
   rw [hc] at this; exact ⟨this,sure_of _ _ _ (sure_plain plain83 _)⟩
 by_cases h350:f=350
 · subst h350
   obtain rfl:=Option.some.inj (Tryz.func350.symm.trans hf)
   have:=wok350
   rw [hc] at this; exact ⟨this,sure_of _ _ _ (sure_plain plain350 _)⟩
 by_cases h351:f=351
 · subst h351
   obtain rfl:=Option.some.inj (Tryz.func351.symm.trans hf)
   have:=wok351
   rw [hc] at this; exact ⟨this,sure_of _ _ _ (sure_plain plain351 _)⟩
 by_cases h352:f=352
 · subst h352
   obtain rfl:=Option.some.inj (Tryz.func352.symm.trans hf)
   have:=wok352
   rw [hc] at this; exact ⟨this,sure_of _ _ _ (sure_plain plain352 _)⟩
 by_cases h353:f=353
 · subst h353
   obtain rfl:=Option.some.inj (Tryz.func353.symm.trans hf)
   have:=wok353
   rw [hc] at this; exact ⟨this,sure_of _ _ _ (sure_plain plain353 _)⟩
 have hq:plQ f=plN:=by unfold plQ; rw [if_neg h6,if_neg h7,if_neg h10,if_neg h12,if_neg h13,if_neg h19,if_neg h20,if_neg h22,if_neg h23,if_neg h25,if_neg h33,if_neg h34,if_neg h37,if_neg h39,if_neg h42,if_neg h52,if_neg h54,if_neg h55,if_neg h62,if_neg h66,if_neg h75,if_neg h80,if_neg h82,if_neg h83,if_neg h350,if_neg h351,if_neg h352,if_neg h353]
 rw [hq]
 exact ⟨waysOk_none c,sure_of _ _ _ (sure_plain (by intro _ _ _ h; cases h) _)⟩
noncomputable def W0:Ways Tryz.prog:=⟨plQ,plQ_ok⟩
end Go.Dv
namespace Go.Dv
def cb {α:Type} (b:Bool) (x y:α):α:=cond b x y
def br {α:Type} (b:Bool) (x y:α):α:=cond b x y
theorem cb_congr {α:Type} {b b':Bool} (h:b=b') (x y:α):cb b x y=cb b' x y:=by rw [h]
theorem cb_br {α:Type} (b:Bool) (x y:α):cb b x y=br b x y:=rfl
theorem br_true {α:Type} (x y:α):br true x y=x:=rfl
theorem br_false {α:Type} (x y:α):br false x y=y:=rfl
theorem br_not {α:Type} (b:Bool) (x y:α):br (!b) x y=br b y x:=by cases b <;> rfl
theorem br_congr {α:Type} {b b':Bool} {x x' y y':α} (h:b=b') (hx:b'=true->x=x') (hy:b'=false->y=y'):br b x y=br b' x' y':=by
 subst h; cases b
 · exact hy rfl
 · exact hx rfl
theorem br_bind {α β:Type} (b:Bool) (x y:Option α) (k:α->Option β):(br b x y).bind k=br b (x.bind k) (y.bind k):=by cases b <;> rfl
theorem br_bool (b x y:Bool) (H:AH):br b (some (AV.bool x,H)) (some (AV.bool y,H))=some (.bool (br b x y),H):=by cases b <;> rfl
theorem br_int (b:Bool) (k:IntKind) (x y:Int) (H:AH):br b (some (AV.int k x,H)) (some (AV.int k y,H))=some (.int k (br b x y),H):=by cases b <;> rfl
theorem br_tup2 (b x y x' y':Bool) (H:AH):br b (some (AV.tuple [.bool x,.bool y],H)) (some (AV.tuple [.bool x',.bool y'],H))=some (.tuple [.bool (br b x x'),.bool (br b y y')],H):=by cases b <;> rfl
theorem br_tup3 (b x y z x' y' z':Bool) (H:AH):br b (some (AV.tuple [.bool x,.bool y,.bool z],H)) (some (AV.tuple [.bool x',.bool y',.bool z'],H))=some (.tuple [.bool (br b x x'),.bool (br b y y'),.bool (br b z z')],H):=by cases b <;> rfl
def ltB (a b:Int):Bool:=decide (a < b)
def leB (a b:Int):Bool:=decide (a<=b)
def eqB (a b:Int):Bool:=a == b
theorem ib_lss (k:IntKind) (a b:Int):intBinA .lss k a b=some (.bool (ltB a b)):=rfl
theorem ib_leq (k:IntKind) (a b:Int):intBinA .leq k a b=some (.bool (leB a b)):=rfl
theorem ib_gtr (k:IntKind) (a b:Int):intBinA .gtr k a b=some (.bool (ltB b a)):=rfl
theorem ib_geq (k:IntKind) (a b:Int):intBinA .geq k a b=some (.bool (leB b a)):=rfl
theorem ib_eql (k:IntKind) (a b:Int):intBinA .eql k a b=some (.bool (eqB a b)):=rfl
theorem ib_neq (k:IntKind) (a b:Int):intBinA .neq k a b=some (.bool (!eqB a b)):=rfl
theorem ib_add (k:IntKind) (a b:Int):intBinA .add k a b=some (.int k (k.wrap (a+b))):=rfl
theorem ib_sub (k:IntKind) (a b:Int):intBinA .sub k a b=some (.int k (k.wrap (a - b))):=rfl
theorem ltB_t {a b:Int} (h:a < b):ltB a b=true:=by simp [ltB,h]
theorem ltB_f {a b:Int} (h:b<=a):ltB a b=false:=by simp [ltB]; omega
theorem leB_t {a b:Int} (h:a<=b):leB a b=true:=by simp [leB,h]
theorem eqB_t {a b:Int} (h:a=b):eqB a b=true:=by simp [eqB,h]
theorem eqB_f {a b:Int} (h:a≠b):eqB a b=false:=by simp [eqB,h]
theorem ltB_iff (a b:Int):ltB a b=true↔a < b:=by simp [ltB]
theorem leB_iff (a b:Int):leB a b=true↔a<=b:=by simp [leB]
theorem eqB_iff (a b:Int):eqB a b=true↔a=b:=by simp [eqB]
theorem ltB_iff0 (a b:Int):ltB a b=false↔b<=a:=by simp [ltB]
theorem leB_iff0 (a b:Int):leB a b=false↔b < a:=by simp [leB]
theorem eqB_iff0 (a b:Int):eqB a b=false↔a≠b:=by simp [eqB]
def condA {α:Type} (v:AV) (x y:Option α):Option α:=match v with
 | .bool b=>cb b x y
 | _=>none
theorem condA_congr {α:Type} {v v':AV} (h:v=v') (x y:Option α):condA v x y=condA v' x y:=by rw [h]
theorem condA_bool {α:Type} (b:Bool) (x y:Option α):condA (.bool b) x y=cb b x y:=rfl
def gd {α:Type} (y:Option Bool) (b:Bool) (x z:α):α:=if y == some b then x else z
theorem boolOf_undef:boolOf uA=none:=rfl
theorem gd_congr {α:Type} {y y':Option Bool} (h:y=y') (b:Bool) (x z:α):gd y b x z=gd y' b x z:=by rw [h]
theorem gd_t {α:Type} (c:Bool) (x z:α):gd (some c) true x z=cb c x z:=by cases c <;> rfl
theorem gd_f {α:Type} (c:Bool) (x z:α):gd (some c) false x z=cb c z x:=by cases c <;> rfl
theorem gd_none {α:Type} (b:Bool) (x z:α):gd none b x z=z:=by cases b <;> rfl
section
variable {P:Program} {C:Cfg P} {W:Ways P} {pl:Nat->Option Way}
theorem EvC_condB (q:Operand) (x y:Code) (s:St):EvC P C W pl (.cond q x y) s=(evalA C.gl s.1 q).bind fun v=>condA v (EvC P C W pl x s) (EvC P C W pl y s):=by
 rw [EvC_cond]
 cases evalA C.gl s.1 q with
 | none=>rfl
 | some v=>cases v <;> first | rfl | (rename_i b; cases b <;> rfl)
theorem stepO_guardB (call:CallF) (slot:Option Nat) (ops:Array Oper) (dst:Option Tmp) (op:Op) (ty:TypeId) (pos:String) (after:Array Edge) (j:Nat) (b:Bool) (tm:List AV) (H:AH) :
   stepO P C call slot ops ⟨dst,op,ty,pos,after,some (j,b)⟩ (tm,H)=gd (yieldedA ops tm j) b ((aop P C slot (evalA C.gl tm) ⟨dst,op,ty,pos,after,some (j,b)⟩ H).bind fun r=>match r with
     | (.val v,H')=>some (putA dst v tm,H')
     | (.skip,H')=>some (putA dst uA tm,H')
     | (.enter f args,H')=>(call f args H').bind fun r=>some (putA dst r.1 tm,r.2))
     (some (putA dst uA tm,H)):=rfl
theorem quietO_guardB (gl:GL) (ops:Array Oper) (dst:Option Tmp) (op:Op) (ty:TypeId) (pos:String) (after:Array Edge) (j:Nat) (b:Bool) (tm:List AV):quietO P gl ops ⟨dst,op,ty,pos,after,some (j,b)⟩ tm=gd (yieldedA ops tm j) b (quietA P (evalA gl tm) ⟨dst,op,ty,pos,after,some (j,b)⟩) (some uA):=rfl
theorem readsA_guardB (gl:GL) (ops:Array Oper) (dst:Option Tmp) (op:Op) (ty:TypeId) (pos:String) (after:Array Edge) (j:Nat) (b:Bool) (os:List Oper) (tm:List AV) (H:AH):readsA P gl ops (⟨dst,op,ty,pos,after,some (j,b)⟩::os) (tm,H) =
   gd (yieldedA ops tm j) b ((readA P (evalA gl tm) ⟨dst,op,ty,pos,after,some (j,b)⟩ H).bind fun v=>readsA P gl ops os (putA dst v tm,H)) (readsA P gl ops os (putA dst uA tm,H)):=rfl
theorem calmsA_guardB (call:CallF) (ops:Array Oper) (dst:Option Tmp) (op:Op) (ty:TypeId) (pos:String) (after:Array Edge) (j:Nat) (b:Bool) (os:List Oper) (tm:List AV) (H:AH):calmsA P C call ops (⟨dst,op,ty,pos,after,some (j,b)⟩::os) (tm,H) =
   gd (yieldedA ops tm j) b ((calmA P C call (evalA C.gl tm) ⟨dst,op,ty,pos,after,some (j,b)⟩ H).bind fun v=>calmsA P C call ops os (putA dst v tm,H)) (calmsA P C call ops os (putA dst uA tm,H)):=rfl
section
variable (slot:Option Nat) (ev:Operand->Option AV) (dst:Option Tmp) (ty:TypeId) (pos:String) (after:Array Edge) (g:Option (Nat × Bool)) (H:AH)
theorem aop_pickB (c a b:Operand):aop P C slot ev ⟨dst,.pick c a b,ty,pos,after,g⟩ H=(ev c).bind fun cv=>condA cv ((ev a).map fun v=>(.val v,H)) ((ev b).map fun v=>(.val v,H)):=by
 rw [aop_pick]
 cases ev c with
 | none=>rfl
 | some v=>cases v <;> first | rfl | (rename_i b; cases b <;> rfl)
theorem q_pickB (c a b:Operand):quietA P ev ⟨dst,.pick c a b,ty,pos,after,g⟩=(ev c).bind fun cv=>condA cv (ev a) (ev b):=by
 rw [q_pick]
 cases ev c with
 | none=>rfl
 | some v=>cases v <;> first | rfl | (rename_i b; cases b <;> rfl)
theorem rd_pickB (c a b:Operand):readA P ev ⟨dst,.pick c a b,ty,pos,after,g⟩ H=(ev c).bind fun cv=>condA cv (ev a) (ev b):=q_pickB (P:=P) ev dst ty pos after g c a b
end
theorem fin_old {H G:AH} {v:AV} (h:oldA H v=true):finA true H (v,G)=some (v,H):=by
 unfold finA
 simp only [if_true,h]
theorem cm_pickB (call:CallF) (ev:Operand->Option AV) (dst:Option Tmp) (ty:TypeId) (pos:String) (after:Array Edge) (g:Option (Nat × Bool)) (H:AH) (c a b:Operand):calmA P C call ev ⟨dst,.pick c a b,ty,pos,after,g⟩ H=(ev c).bind fun cv=>condA cv (ev a) (ev b):=q_pickB (P:=P) ev dst ty pos after g c a b
theorem fin_bool (H G:AH) (b:Bool):finA true H (.bool b,G)=some (.bool b,H):=rfl
theorem fin_int (H G:AH) (k:IntKind) (n:Int):finA true H (.int k n,G)=some (.int k n,H):=rfl
theorem fin_tup2 (H G:AH) (a b:Bool):finA true H (.tuple [.bool a,.bool b],G)=some (.tuple [.bool a,.bool b],H):=rfl
theorem fin_tup3 (H G:AH) (a b c:Bool):finA true H (.tuple [.bool a,.bool b,.bool c],G)=some (.tuple [.bool a,.bool b,.bool c],H):=rfl
theorem fin_bi (H G:AH) (a:Bool) (k:IntKind) (n:Int):finA true H (.tuple [.bool a,.int k n],G)=some (.tuple [.bool a,.int k n],H):=rfl
end
end Go.Dv
namespace Go.Dv
open Go.Proofs
theorem names_ok:Tryz.prog.funcs.toList.all (fun g=>!(g.name == "runtime.NumGoroutine"))=true:=by kernel_rfl
theorem name_ok (f:Nat) (g:Func) (h:Tryz.prog.funcs[f]? =some g):(g.name == "runtime.NumGoroutine")=false:=by
 have:=List.all_eq_true.1 names_ok g (by
   have h':Tryz.prog.funcs.toList[f]? =some g:=by simpa using h
   exact List.mem_of_getElem? h')
 simpa using this
def tabCs:List AV:=Lib.asciiSpaceTab.map fun n=>.int .u8 n
def wordsS:List ByteArray:=[⟨#[102,117,110,99]⟩,⟨#[107,101,114,110,101,108]⟩,⟨#[98,117,102,102,101,114]⟩,⟨#[105,110,116]⟩,⟨#[115,104,97,114,101,100]⟩,⟨#[108,101,116]⟩,⟨#[105,102]⟩,⟨#[101,108,115,101]⟩,⟨#[119,104,105,108,101]⟩,⟨#[98,114,101,97,107]⟩,⟨#[99,111,110,116,105,110,117,101]⟩,⟨#[114,101,116,117,114,110]⟩,⟨#[98,97,114,114,105,101,114]⟩,⟨#[97,116,111,109,105,99]⟩,⟨#[99,111,108,108,101,99,116]⟩,⟨#[116,105,100]⟩,⟨#[98,105,100]⟩,⟨#[100,105,109]⟩,⟨#[103,114,105,100]⟩,⟨#[109,105,110]⟩,⟨#[109,97,120]⟩,⟨#[97,100,100]⟩,⟨#[97,110,100]⟩,⟨#[111,114]⟩,⟨#[120,111,114]⟩]
def wordsE:List (AV × AV × Nat):=(List.zip wordsS (List.range 25)).map fun p=>(.str p.1,.bool true,p.2)
def wordOrc:CallF:=fun f args H=>match args with
 | []=>if f=130 then some (.map H.length,H++[.map wordsE 25]) else none
 | _=>none
noncomputable def K1:Cfg Tryz.prog:={ gl:=fun x=>if x=0 then some 0 else none,pin:=PinAt 0 tabCs,orc:=fun _ _ _=>none,orcOk:=(by intro _ _ _ _ _ _ _ _ h; cases h),meth:=fun _ _=>none,methOk:=(by intro t n f h; cases h),name:=name_ok,mixed:=Tryz.checked.mixed,pinRo:=fun w0 Pr φ H w h hW=>PinAt.later h hW }
theorem starts1:Starts K1 [.arg tabCs]:=starts_one rfl rfl
theorem callG {f:Nat} (h:(Tryz.prog.funcs[f]?).map (fun fn=>fn.body.isSome)=some true) (C:Cfg Tryz.prog) (slot:Option Nat) (ev:Operand->Option AV) (H:AH) (o:Oper) (xs:Array Operand) (ats:Array TypeId)
   (he:ev (.func f)=some (.func (.func f) [] [])):callA Tryz.prog C slot ev o ⟨.value (.func f),xs,ats⟩ H=(evL ev xs.toList).map fun vs=>(.enter f vs,H):=callF h slot ev H o xs ats he
end Go.Dv
namespace Go.Dv
section
variable {P:Program} {C:Cfg P} {W:Ways P} {pl:Nat->Option Way}
theorem EvC_of {n:Nat} {c:Code} {s:St} {r:AExit × St} (h:evC P C (evCall P C W n) pl n c s=some r):EvC P C W pl c s=some r:=lim_of (mono_evC mono_evCall c s) h
def iterC (P:Program) (C:Cfg P) (W:Ways P) (pl:Nat->Option Way) (n:Nat) (b:Code):Nat->St->Option St
 | 0,s=>some s
 | k+1,s=>match evC P C (evCall P C W n) pl n b s with
   | some (.normal,s')=>iterC P C W pl n b k s'
   | _=>none
theorem EvC_iter {n:Nat} {b:Code}:∀ (k:Nat) {s s':St},iterC P C W pl n b k s=some s'->EvC P C W pl (.loop b) s=EvC P C W pl (.loop b) s'
 | 0,s,s',h=>by cases h; rfl
 | k+1,s,s',h=>by
   unfold iterC at h
   split at h
   · rename_i s1 h1
     rw [EvC_loop,EvC_of h1]
     exact EvC_iter k h
   · cases h
end
end Go.Dv
namespace Go.Dv
def plainEs (es:List (AV × AV × Nat)):Bool:=es.all fun e=>(toV e.1).isSome && (toV e.2.1).isSome
theorem MR_env {φ ψ:Env}:∀ (es:List (AV × AV × Nat)) (l:List MapEntry),plainEs es=true->MR φ es l->MR ψ es l
 | [],_,_,r=>r
 | (_,_,_)::es,_,h,⟨e,l',q,rk,rv,rn,rs⟩=>by
   simp only [plainEs,List.all_cons,Bool.and_eq_true] at h
   exact ⟨e,l',q,toV_env h.1.1 rk,toV_env h.1.2 rv,rn,MR_env es _ h.2 rs⟩
def freshMap (f:FuncId) (es:List (AV × AV × Nat)) (n:Nat):CallF:=fun g args H=>match args with
 | []=>if g=f then some (.map H.length,H++[.map es n]) else none
 | _=>none
theorem freshMap_ok {P:Program} {C:Cfg P} {W:Ways P} {G:AH} (hst:Starts C G) {f:FuncId} {i n:Nat} {es:List (AV × AV × Nat)} {G':AH} (he:Ev P C W f [] G=some (.map i,G')) (hi:G'[i]? =some (.map es n)) (hes:plainEs es=true) (gl:GL) (w0:World) (Pr:Nat->Prop) (hpin:C.pin w0 Pr):CallOk P gl w0 Pr (freshMap f es n):=by
 intro g args H v H' h φ w vs _ hW hr
 unfold freshMap at h
 split at h
 · split at h
   · rename_i hg
     cases h
     subst hg
     have hv:vs=#[]:=by
       have:=hr.length
       simp at this; exact Array.eq_empty_of_size_eq_zero this.symm
     subst hv
     obtain ⟨φ0,hW0,hg0,hp0⟩:=hst w0 Pr φ H w hpin hW
     have:=Ev_sound hp0 g [] G _ _ he φ0 w #[] hg0 hW0 (.nil _)
     refine this.mono fun e w' hw=>?_
     obtain ⟨φ',u,hle,he,hu,hW'⟩:=hw
     have hL:=hW.later hW'.size hW'.old hW'.os hW'.tape hW'.output
     obtain ⟨b,z,es',hφ,hb,hm⟩:=hW'.obj i _ hi
     have hown:Owned G' i:=⟨_,hi,rfl⟩
     have hnp:=hW'.own i _ hown hφ
     simp only [Nat.not_lt] at hnp
     have hbs:=hW'.lt i _ hφ
     obtain ⟨hl,hA⟩:=hL.adopt (slot:=none) (o:=.map es n) (i:=H.length) (H':=H++[.map es n]) rfl (b:=b) (off:=0) (z:=z) hbs (fun hp=>by
       have h1:=hW.prLt b hp
       have h2:=hW.size
       omega) (fun j x _ hx e=>by
       have:=hW.lt j x hx
       omega) ⟨b,z,es',Env.set_self _ _ _,hb,MR_env es _ hes hm⟩ rfl
     obtain ⟨b',z',h2,rfl⟩:=hu
     rw [hφ] at h2
     cases h2
     exact ⟨_,_,hl,he,⟨b,z,Env.set_self _ _ _,rfl⟩,hA⟩
   · cases h
 · cases h
end Go.Dv
