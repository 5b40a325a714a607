/- Functions of the program in the small language. Printed by a program. -/
import Derived.Test.YtiabgllilcfheaaGreatMoB
import Derived.Test.YtiabgllilcfheaaGreatChecked
import Derived.Test.YtiabgllilcfheaaGreatMoA
set_option linter.unusedVariables false
set_option linter.unusedSimpArgs false
set_option maxRecDepth 100000
set_option maxHeartbeats 16000000
namespace Go.Proofs.YtiabgllilcfheaaGreat.V
open Go.RowKit
def Aa:List Nat:=[144007021,144007022,144007024]
def Uu:aZ:=⟨(some 31),(.load false 1 (.t 30)),none,144007003,Aa⟩
def Zv:aZ:=⟨(some 34),(.gC 3 (.t 32) (.t 33)),none,144007006,Aa⟩
def Zw:aZ:=⟨(some 35),(.dz 0 (.t 34)),none,144007007,Aa⟩
def Zx:aZ:=⟨(some 36),(.load false 1 (.t 35)),none,144007008,Aa⟩
def US:aZ:=⟨(some 50),(.append 1 (.t 47) (.t 49)),none,144007022,[144007024]⟩
def Zy:VC:=(.one ⟨(some 51),(.gC 1 (.t 31) (.t 36)),none,144007023,[144007024]⟩ (.one ⟨none,(.store 1 (.t 51) (.t 50)),none,144007024,[]⟩ (.eZ false [])))
def zz7:VC:=(.one US Zy)
def Zz:VC:=(.one Zx Zy)
def zz9:VC:=(.both (.one Zx zz7) (.one US Zz))
def Uv:VC:=(.one Zv (.one Zw Zz))
def mZ:List Nat:=[144008021,144008022,144008024]
def HQ:aZ:=⟨(some 55),(.load false 1 (.t 54)),none,144008003,mZ⟩
def QG:aZ:=⟨(some 58),(.gC 3 (.t 56) (.t 57)),none,144008006,mZ⟩
def QH:aZ:=⟨(some 59),(.dz 1 (.t 58)),none,144008007,mZ⟩
def QI:aZ:=⟨(some 60),(.load false 1 (.t 59)),none,144008008,mZ⟩
def HR:aZ:=⟨(some 74),(.append 1 (.t 71) (.t 73)),none,144008022,[144008024]⟩
def QJ:VC:=(.one ⟨(some 75),(.gC 1 (.t 55) (.t 60)),none,144008023,[144008024]⟩ (.one ⟨none,(.store 1 (.t 75) (.t 74)),none,144008024,[]⟩ (.eZ false [])))
def Uw:VC:=(.one HR QJ)
def QK:VC:=(.one QI QJ)
def Ux:VC:=(.both (.one QI Uw) (.one HR QK))
def Uy:VC:=(.one QG (.one QH QK))
def T5:Dl:=⟨77,2,(.seq (.eZ false [q 4 (.dH (.k .iX)) 144000000]) (.seq (.eZ false [q 7 (.dH (.t 0)) 144001000,q 8 (.dH (.t 1)) 144001001,q 9 (.build [(.int .i64 0),.br,.br,.br] [(0,(1,(.t 7))),(1,(1,(.t 8)))]) 144001002,q 10 (.box (.t 9)) 144001003,q 5 (.dH (.t 10)) 144001004]) (.seq (.eZ false [q 11 (.dH (.t 5)) 144002000,q 12 (.dH (.t 0)) 144002001,q 13 (.nr [.br] (.t 12) (.t 12)) 144002002,q 14 (.Dp (.t 11)) 144002003,q 15 (.dz 2 (.t 14)) 144002004,⟨none,(.store 1 (.t 15) (.t 13)),none,144002005,[]⟩]) (.seq (.eZ false [q 16 (.dH (.t 5)) 144003000,q 17 (.dH (.t 1)) 144003001,q 18 (.len (.t 17)) 144003002,q 19 (.nr [(.int .i64 0)] (.t 18) (.t 18)) 144003003,q 20 (.Dp (.t 16)) 144003004,q 21 (.dz 3 (.t 20)) 144003005,⟨none,(.store 1 (.t 21) (.t 19)),none,144003006,[]⟩]) (.seq (.seq (.eZ false [q 6 (.dH (.k (.int .i64 0))) 144004000]) (.block 0 (.loop (.seq (.seq (.eZ false [q 22 (.dH (.t 6)) 144005000,q 23 (.dH (.t 1)) 144005001,q 24 (.len (.t 23)) 144005002,q 25 (.bin .lss .i64 (.t 22) (.t 24)) 144005003]) (.cond (.t 25) .skip (.exit 0))) (.seq (.block 1 (.seq (.one ⟨(some 28),(.dH (.t 5)),none,144007000,Aa⟩ (.one ⟨(some 29),(.Dp (.t 28)),none,144007001,Aa⟩ (.one ⟨(some 30),(.dz 2 (.t 29)),none,144007002,Aa⟩ (.one ⟨(some 32),(.dH (.t 1)),none,144007004,Aa⟩ (.one ⟨(some 33),(.dH (.t 6)),none,144007005,Aa⟩ (.one ⟨(some 37),(.dH (.t 5)),none,144007009,Aa⟩ (.one ⟨(some 38),(.Dp (.t 37)),none,144007010,Aa⟩ (.one ⟨(some 39),(.dz 2 (.t 38)),none,144007011,Aa⟩ (.one ⟨(some 40),(.load false 1 (.t 39)),none,144007012,Aa⟩ (.one ⟨(some 41),(.dH (.t 1)),none,144007013,Aa⟩ (.one ⟨(some 42),(.dH (.t 6)),none,144007014,Aa⟩ (.one ⟨(some 43),(.gC 3 (.t 41) (.t 42)),none,144007015,Aa⟩ (.one ⟨(some 44),(.dz 0 (.t 43)),none,144007016,Aa⟩ (.one ⟨(some 45),(.load false 1 (.t 44)),none,144007017,Aa⟩ (.one ⟨(some 46),(.gC 1 (.t 40) (.t 45)),none,144007018,Aa⟩ (.one ⟨(some 47),(.load false 1 (.t 46)),none,144007019,Aa⟩ (.one ⟨(some 48),(.dH (.t 6)),none,144007020,Aa⟩ (.one ⟨(some 49),(.fA 1 1 [(.t 48)]),none,144007021,[144007022,144007024]⟩ (.both (.one Uu (.both (.one Zv (.one Zw zz9)) (.one US Uv))) (.both (.one Zv (.one Zw (.both (.one Uu zz9) (.both (.one Zx (.both (.one Uu zz7) (.one US (.one Uu Zy)))) (.one US (.one Uu Zz)))))) (.one US (.one Uu Uv)))))))))))))))))))))) (.one ⟨(some 52),(.dH (.t 5)),none,144008000,mZ⟩ (.one ⟨(some 53),(.Dp (.t 52)),none,144008001,mZ⟩ (.one ⟨(some 54),(.dz 2 (.t 53)),none,144008002,mZ⟩ (.one ⟨(some 56),(.dH (.t 1)),none,144008004,mZ⟩ (.one ⟨(some 57),(.dH (.t 6)),none,144008005,mZ⟩ (.one ⟨(some 61),(.dH (.t 5)),none,144008009,mZ⟩ (.one ⟨(some 62),(.Dp (.t 61)),none,144008010,mZ⟩ (.one ⟨(some 63),(.dz 2 (.t 62)),none,144008011,mZ⟩ (.one ⟨(some 64),(.load false 1 (.t 63)),none,144008012,mZ⟩ (.one ⟨(some 65),(.dH (.t 1)),none,144008013,mZ⟩ (.one ⟨(some 66),(.dH (.t 6)),none,144008014,mZ⟩ (.one ⟨(some 67),(.gC 3 (.t 65) (.t 66)),none,144008015,mZ⟩ (.one ⟨(some 68),(.dz 1 (.t 67)),none,144008016,mZ⟩ (.one ⟨(some 69),(.load false 1 (.t 68)),none,144008017,mZ⟩ (.one ⟨(some 70),(.gC 1 (.t 64) (.t 69)),none,144008018,mZ⟩ (.one ⟨(some 71),(.load false 1 (.t 70)),none,144008019,mZ⟩ (.one ⟨(some 72),(.dH (.t 6)),none,144008020,mZ⟩ (.one ⟨(some 73),(.fA 1 1 [(.t 72)]),none,144008021,[144008022,144008024]⟩ (.both (.one HQ (.both (.one QG (.one QH Ux)) (.one HR Uy))) (.both (.one QG (.one QH (.both (.one HQ Ux) (.both (.one QI (.both (.one HQ Uw) (.one HR (.one HQ QJ)))) (.one HR (.one HQ QK)))))) (.one HR (.one HQ Uy)))))))))))))))))))))))) (.eZ false [q 26 (.dH (.t 6)) 144006000,q 27 (.bin .add .i64 (.t 26) (.k (.int .i64 1))) 144006001,q 6 (.dH (.t 27)) 144006002])))))) (.seq (.eZ false [q 76 (.dH (.t 5)) 144009000,q 4 (.dH (.t 76)) 144009001]) .ret)))))),[(.tmp 4)]⟩
theorem Sf:sb Tryz.prog 144 [(7,2),(8,2)]=some T5:=by kernel_rfl
def Uz:VC:=(.one (q 48 (.call 188 [(.t 47)]) 173010011) (.one (q 9 (.dH (.t 42)) 173010012) (.one (q 10 (.dH (.t 48)) 173010013) (.eZ false []))))
def UA:VC:=(.one (q 47 (.load false 1 (.t 46)) 173010010) Uz)
def UB:VC:=(.one (q 46 (.gC 1 (.t 43) (.t 45)) 173010009) UA)
def T6:Dl:=⟨118,2,(.seq (.eZ false [q 4 (.dH (.k .br)) 173000000]) (.seq (.eZ false [q 17 (.dH (.t 0)) 173001000,q 18 (.nr [.iX] (.t 17) (.t 17)) 173001001,q 5 (.dH (.t 18)) 173001002]) (.seq (.seq (.eZ false [q 19 (.dH (.t 5)) 173002000,q 20 (.len (.t 19)) 173002001,q 21 (.dH (.k (.int .i64 0))) 173002002]) (.block 0 (.loop (.seq (.eZ false [q 22 (.bin .lss .i64 (.t 21) (.t 20)) 173003000]) (.seq (.cond (.t 22) .skip (.exit 0)) (.seq (.block 1 (.seq (.eZ false [q 23 (.dH (.t 21)) 173004000,q 6 (.dH (.t 23)) 173004001]) (.eZ false [q 24 (.dH (.t 5)) 173005000,q 25 (.dH (.t 6)) 173005001,q 26 (.dH (.t 6)) 173005002,q 27 (.build [.iX,(.int .i64 0)] [(1,(1,(.t 26)))]) 173005003,q 28 (.box (.t 27)) 173005004,q 29 (.gC 1 (.t 24) (.t 25)) 173005005,⟨none,(.store 1 (.t 29) (.t 28)),none,173005006,[]⟩]))) (.eZ false [q 30 (.bin .add .i64 (.t 21) (.k (.int .i64 1))) 173006000,q 21 (.dH (.t 30)) 173006001]))))))) (.seq (.seq (.eZ false [q 31 (.dH (.t 1)) 173007000,q 32 (.len (.t 31)) 173007001,q 33 (.dH (.k (.int .i64 0))) 173007002]) (.block 2 (.loop (.seq (.eZ false [q 34 (.bin .lss .i64 (.t 33) (.t 32)) 173008000]) (.seq (.cond (.t 34) .skip (.exit 2)) (.seq (.block 3 (.seq (.eZ false [q 35 (.gC 3 (.t 31) (.t 33)) 173009000,q 36 (.load true 3 (.t 35)) 173009001,q 8 (.new [(.int .i64 0),(.int .i64 0),(.int .i64 0)]) 173009002,⟨none,(.store 3 (.t 8) (.t 36)),none,173009003,[]⟩]) (.seq (.one (q 37 (.dH (.t 5)) 173010000) (.one (q 38 (.dz 0 (.t 8)) 173010001) (.one (q 39 (.load false 1 (.t 38)) 173010002) (.one (q 40 (.gC 1 (.t 37) (.t 39)) 173010003) (.one (q 41 (.load false 1 (.t 40)) 173010004) (.one (q 43 (.dH (.t 5)) 173010006) (.one (q 44 (.dz 1 (.t 8)) 173010007) (.both (.one (q 42 (.call 188 [(.t 41)]) 173010005) (.one (q 45 (.load false 1 (.t 44)) 173010008) UB)) (.one (q 45 (.load false 1 (.t 44)) 173010008) (.both (.one (q 42 (.call 188 [(.t 41)]) 173010005) UB) (.one (q 46 (.gC 1 (.t 43) (.t 45)) 173010009) (.both (.one (q 42 (.call 188 [(.t 41)]) 173010005) UA) (.one (q 47 (.load false 1 (.t 46)) 173010010) (.one (q 42 (.call 188 [(.t 41)]) 173010005) Uz)))))))))))))) (.block 4 (.seq (.eZ true [q 50 (.dH (.t 9)) 173011000,q 51 (.Dp (.t 50)) 173011001,q 52 (.dz 1 (.t 51)) 173011002,q 53 (.load false 1 (.t 52)) 173011003,q 54 (.dH (.t 10)) 173011004,q 55 (.Dp (.t 54)) 173011005,q 56 (.dz 1 (.t 55)) 173011006,q 57 (.load false 1 (.t 56)) 173011007,q 58 (.bin .lss .i64 (.t 53) (.t 57)) 173011008,q 49 (.dH (.t 58)) 173011009]) (.cond (.t 49) (.eZ false [q 59 (.dH (.t 10)) 173012000,q 60 (.dH (.t 9)) 173012001,q 61 (.Dp (.t 59)) 173012002,q 62 (.dz 0 (.t 61)) 173012003,⟨none,(.store 1 (.t 62) (.t 60)),none,173012004,[]⟩]) (.seq (.eZ true [q 64 (.dH (.t 10)) 173013000,q 65 (.Dp (.t 64)) 173013001,q 66 (.dz 1 (.t 65)) 173013002,q 67 (.load false 1 (.t 66)) 173013003,q 68 (.dH (.t 9)) 173013004,q 69 (.Dp (.t 68)) 173013005,q 70 (.dz 1 (.t 69)) 173013006,q 71 (.load false 1 (.t 70)) 173013007,q 72 (.bin .lss .i64 (.t 67) (.t 71)) 173013008,q 63 (.dH (.t 72)) 173013009]) (.cond (.t 63) (.eZ false [q 73 (.dH (.t 9)) 173014000,q 74 (.dH (.t 10)) 173014001,q 75 (.Dp (.t 73)) 173014002,q 76 (.dz 0 (.t 75)) 173014003,⟨none,(.store 1 (.t 76) (.t 74)),none,173014004,[]⟩]) .skip)))))))) (.eZ false [q 77 (.bin .add .i64 (.t 33) (.k (.int .i64 1))) 173015000,q 33 (.dH (.t 77)) 173015001]))))))) (.seq (.eZ false [q 11 (.dH (.k .br)) 173016000]) (.seq (.eZ false [⟨(some 78),(.mq (.new ⟨false,[.tI]⟩) []),none,173017000,[]⟩,q 12 (.dH (.t 78)) 173017001]) (.seq (.seq (.eZ false [q 79 (.dH (.t 5)) 173018000,q 80 (.len (.t 79)) 173018001,q 81 (.dH (.k (.int .i64 0))) 173018002]) (.block 5 (.loop (.seq (.eZ false [q 82 (.bin .lss .i64 (.t 81) (.t 80)) 173019000]) (.seq (.cond (.t 82) .skip (.exit 5)) (.seq (.block 6 (.seq (.eZ false [q 83 (.dH (.t 81)) 173020000,q 84 (.gC 1 (.t 79) (.t 81)) 173020001,q 85 (.load false 1 (.t 84)) 173020002,q 13 (.dH (.t 83)) 173020003,q 14 (.dH (.t 85)) 173020004]) (.seq (.eZ false [q 87 (.dH (.t 12)) 173021000,q 88 (.dH (.t 14)) 173021001,q 89 (.call 188 [(.t 88)]) 173021002,q 90 (.Dp (.t 89)) 173021003,q 91 (.dz 1 (.t 90)) 173021004,q 92 (.load false 1 (.t 91)) 173021005,⟨(some 93),(.mq (.look ⟨false,[.tI]⟩ true (.int .i64 0)) [(.t 87),(.t 92)]),none,173021006,[]⟩,q 86 (.dH (.t 93)) 173021007,q 94 (.extract 0 (.t 86)) 173021008,q 95 (.extract 1 (.t 86)) 173021009,q 15 (.dH (.t 94)) 173021010,q 16 (.dH (.t 95)) 173021011]) (.seq (.seq (.eZ false [q 96 (.dH (.t 16)) 173022000,q 97 (.not (.t 96)) 173022001]) (.cond (.t 97) (.seq (.eZ false [q 98 (.dH (.t 11)) 173023000,q 99 (.len (.t 98)) 173023001,q 15 (.dH (.t 99)) 173023002]) (.seq (.eZ false [q 100 (.dH (.t 12)) 173024000,q 101 (.dH (.t 13)) 173024001,q 102 (.dH (.t 15)) 173024002,⟨none,(.mw (.set ⟨false,[.tI]⟩) [(.t 100),(.t 101),(.t 102)]),none,173024003,[]⟩]) (.eZ false [q 103 (.dH (.t 11)) 173025000,q 104 (.fA 1 1 [(.k .br)]) 173025001,q 105 (.append 1 (.t 103) (.t 104)) 173025002,q 11 (.dH (.t 105)) 173025003]))) .skip)) (.eZ false [q 106 (.dH (.t 11)) 173026000,q 107 (.dH (.t 15)) 173026001,q 108 (.dH (.t 11)) 173026002,q 109 (.dH (.t 15)) 173026003,q 110 (.gC 1 (.t 108) (.t 109)) 173026004,q 111 (.load false 1 (.t 110)) 173026005,q 112 (.dH (.t 13)) 173026006,q 113 (.fA 1 1 [(.t 112)]) 173026007,q 114 (.append 1 (.t 111) (.t 113)) 173026008,q 115 (.gC 1 (.t 106) (.t 107)) 173026009,⟨none,(.store 1 (.t 115) (.t 114)),none,173026010,[]⟩]))))) (.eZ false [q 116 (.bin .add .i64 (.t 81) (.k (.int .i64 1))) 173027000,q 81 (.dH (.t 116)) 173027001]))))))) (.seq (.eZ false [q 117 (.dH (.t 11)) 173028000,q 4 (.dH (.t 117)) 173028001]) .ret)))))))),[(.tmp 4)]⟩
theorem Sg:sb Tryz.prog 173 [(10,2)]=some T6:=by kernel_rfl
def N4:aZ:=⟨(some 26),(.call 48 [(.t 24),(.t 25)]),(some (23,false)),20004009,[]⟩
def N5:aZ:=⟨(some 28),(.load true 2 (.t 27)),(some (23,false)),20004011,[]⟩
def QL:aZ:=⟨(some 30),(.load false 1 (.t 29)),(some (23,false)),20004013,[]⟩
def QM:VC:=(.one ⟨(some 31),(.call 56 [(.t 26),(.t 28),(.t 30)]),(some (23,false)),20004014,[]⟩ (.one ⟨(some 32),(.not (.t 31)),(some (23,false)),20004015,[]⟩ (.one (q 33 (.pick (.t 23) (.k (.bool true)) (.t 32)) 20004016) (.one (q 16 (.dH (.t 33)) 20004017) (.eZ false [])))))
def UC:VC:=(.one QL QM)
def UD:VC:=(.one N4 QM)
def X5:Dl:=⟨47,3,(.seq (.eZ false [q 3 (.box (.t 0)) 20000000,q 4 (.box (.t 1)) 20000001,q 5 (.box (.t 2)) 20000002,q 6 (.new [.br]) 20000003,q 7 (.dH (.k (.int .i64 0))) 20000004]) (.seq (.seq (.eZ false [q 9 (.load true 4 (.t 3)) 20001000,q 10 (.load true 1 (.t 4)) 20001001,q 11 (.call 40 [(.t 9),(.t 10)]) 20001002,q 8 (.dH (.t 11)) 20001003]) (.seq (.eZ false [q 12 (.dH (.t 8)) 20002000,q 13 (.Wo true .tI (.t 12) (.k (.int .i64 0))) 20002001]) (.cond (.t 13) (.seq (.eZ false [q 14 (.build [.br] []) 20003000,q 15 (.dH (.t 8)) 20003001,⟨none,(.store 1 (.t 6) (.t 14)),none,20003002,[]⟩,q 7 (.dH (.t 15)) 20003003]) .ret) .skip))) (.seq (.block 0 (.seq (.one (q 17 (.dz 0 (.t 3)) 20004000) (.one (q 18 (.load true 2 (.t 17)) 20004001) (.one (q 19 (.dz 2 (.t 5)) 20004002) (.one (q 20 (.load false 1 (.t 19)) 20004003) (.one (q 21 (.call 55 [(.t 18),(.t 20)]) 20004004) (.one (q 22 (.not (.t 21)) 20004005) (.one (q 23 (.dH (.t 22)) 20004006) (.one ⟨(some 24),(.load true 4 (.t 3)),(some (23,false)),20004007,[]⟩ (.one ⟨(some 25),(.load true 1 (.t 4)),(some (23,false)),20004008,[]⟩ (.one ⟨(some 27),(.dz 0 (.t 5)),(some (23,false)),20004010,[]⟩ (.one ⟨(some 29),(.dz 2 (.t 5)),(some (23,false)),20004012,[]⟩ (.both (.one N4 (.one N5 UC)) (.both (.one N5 (.both (.one N4 UC) (.one QL UD))) (.one QL (.both (.one N4 (.one N5 QM)) (.one N5 UD)))))))))))))))) (.cond (.t 16) (.seq (.eZ false [q 34 (.build [.br] []) 20005000,⟨none,(.store 1 (.t 6) (.t 34)),none,20005001,[]⟩,q 7 (.dH (.k (.int .i64 2))) 20005002]) .ret) (.seq (.eZ false [q 36 (.dz 0 (.t 4)) 20006000,q 37 (.load false 1 (.t 36)) 20006001,q 38 (.len (.t 37)) 20006002,q 39 (.bin .geq .i64 (.t 38) (.k (.int .i64 500))) 20006003,q 35 (.dH (.t 39)) 20006004]) (.cond (.t 35) (.seq (.eZ false [q 40 (.build [.br] []) 20007000,⟨none,(.store 1 (.t 6) (.t 40)),none,20007001,[]⟩,q 7 (.dH (.k (.int .i64 4))) 20007002]) .ret) .skip))))) (.seq (.eZ false [q 41 (.load true 1 (.t 4)) 20008000,q 42 (.dz 0 (.t 5)) 20008001,q 43 (.load true 2 (.t 42)) 20008002,q 44 (.dz 2 (.t 5)) 20008003,q 45 (.load false 1 (.t 44)) 20008004,q 46 (.call 57 [(.t 41),(.t 43),(.t 45)]) 20008005,⟨none,(.store 1 (.t 6) (.t 46)),none,20008006,[]⟩,q 7 (.dH (.k (.int .i64 0))) 20008007]) .ret)))),[(.cell true 1 6),(.tmp 7)]⟩
theorem We:sb Tryz.prog 20 [(4,2)]=some X5:=by kernel_rfl
def QN:aZ:=⟨(some 18),(.call 33 [(.t 17)]),none,57002002,[57002007,57002010]⟩
def UE:aZ:=⟨(some 20),(.load true 2 (.t 4)),none,57002004,[57002007,57002010]⟩
def UF:aZ:=⟨(some 22),(.build [(.int .i64 0),(.int .i64 0),(.int .i64 0)] [(0,(2,(.t 20))),(2,(1,(.t 21)))]),none,57002006,[57002007,57002010]⟩
def UG:aZ:=⟨(some 23),(.fA 3 1 [(.t 22)]),none,57002007,[57002010]⟩
def UH:VC:=(.one ⟨(some 24),(.call 91 [(.t 18),(.t 19),(.t 23)]),none,57002008,[57002010]⟩ (.one ⟨(some 25),(.build [.br] [(0,(1,(.t 24)))]),none,57002009,[57002010]⟩ (.one ⟨none,(.store 1 (.t 6) (.t 25)),none,57002010,[]⟩ (.eZ false []))))
def UI:VC:=(.one UG UH)
def X8:Dl:=⟨26,3,(.seq (.eZ false [q 3 (.box (.t 0)) 57000000,q 4 (.box (.t 1)) 57000001,q 6 (.new [.br]) 57000002]) (.seq (.eZ false [q 10 (.dz 0 (.t 3)) 57001000,q 11 (.load false 1 (.t 10)) 57001001,q 12 (.load true 2 (.t 4)) 57001002,q 13 (.call 67 [(.t 11),(.t 12),(.f 68)]) 57001003,q 9 (.dH (.t 13)) 57001004,q 14 (.extract 0 (.t 9)) 57001005,q 15 (.extract 1 (.t 9)) 57001006,q 7 (.dH (.t 14)) 57001007,q 8 (.dH (.t 15)) 57001008]) (.seq (.one ⟨(some 16),(.dz 0 (.t 3)),none,57002000,[57002007,57002010]⟩ (.one ⟨(some 17),(.load false 1 (.t 16)),none,57002001,[57002007,57002010]⟩ (.one ⟨(some 19),(.dH (.t 7)),none,57002003,[57002007,57002010]⟩ (.one ⟨(some 21),(.dH (.t 2)),none,57002005,[57002007,57002010]⟩ (.both (.one QN (.one UE (.one UF UI))) (.one UE (.one UF (.both (.one QN UI) (.one UG (.one QN UH)))))))))) .ret))),[(.cell true 1 6)]⟩
theorem Wh:sb Tryz.prog 57 [(2,2)]=some X8:=by kernel_rfl
def AB:List Nat:=[105006009,105006010,105006012]
def QO:aZ:=⟨(some 21),(.load false 1 (.t 20)),none,105006001,AB⟩
def UJ:aZ:=⟨(some 23),(.call 58 [(.t 22)]),none,105006003,AB⟩
def UK:aZ:=⟨(some 24),(.vU .add (.k (.str [103])) (.t 23)),none,105006004,AB⟩
def UL:aZ:=⟨(some 26),(.call 30 [(.t 25),(.k (.int .i64 2))]),none,105006006,AB⟩
def UM:VC:=(.one ⟨(some 27),(.bin .add .i64 (.k (.int .i64 1)) (.t 26)),none,105006007,AB⟩ (.one ⟨(some 28),(.build [(.str []),(.int .i64 0)] [(0,(1,(.t 24))),(1,(1,(.t 27)))]),none,105006008,AB⟩ (.one ⟨(some 29),(.fA 2 1 [(.t 28)]),none,105006009,[105006010,105006012]⟩ (.one ⟨(some 30),(.append 2 (.t 21) (.t 29)),none,105006010,[105006012]⟩ (.one ⟨(some 31),(.dz 0 (.t 5)),none,105006011,[105006012]⟩ (.one ⟨none,(.store 1 (.t 31) (.t 30)),none,105006012,[]⟩ (.eZ false [])))))))
def UN:VC:=(.one UL UM)
def HS:List Nat:=[105016006,105016007,105016009]
def UO:aZ:=⟨(some 53),(.load false 1 (.t 52)),none,105016001,HS⟩
def UP:aZ:=⟨(some 56),(.call 30 [(.t 54),(.t 55)]),none,105016004,HS⟩
def UQ:VC:=(.one ⟨(some 57),(.bin .add .i64 (.k (.int .i64 1)) (.t 56)),none,105016005,HS⟩ (.one ⟨(some 58),(.fA 1 1 [(.t 57)]),none,105016006,[105016007,105016009]⟩ (.one ⟨(some 59),(.append 1 (.t 53) (.t 58)),none,105016007,[105016009]⟩ (.one ⟨(some 60),(.dz 1 (.t 9)),none,105016008,[105016009]⟩ (.one ⟨none,(.store 1 (.t 60) (.t 59)),none,105016009,[]⟩ (.eZ false []))))))
def TZ:Dl:=⟨68,2,(.seq (.eZ false [q 4 (.new [.br,.br]) 105000000]) (.seq (.eZ false [q 11 (.build [.br,.br] []) 105001000,q 5 (.new [.br,.br]) 105001001,⟨none,(.store 2 (.t 5) (.t 11)),none,105001002,[]⟩]) (.seq (.eZ false [q 12 (.dH (.t 0)) 105002000,q 13 (.call 30 [(.t 12),(.k (.int .i64 5))]) 105002001,q 14 (.bin .add .i64 (.k (.int .i64 1)) (.t 13)) 105002002,q 6 (.dH (.t 14)) 105002003]) (.seq (.seq (.eZ false [q 7 (.dH (.k (.int .i64 0))) 105003000]) (.block 0 (.loop (.seq (.seq (.eZ false [q 15 (.dH (.t 7)) 105004000,q 16 (.dH (.t 6)) 105004001,q 17 (.bin .lss .i64 (.t 15) (.t 16)) 105004002]) (.cond (.t 17) .skip (.exit 0))) (.seq (.block 1 (.one ⟨(some 20),(.dz 0 (.t 5)),none,105006000,AB⟩ (.one ⟨(some 22),(.dH (.t 7)),none,105006002,AB⟩ (.one ⟨(some 25),(.dH (.t 0)),none,105006005,AB⟩ (.both (.one QO (.one UJ (.one UK UN))) (.one UJ (.one UK (.both (.one QO UN) (.one UL (.one QO UM)))))))))) (.eZ false [q 18 (.dH (.t 7)) 105005000,q 19 (.bin .add .i64 (.t 18) (.k (.int .i64 1))) 105005001,q 7 (.dH (.t 19)) 105005002])))))) (.seq (.seq (.eZ false [q 8 (.dH (.k (.int .i64 0))) 105007000]) (.block 2 (.loop (.seq (.seq (.eZ false [q 32 (.dH (.t 8)) 105008000,q 33 (.dH (.t 1)) 105008001,q 34 (.bin .lss .i64 (.t 32) (.t 33)) 105008002]) (.cond (.t 34) .skip (.exit 2))) (.seq (.block 3 (.seq (.eZ false [q 37 (.dH (.t 8)) 105010000,q 38 (.call 58 [(.t 37)]) 105010001,q 39 (.vU .add (.k (.str [116])) (.t 38)) 105010002,q 40 (.build [(.str []),.br] [(0,(1,(.t 39)))]) 105010003,q 9 (.new [(.str []),.br]) 105010004,⟨none,(.store 2 (.t 9) (.t 40)),none,105010005,[]⟩]) (.seq (.seq (.eZ false [q 10 (.dH (.k (.int .i64 0))) 105011000]) (.block 4 (.loop (.seq (.seq (.eZ false [q 41 (.dH (.t 10)) 105012000,q 42 (.bin .lss .i64 (.t 41) (.k (.int .i64 4))) 105012001]) (.cond (.t 42) .skip (.exit 4))) (.seq (.block 5 (.seq (.eZ false [q 45 (.dH (.t 0)) 105014000,q 46 (.call 22 [(.t 45),(.k (.int .i64 3))]) 105014001]) (.cond (.t 46) (.eZ false [q 47 (.dz 1 (.t 9)) 105015000,q 48 (.load false 1 (.t 47)) 105015001,q 49 (.fA 1 1 [(.k (.int .i64 0))]) 105015002,q 50 (.append 1 (.t 48) (.t 49)) 105015003,q 51 (.dz 1 (.t 9)) 105015004,⟨none,(.store 1 (.t 51) (.t 50)),none,105015005,[]⟩]) (.one ⟨(some 52),(.dz 1 (.t 9)),none,105016000,HS⟩ (.one ⟨(some 54),(.dH (.t 0)),none,105016002,HS⟩ (.one ⟨(some 55),(.dH (.t 6)),none,105016003,HS⟩ (.both (.one UO (.one UP UQ)) (.one UP (.one UO UQ))))))))) (.eZ false [q 43 (.dH (.t 10)) 105013000,q 44 (.bin .add .i64 (.t 43) (.k (.int .i64 1))) 105013001,q 10 (.dH (.t 44)) 105013002])))))) (.eZ false [q 61 (.dz 1 (.t 5)) 105017000,q 62 (.load false 1 (.t 61)) 105017001,q 63 (.load true 2 (.t 9)) 105017002,q 64 (.fA 2 1 [(.t 63)]) 105017003,q 65 (.append 2 (.t 62) (.t 64)) 105017004,q 66 (.dz 1 (.t 5)) 105017005,⟨none,(.store 1 (.t 66) (.t 65)),none,105017006,[]⟩])))) (.eZ false [q 35 (.dH (.t 8)) 105009000,q 36 (.bin .add .i64 (.t 35) (.k (.int .i64 1))) 105009001,q 8 (.dH (.t 36)) 105009002])))))) (.seq (.eZ false [q 67 (.load true 2 (.t 5)) 105018000,⟨none,(.store 2 (.t 4) (.t 67)),none,105018001,[]⟩]) .ret)))))),[(.cell true 2 4)]⟩
theorem Se:sb Tryz.prog 105 [(6,2),(16,2)]=some TZ:=by kernel_rfl
def KS:aZ:=⟨(some 9),(.load true 2 (.t 3)),none,80002000,[80002007,80002013]⟩
def UR:aZ:=⟨(some 14),(.call 30 [(.t 10),(.t 13)]),none,80002005,[80002007,80002013]⟩
def UT:aZ:=⟨(some 15),(.build [(.int .i64 0),(.int .i64 0),(.int .i64 0)] [(2,(1,(.t 14)))]),none,80002006,[80002007,80002013]⟩
def QP:aZ:=⟨(some 16),(.fA 3 1 [(.t 15)]),none,80002007,[80002013]⟩
def QQ:aZ:=⟨(some 17),(.build [.br] [(0,(1,(.t 16)))]),none,80002008,[80002013]⟩
def N6:aZ:=⟨(some 19),(.call 30 [(.t 18),(.k (.int .i64 2))]),none,80002010,[80002007,80002013]⟩
def QR:VC:=(.one ⟨(some 20),(.bin .add .i64 (.k (.int .i64 2)) (.t 19)),none,80002011,[80002007,80002013]⟩ (.one ⟨(some 21),(.build [.br,.br,.br,(.int .i64 0)] [(0,(2,(.t 9))),(2,(1,(.t 17))),(3,(1,(.t 20)))]),none,80002012,[80002013]⟩ (.one ⟨none,(.store 4 (.t 2) (.t 21)),none,80002013,[]⟩ (.eZ false []))))
def UU:VC:=(.one N6 QR)
def UW:VC:=(.one QP (.one QQ QR))
def UX:VC:=(.both (.one QP (.one QQ UU)) (.one N6 UW))
def X9:Dl:=⟨22,1,(.seq (.eZ false [q 2 (.new [.br,.br,.br,(.int .i64 0)]) 80000000]) (.seq (.eZ false [q 4 (.dH (.t 0)) 80001000,q 5 (.dH (.t 0)) 80001001,q 6 (.call 30 [(.t 5),(.k (.int .i64 4))]) 80001002,q 7 (.bin .add .i64 (.k (.int .i64 2)) (.t 6)) 80001003,q 8 (.call 105 [(.t 4),(.t 7)]) 80001004,q 3 (.new [.br,.br]) 80001005,⟨none,(.store 2 (.t 3) (.t 8)),none,80001006,[]⟩]) (.seq (.one ⟨(some 10),(.dH (.t 0)),none,80002001,[80002007,80002013]⟩ (.one ⟨(some 11),(.dz 1 (.t 3)),none,80002002,[80002007,80002013]⟩ (.one ⟨(some 12),(.load false 1 (.t 11)),none,80002003,[80002007,80002013]⟩ (.one ⟨(some 13),(.len (.t 12)),none,80002004,[80002007,80002013]⟩ (.one ⟨(some 18),(.dH (.t 0)),none,80002009,[80002007,80002013]⟩ (.both (.one KS (.one UR (.one UT UX))) (.one UR (.one UT (.both (.one KS UX) (.both (.one QP (.one QQ (.both (.one KS UU) (.one N6 (.one KS QR))))) (.one N6 (.one KS UW)))))))))))) .ret))),[(.cell true 4 2)]⟩
theorem Wi:sb Tryz.prog 80 [(2,2)]=some X9:=by kernel_rfl
def FX:List Nat:=[23007007,23007008,23007010]
def UY:aZ:=⟨(some 43),(.load false 1 (.t 42)),none,23010001,[23010007]⟩
def UZ:aZ:=⟨(some 46),(.call 30 [(.t 44),(.t 45)]),none,23010004,[23010007]⟩
def U0:VC:=(.one ⟨(some 47),(.bin .add .i64 (.k (.int .i64 1)) (.t 46)),none,23010005,[23010007]⟩ (.one ⟨(some 48),(.gC 1 (.t 43) (.k (.int .i64 0))),none,23010006,[23010007]⟩ (.one ⟨none,(.store 1 (.t 48) (.t 47)),none,23010007,[]⟩ (.eZ false []))))
def U3:aZ:=⟨(some 52),(.load false 1 (.t 51)),none,23012001,[23012007]⟩
def U4:aZ:=⟨(some 55),(.call 30 [(.t 53),(.t 54)]),none,23012004,[23012007]⟩
def U5:VC:=(.one ⟨(some 56),(.bin .add .i64 (.k (.int .i64 1)) (.t 55)),none,23012005,[23012007]⟩ (.one ⟨(some 57),(.gC 1 (.t 52) (.k (.int .i64 2))),none,23012006,[23012007]⟩ (.one ⟨none,(.store 1 (.t 57) (.t 56)),none,23012007,[]⟩ (.eZ false []))))
def X6:Dl:=⟨110,1,(.seq (.eZ false [q 2 (.new [.br,.br,.br,(.int .i64 0)]) 23000000]) (.seq (.eZ false [q 10 (.dH (.t 0)) 23001000,q 11 (.call 30 [(.t 10),(.k (.int .i64 2))]) 23001001,q 12 (.bin .add .i64 (.k (.int .i64 1)) (.t 11)) 23001002,q 3 (.dH (.t 12)) 23001003]) (.seq (.eZ false [q 13 (.build [.br,.br] []) 23002000,q 4 (.new [.br,.br]) 23002001,⟨none,(.store 2 (.t 4) (.t 13)),none,23002002,[]⟩]) (.seq (.eZ false [q 14 (.dH (.t 0)) 23003000,q 15 (.call 30 [(.t 14),(.k (.int .i64 6))]) 23003001,q 16 (.bin .add .i64 (.k (.int .i64 2)) (.t 15)) 23003002,q 5 (.dH (.t 16)) 23003003]) (.seq (.seq (.eZ false [q 6 (.dH (.k (.int .i64 0))) 23004000]) (.block 0 (.loop (.seq (.seq (.eZ false [q 17 (.dH (.t 6)) 23005000,q 18 (.dH (.t 5)) 23005001,q 19 (.bin .lss .i64 (.t 17) (.t 18)) 23005002]) (.cond (.t 19) .skip (.exit 0))) (.seq (.block 1 (.seq (.eZ true [⟨(some 22),(.dz 0 (.t 4)),none,23007000,FX⟩,⟨(some 23),(.load false 1 (.t 22)),none,23007001,FX⟩,⟨(some 24),(.dH (.t 6)),none,23007002,FX⟩,⟨(some 25),(.call 58 [(.t 24)]),none,23007003,FX⟩,⟨(some 26),(.vU .add (.k (.str [103])) (.t 25)),none,23007004,FX⟩,⟨(some 27),(.dH (.t 3)),none,23007005,FX⟩,⟨(some 28),(.build [(.str []),(.int .i64 0)] [(0,(1,(.t 26))),(1,(1,(.t 27)))]),none,23007006,FX⟩,⟨(some 29),(.fA 2 1 [(.t 28)]),none,23007007,[23007008,23007010]⟩,⟨(some 30),(.append 2 (.t 23) (.t 29)),none,23007008,[23007010]⟩,⟨(some 31),(.dz 0 (.t 4)),none,23007009,[23007010]⟩,⟨none,(.store 1 (.t 31) (.t 30)),none,23007010,[]⟩]) (.seq (.eZ false [q 32 (.dH (.t 6)) 23008000,q 33 (.call 58 [(.t 32)]) 23008001,q 34 (.vU .add (.k (.str [116])) (.t 33)) 23008002,q 35 (.dH (.t 6)) 23008003,q 36 (.bin .add .i64 (.t 35) (.k (.int .i64 1))) 23008004,q 37 (.dH (.t 6)) 23008005,q 38 (.fA 1 4 [(.k (.int .i64 0)),(.t 36),(.k (.int .i64 0)),(.t 37)]) 23008006,q 39 (.build [(.str []),.br] [(0,(1,(.t 34))),(1,(1,(.t 38)))]) 23008007,q 7 (.new [(.str []),.br]) 23008008,⟨none,(.store 2 (.t 7) (.t 39)),none,23008009,[]⟩]) (.seq (.seq (.eZ false [q 40 (.dH (.t 0)) 23009000,q 41 (.call 22 [(.t 40),(.k (.int .i64 4))]) 23009001]) (.cond (.t 41) (.one ⟨(some 42),(.dz 1 (.t 7)),none,23010000,[23010007]⟩ (.one ⟨(some 44),(.dH (.t 0)),none,23010002,[23010007]⟩ (.one ⟨(some 45),(.dH (.t 5)),none,23010003,[23010007]⟩ (.both (.one UY (.one UZ U0)) (.one UZ (.one UY U0)))))) .skip)) (.seq (.seq (.eZ false [q 49 (.dH (.t 0)) 23011000,q 50 (.call 22 [(.t 49),(.k (.int .i64 4))]) 23011001]) (.cond (.t 50) (.one ⟨(some 51),(.dz 1 (.t 7)),none,23012000,[23012007]⟩ (.one ⟨(some 53),(.dH (.t 0)),none,23012002,[23012007]⟩ (.one ⟨(some 54),(.dH (.t 5)),none,23012003,[23012007]⟩ (.both (.one U3 (.one U4 U5)) (.one U4 (.one U3 U5)))))) .skip)) (.eZ false [q 58 (.dz 1 (.t 4)) 23013000,q 59 (.load false 1 (.t 58)) 23013001,q 60 (.load true 2 (.t 7)) 23013002,q 61 (.fA 2 1 [(.t 60)]) 23013003,q 62 (.append 2 (.t 59) (.t 61)) 23013004,q 63 (.dz 1 (.t 4)) 23013005,⟨none,(.store 1 (.t 63) (.t 62)),none,23013006,[]⟩])))))) (.eZ false [q 20 (.dH (.t 6)) 23006000,q 21 (.bin .add .i64 (.t 20) (.k (.int .i64 1))) 23006001,q 6 (.dH (.t 21)) 23006002])))))) (.seq (.seq (.eZ false [q 8 (.dH (.k (.int .i64 0))) 23014000]) (.block 2 (.loop (.seq (.seq (.eZ false [q 64 (.dH (.t 8)) 23015000,q 65 (.dz 1 (.t 4)) 23015001,q 66 (.load false 1 (.t 65)) 23015002,q 67 (.len (.t 66)) 23015003,q 68 (.bin .lss .i64 (.t 64) (.t 67)) 23015004]) (.cond (.t 68) .skip (.exit 2))) (.seq (.block 3 (.seq (.eZ false [q 9 (.dH (.k (.int .i64 0))) 23017000]) (.block 4 (.loop (.seq (.seq (.eZ false [q 71 (.dH (.t 9)) 23018000,q 72 (.bin .lss .i64 (.t 71) (.k (.int .i64 4))) 23018001]) (.cond (.t 72) .skip (.exit 4))) (.seq (.block 5 (.seq (.eZ false [q 75 (.dz 1 (.t 4)) 23020000,q 76 (.load false 1 (.t 75)) 23020001,q 77 (.dH (.t 8)) 23020002,q 78 (.gC 2 (.t 76) (.t 77)) 23020003,q 79 (.dz 1 (.t 78)) 23020004,q 80 (.load false 1 (.t 79)) 23020005,q 81 (.dH (.t 9)) 23020006,q 82 (.gC 1 (.t 80) (.t 81)) 23020007,q 83 (.load false 1 (.t 82)) 23020008,q 84 (.dH (.t 5)) 23020009,q 85 (.bin .gtr .i64 (.t 83) (.t 84)) 23020010]) (.cond (.t 85) (.eZ false [q 86 (.dz 1 (.t 4)) 23021000,q 87 (.load false 1 (.t 86)) 23021001,q 88 (.dH (.t 8)) 23021002,q 89 (.gC 2 (.t 87) (.t 88)) 23021003,q 90 (.dz 1 (.t 89)) 23021004,q 91 (.load false 1 (.t 90)) 23021005,q 92 (.dH (.t 9)) 23021006,q 93 (.gC 1 (.t 91) (.t 92)) 23021007,⟨none,(.store 1 (.t 93) (.k (.int .i64 0))),none,23021008,[]⟩]) .skip))) (.eZ false [q 73 (.dH (.t 9)) 23019000,q 74 (.bin .add .i64 (.t 73) (.k (.int .i64 1))) 23019001,q 9 (.dH (.t 74)) 23019002]))))))) (.eZ false [q 69 (.dH (.t 8)) 23016000,q 70 (.bin .add .i64 (.t 69) (.k (.int .i64 1))) 23016001,q 8 (.dH (.t 70)) 23016002])))))) (.seq (.seq (.eZ false [q 94 (.dH (.t 0)) 23022000,q 95 (.call 22 [(.t 94),(.k (.int .i64 2))]) 23022001]) (.cond (.t 95) (.eZ false [q 96 (.dz 1 (.t 4)) 23023000,q 97 (.load false 1 (.t 96)) 23023001,q 98 (.dH (.t 5)) 23023002,q 99 (.bin .sub .i64 (.t 98) (.k (.int .i64 1))) 23023003,q 100 (.gC 2 (.t 97) (.t 99)) 23023004,q 101 (.dz 1 (.t 100)) 23023005,q 102 (.load false 1 (.t 101)) 23023006,q 103 (.gC 1 (.t 102) (.k (.int .i64 1))) 23023007,⟨none,(.store 1 (.t 103) (.k (.int .i64 0))),none,23023008,[]⟩]) .skip)) (.seq (.eZ false [q 104 (.load true 2 (.t 4)) 23024000,q 105 (.build [(.int .i64 0),(.int .i64 0),(.int .i64 0)] []) 23024001,q 106 (.fA 3 1 [(.t 105)]) 23024002,q 107 (.build [.br] [(0,(1,(.t 106)))]) 23024003,q 108 (.dH (.t 3)) 23024004,q 109 (.build [.br,.br,.br,(.int .i64 0)] [(0,(2,(.t 104))),(2,(1,(.t 107))),(3,(1,(.t 108)))]) 23024005,⟨none,(.store 4 (.t 2) (.t 109)),none,23024006,[]⟩]) .ret)))))))),[(.cell true 4 2)]⟩
theorem Wf:sb Tryz.prog 23 [(10,2),(12,2)]=some X6:=by kernel_rfl
def HT:List Nat:=[25011006,25011007,25011009]
def xL:List Nat:=[25013011,25013013,25013014,25013016]
def HU:aZ:=⟨(some 53),(.load false 1 (.t 52)),none,25013001,xL⟩
def N7:aZ:=⟨(some 55),(.call 58 [(.t 54)]),none,25013003,xL⟩
def N8:aZ:=⟨(some 56),(.vU .add (.k (.str [101])) (.t 55)),none,25013004,xL⟩
def N9:aZ:=⟨(some 58),(.call 30 [(.t 57),(.k (.int .i64 2))]),none,25013006,xL⟩
def U6:aZ:=⟨(some 59),(.bin .add .i64 (.k (.int .i64 1)) (.t 58)),none,25013007,xL⟩
def KT:aZ:=⟨(some 61),(.load false 1 (.t 60)),none,25013009,xL⟩
def KU:aZ:=⟨(some 62),(.len (.t 61)),none,25013010,xL⟩
def U7:List Nat:=[25013013,25013014,25013016]
def U8:VC:=(.one ⟨(some 63),(.fA 1 4 [(.t 59),(.k (.int .i64 0)),(.k (.int .i64 0)),(.t 62)]),none,25013011,U7⟩ (.one ⟨(some 64),(.build [(.str []),.br] [(0,(1,(.t 56))),(1,(1,(.t 63)))]),none,25013012,U7⟩ (.one ⟨(some 65),(.fA 2 1 [(.t 64)]),none,25013013,[25013014,25013016]⟩ (.one ⟨(some 66),(.append 2 (.t 53) (.t 65)),none,25013014,[25013016]⟩ (.one ⟨(some 67),(.dz 1 (.t 5)),none,25013015,[25013016]⟩ (.one ⟨none,(.store 1 (.t 67) (.t 66)),none,25013016,[]⟩ (.eZ false [])))))))
def U9:VC:=(.one U6 (.one KT (.one KU U8)))
def Va:VC:=(.one U6 U8)
def QS:VC:=(.one N9 Va)
def Vb:VC:=(.both (.one N9 U9) (.one KT (.one KU QS)))
def Vc:VC:=(.one N7 (.one N8 QS))
def Vd:VC:=(.both (.one HU QS) (.one N9 (.one HU Va)))
def HV:List Nat:=[25019006,25019007,25019009]
def xM:List Nat:=[25021011,25021013,25021014,25021016]
def HW:aZ:=⟨(some 97),(.load false 1 (.t 96)),none,25021001,xM⟩
def Oa:aZ:=⟨(some 99),(.call 58 [(.t 98)]),none,25021003,xM⟩
def Ob:aZ:=⟨(some 100),(.vU .add (.k (.str [110])) (.t 99)),none,25021004,xM⟩
def Oc:aZ:=⟨(some 102),(.call 30 [(.t 101),(.k (.int .i64 2))]),none,25021006,xM⟩
def Ve:aZ:=⟨(some 103),(.bin .add .i64 (.k (.int .i64 1)) (.t 102)),none,25021007,xM⟩
def KV:aZ:=⟨(some 105),(.load false 1 (.t 104)),none,25021009,xM⟩
def KW:aZ:=⟨(some 106),(.len (.t 105)),none,25021010,xM⟩
def Vf:List Nat:=[25021013,25021014,25021016]
def Vg:VC:=(.one ⟨(some 107),(.fA 1 4 [(.k (.int .i64 0)),(.t 103),(.t 106),(.k (.int .i64 0))]),none,25021011,Vf⟩ (.one ⟨(some 108),(.build [(.str []),.br] [(0,(1,(.t 100))),(1,(1,(.t 107)))]),none,25021012,Vf⟩ (.one ⟨(some 109),(.fA 2 1 [(.t 108)]),none,25021013,[25021014,25021016]⟩ (.one ⟨(some 110),(.append 2 (.t 97) (.t 109)),none,25021014,[25021016]⟩ (.one ⟨(some 111),(.dz 1 (.t 5)),none,25021015,[25021016]⟩ (.one ⟨none,(.store 1 (.t 111) (.t 110)),none,25021016,[]⟩ (.eZ false [])))))))
def Vh:VC:=(.one Ve (.one KV (.one KW Vg)))
def Vi:VC:=(.one Ve Vg)
def QT:VC:=(.one Oc Vi)
def Vj:VC:=(.both (.one Oc Vh) (.one KV (.one KW QT)))
def Vk:VC:=(.one Oa (.one Ob QT))
def Vl:VC:=(.both (.one HW QT) (.one Oc (.one HW Vi)))
def sE:List Nat:=[25027015,25027017,25027018,25027020]
def Ja:aZ:=⟨(some 124),(.load false 1 (.t 123)),none,25027001,sE⟩
def NS:aZ:=⟨(some 126),(.call 58 [(.t 125)]),none,25027003,sE⟩
def NT:aZ:=⟨(some 127),(.vU .add (.k (.str [114])) (.t 126)),none,25027004,sE⟩
def NU:aZ:=⟨(some 130),(.call 30 [(.t 129),(.k (.int .i64 2))]),none,25027007,sE⟩
def NV:List Nat:=[25027017,25027018,25027020]
def NW:VC:=(.one ⟨(some 131),(.bin .add .i64 (.k (.int .i64 1)) (.t 130)),none,25027008,sE⟩ (.one ⟨(some 138),(.fA 1 4 [(.t 128),(.t 131),(.t 134),(.t 137)]),none,25027015,NV⟩ (.one ⟨(some 139),(.build [(.str []),.br] [(0,(1,(.t 127))),(1,(1,(.t 138)))]),none,25027016,NV⟩ (.one ⟨(some 140),(.fA 2 1 [(.t 139)]),none,25027017,[25027018,25027020]⟩ (.one ⟨(some 141),(.append 2 (.t 124) (.t 140)),none,25027018,[25027020]⟩ (.one ⟨(some 142),(.dz 1 (.t 5)),none,25027019,[25027020]⟩ (.one ⟨none,(.store 1 (.t 142) (.t 141)),none,25027020,[]⟩ (.eZ false []))))))))
def NX:VC:=(.one NU NW)
def vk:List Nat:=[25029008,25029010,25029011,25029013]
def Jb:aZ:=⟨(some 146),(.load false 1 (.t 145)),none,25029001,vk⟩
def NY:aZ:=⟨(some 148),(.call 30 [(.t 147),(.k (.int .i64 2))]),none,25029003,vk⟩
def NZ:aZ:=⟨(some 149),(.bin .add .i64 (.k (.int .i64 1)) (.t 148)),none,25029004,vk⟩
def N0:aZ:=⟨(some 151),(.call 30 [(.t 150),(.k (.int .i64 2))]),none,25029006,vk⟩
def N1:List Nat:=[25029010,25029011,25029013]
def N2:VC:=(.one ⟨(some 152),(.bin .add .i64 (.k (.int .i64 1)) (.t 151)),none,25029007,vk⟩ (.one ⟨(some 153),(.fA 1 4 [(.k (.int .i64 1)),(.k (.int .i64 2)),(.t 149),(.t 152)]),none,25029008,N1⟩ (.one ⟨(some 154),(.build [(.str []),.br] [(0,(1,(.k (.str [114,52])))),(1,(1,(.t 153)))]),none,25029009,N1⟩ (.one ⟨(some 155),(.fA 2 1 [(.t 154)]),none,25029010,[25029011,25029013]⟩ (.one ⟨(some 156),(.append 2 (.t 146) (.t 155)),none,25029011,[25029013]⟩ (.one ⟨(some 157),(.dz 1 (.t 5)),none,25029012,[25029013]⟩ (.one ⟨none,(.store 1 (.t 157) (.t 156)),none,25029013,[]⟩ (.eZ false []))))))))
def N3:VC:=(.one N0 N2)
def X7:Dl:=⟨163,1,(.seq (.eZ false [q 2 (.new [.br,.br,.br,(.int .i64 0)]) 25000000]) (.seq (.eZ false [q 12 (.dH (.t 0)) 25001000,q 13 (.call 30 [(.t 12),(.k (.int .i64 4))]) 25001001,q 14 (.bin .add .i64 (.k (.int .i64 1)) (.t 13)) 25001002,q 3 (.dH (.t 14)) 25001003]) (.seq (.eZ false [q 15 (.dH (.t 0)) 25002000,q 16 (.call 30 [(.t 15),(.k (.int .i64 4))]) 25002001,q 17 (.bin .add .i64 (.k (.int .i64 1)) (.t 16)) 25002002,q 4 (.dH (.t 17)) 25002003]) (.seq (.eZ false [q 18 (.build [.br,.br] []) 25003000,q 5 (.new [.br,.br]) 25003001,⟨none,(.store 2 (.t 5) (.t 18)),none,25003002,[]⟩]) (.seq (.eZ false [⟨(some 19),(.build [(.str []),(.int .i64 0)] [(0,(1,(.k (.str [122,101,114,111])))),(1,(1,(.k (.int .i64 1))))]),none,25004000,[]⟩,⟨(some 20),(.build [(.str []),(.int .i64 0)] [(0,(1,(.k (.str [111,110,101])))),(1,(1,(.k (.int .i64 1))))]),none,25004001,[]⟩,q 21 (.fA 2 2 [(.t 19),(.t 20)]) 25004002,q 22 (.dz 0 (.t 5)) 25004003,⟨none,(.store 1 (.t 22) (.t 21)),none,25004004,[]⟩]) (.seq (.eZ false [q 23 (.fA 1 4 [(.k (.int .i64 0)),(.k (.int .i64 0)),(.k (.int .i64 0)),(.k (.int .i64 0))]) 25005000,⟨(some 24),(.build [(.str []),.br] [(0,(1,(.k (.str [115,101,101,100])))),(1,(1,(.t 23)))]),none,25005001,[]⟩,q 6 (.new [(.str []),.br]) 25005002,⟨none,(.store 2 (.t 6) (.t 24)),none,25005003,[]⟩]) (.seq (.eZ false [q 25 (.load true 2 (.t 6)) 25006000,q 26 (.fA 2 1 [(.t 25)]) 25006001,q 27 (.dz 1 (.t 5)) 25006002,⟨none,(.store 1 (.t 27) (.t 26)),none,25006003,[]⟩]) (.seq (.eZ false [q 7 (.dH (.k (.int .i64 0))) 25007000]) (.seq (.seq (.eZ false [q 8 (.dH (.k (.int .i64 0))) 25008000]) (.block 0 (.loop (.seq (.seq (.eZ false [q 28 (.dH (.t 8)) 25009000,q 29 (.dH (.t 3)) 25009001,q 30 (.bin .lss .i64 (.t 28) (.t 29)) 25009002]) (.cond (.t 30) .skip (.exit 0))) (.seq (.block 1 (.seq (.eZ true [⟨(some 33),(.dz 0 (.t 5)),none,25011000,HT⟩,⟨(some 34),(.load false 1 (.t 33)),none,25011001,HT⟩,⟨(some 35),(.dH (.t 8)),none,25011002,HT⟩,⟨(some 36),(.call 58 [(.t 35)]),none,25011003,HT⟩,⟨(some 37),(.vU .add (.k (.str [120])) (.t 36)),none,25011004,HT⟩,⟨(some 38),(.build [(.str []),(.int .i64 0)] [(0,(1,(.t 37))),(1,(1,(.k (.int .i64 2))))]),none,25011005,HT⟩,⟨(some 39),(.fA 2 1 [(.t 38)]),none,25011006,[25011007,25011009]⟩,⟨(some 40),(.append 2 (.t 34) (.t 39)),none,25011007,[25011009]⟩,⟨(some 41),(.dz 0 (.t 5)),none,25011008,[25011009]⟩,⟨none,(.store 1 (.t 41) (.t 40)),none,25011009,[]⟩]) (.seq (.eZ true [⟨(some 42),(.dz 1 (.t 5)),none,25012000,[25012010]⟩,⟨(some 43),(.load false 1 (.t 42)),none,25012001,[25012010]⟩,⟨(some 44),(.dH (.t 7)),none,25012002,[25012010]⟩,⟨(some 45),(.gC 2 (.t 43) (.t 44)),none,25012003,[25012010]⟩,⟨(some 46),(.dz 1 (.t 45)),none,25012004,[25012010]⟩,⟨(some 47),(.load false 1 (.t 46)),none,25012005,[25012010]⟩,⟨(some 48),(.dz 0 (.t 5)),none,25012006,[25012010]⟩,⟨(some 49),(.load false 1 (.t 48)),none,25012007,[25012010]⟩,⟨(some 50),(.len (.t 49)),none,25012008,[25012010]⟩,⟨(some 51),(.gC 1 (.t 47) (.k (.int .i64 1))),none,25012009,[25012010]⟩,⟨none,(.store 1 (.t 51) (.t 50)),none,25012010,[]⟩]) (.seq (.one ⟨(some 52),(.dz 1 (.t 5)),none,25013000,xL⟩ (.one ⟨(some 54),(.dH (.t 8)),none,25013002,xL⟩ (.one ⟨(some 57),(.dH (.t 0)),none,25013005,xL⟩ (.one ⟨(some 60),(.dz 0 (.t 5)),none,25013008,xL⟩ (.both (.one HU (.both (.one N7 (.one N8 Vb)) (.one KT (.one KU Vc)))) (.both (.one N7 (.one N8 (.both (.one HU Vb) (.both (.one N9 (.one HU U9)) (.one KT (.one KU Vd)))))) (.one KT (.one KU (.both (.one HU Vc) (.one N7 (.one N8 Vd))))))))))) (.eZ false [q 68 (.dz 1 (.t 5)) 25014000,q 69 (.load false 1 (.t 68)) 25014001,q 70 (.len (.t 69)) 25014002,q 71 (.bin .sub .i64 (.t 70) (.k (.int .i64 1))) 25014003,q 7 (.dH (.t 71)) 25014004]))))) (.eZ false [q 31 (.dH (.t 8)) 25010000,q 32 (.bin .add .i64 (.t 31) (.k (.int .i64 1))) 25010001,q 8 (.dH (.t 32)) 25010002])))))) (.seq (.eZ false [q 7 (.dH (.k (.int .i64 0))) 25015000]) (.seq (.seq (.eZ false [q 9 (.dH (.k (.int .i64 0))) 25016000]) (.block 2 (.loop (.seq (.seq (.eZ false [q 72 (.dH (.t 9)) 25017000,q 73 (.dH (.t 4)) 25017001,q 74 (.bin .lss .i64 (.t 72) (.t 73)) 25017002]) (.cond (.t 74) .skip (.exit 2))) (.seq (.block 3 (.seq (.eZ true [⟨(some 77),(.dz 0 (.t 5)),none,25019000,HV⟩,⟨(some 78),(.load false 1 (.t 77)),none,25019001,HV⟩,⟨(some 79),(.dH (.t 9)),none,25019002,HV⟩,⟨(some 80),(.call 58 [(.t 79)]),none,25019003,HV⟩,⟨(some 81),(.vU .add (.k (.str [121])) (.t 80)),none,25019004,HV⟩,⟨(some 82),(.build [(.str []),(.int .i64 0)] [(0,(1,(.t 81))),(1,(1,(.k (.int .i64 2))))]),none,25019005,HV⟩,⟨(some 83),(.fA 2 1 [(.t 82)]),none,25019006,[25019007,25019009]⟩,⟨(some 84),(.append 2 (.t 78) (.t 83)),none,25019007,[25019009]⟩,⟨(some 85),(.dz 0 (.t 5)),none,25019008,[25019009]⟩,⟨none,(.store 1 (.t 85) (.t 84)),none,25019009,[]⟩]) (.seq (.eZ true [⟨(some 86),(.dz 1 (.t 5)),none,25020000,[25020010]⟩,⟨(some 87),(.load false 1 (.t 86)),none,25020001,[25020010]⟩,⟨(some 88),(.dH (.t 7)),none,25020002,[25020010]⟩,⟨(some 89),(.gC 2 (.t 87) (.t 88)),none,25020003,[25020010]⟩,⟨(some 90),(.dz 1 (.t 89)),none,25020004,[25020010]⟩,⟨(some 91),(.load false 1 (.t 90)),none,25020005,[25020010]⟩,⟨(some 92),(.dz 0 (.t 5)),none,25020006,[25020010]⟩,⟨(some 93),(.load false 1 (.t 92)),none,25020007,[25020010]⟩,⟨(some 94),(.len (.t 93)),none,25020008,[25020010]⟩,⟨(some 95),(.gC 1 (.t 91) (.k (.int .i64 0))),none,25020009,[25020010]⟩,⟨none,(.store 1 (.t 95) (.t 94)),none,25020010,[]⟩]) (.seq (.one ⟨(some 96),(.dz 1 (.t 5)),none,25021000,xM⟩ (.one ⟨(some 98),(.dH (.t 9)),none,25021002,xM⟩ (.one ⟨(some 101),(.dH (.t 0)),none,25021005,xM⟩ (.one ⟨(some 104),(.dz 0 (.t 5)),none,25021008,xM⟩ (.both (.one HW (.both (.one Oa (.one Ob Vj)) (.one KV (.one KW Vk)))) (.both (.one Oa (.one Ob (.both (.one HW Vj) (.both (.one Oc (.one HW Vh)) (.one KV (.one KW Vl)))))) (.one KV (.one KW (.both (.one HW Vk) (.one Oa (.one Ob Vl))))))))))) (.eZ false [q 112 (.dz 1 (.t 5)) 25022000,q 113 (.load false 1 (.t 112)) 25022001,q 114 (.len (.t 113)) 25022002,q 115 (.bin .sub .i64 (.t 114) (.k (.int .i64 1))) 25022003,q 7 (.dH (.t 115)) 25022004]))))) (.eZ false [q 75 (.dH (.t 9)) 25018000,q 76 (.bin .add .i64 (.t 75) (.k (.int .i64 1))) 25018001,q 9 (.dH (.t 76)) 25018002])))))) (.seq (.seq (.eZ false [q 10 (.dH (.k (.int .i64 0))) 25023000]) (.block 4 (.loop (.seq (.seq (.eZ false [q 116 (.dH (.t 10)) 25024000,q 117 (.bin .lss .i64 (.t 116) (.k (.int .i64 4))) 25024001]) (.cond (.t 117) .skip (.exit 4))) (.seq (.block 5 (.seq (.eZ false [q 120 (.dH (.t 0)) 25026000,q 121 (.call 30 [(.t 120),(.k (.int .i64 2))]) 25026001,q 122 (.bin .add .i64 (.k (.int .i64 1)) (.t 121)) 25026002,q 11 (.dH (.t 122)) 25026003]) (.one ⟨(some 123),(.dz 1 (.t 5)),none,25027000,sE⟩ (.one ⟨(some 125),(.dH (.t 10)),none,25027002,sE⟩ (.one ⟨(some 128),(.dH (.t 11)),none,25027005,sE⟩ (.one ⟨(some 129),(.dH (.t 0)),none,25027006,sE⟩ (.one ⟨(some 132),(.dH (.t 10)),none,25027009,sE⟩ (.one ⟨(some 133),(.bin .rem .i64 (.t 132) (.k (.int .i64 2))),none,25027010,sE⟩ (.one ⟨(some 134),(.bin .add .i64 (.k (.int .i64 1)) (.t 133)),none,25027011,sE⟩ (.one ⟨(some 135),(.dH (.t 10)),none,25027012,sE⟩ (.one ⟨(some 136),(.bin .quo .i64 (.t 135) (.k (.int .i64 2))),none,25027013,sE⟩ (.one ⟨(some 137),(.bin .add .i64 (.k (.int .i64 1)) (.t 136)),none,25027014,sE⟩ (.both (.one Ja (.one NS (.one NT NX))) (.one NS (.one NT (.both (.one Ja NX) (.one NU (.one Ja NW)))))))))))))))))) (.eZ false [q 118 (.dH (.t 10)) 25025000,q 119 (.bin .add .i64 (.t 118) (.k (.int .i64 1))) 25025001,q 10 (.dH (.t 119)) 25025002])))))) (.seq (.seq (.eZ false [q 143 (.dH (.t 0)) 25028000,q 144 (.call 22 [(.t 143),(.k (.int .i64 3))]) 25028001]) (.cond (.t 144) (.one ⟨(some 145),(.dz 1 (.t 5)),none,25029000,vk⟩ (.one ⟨(some 147),(.dH (.t 0)),none,25029002,vk⟩ (.one ⟨(some 150),(.dH (.t 0)),none,25029005,vk⟩ (.both (.one Jb (.one NY (.one NZ N3))) (.one NY (.one NZ (.both (.one Jb N3) (.one N0 (.one Jb N2))))))))) .skip)) (.seq (.eZ false [q 158 (.load true 2 (.t 5)) 25030000,q 159 (.build [(.int .i64 0),(.int .i64 0),(.int .i64 0)] []) 25030001,q 160 (.fA 3 1 [(.t 159)]) 25030002,q 161 (.build [.br] [(0,(1,(.t 160)))]) 25030003,⟨(some 162),(.build [.br,.br,.br,(.int .i64 0)] [(0,(2,(.t 158))),(2,(1,(.t 161))),(3,(1,(.k (.int .i64 2))))]),none,25030004,[]⟩,⟨none,(.store 4 (.t 2) (.t 162)),none,25030005,[]⟩]) .ret)))))))))))))),[(.cell true 4 2)]⟩
theorem Wg:sb Tryz.prog 25 [(13,2),(21,2),(27,2),(29,2)]=some X7:=by kernel_rfl
end Go.Proofs.YtiabgllilcfheaaGreat.V

namespace Go.Proofs.YtiabgllilcfheaaGreat.V
open Go.RowKit
attribute [local irreducible] eC wpOps gi Call
attribute [local go_sem] aM fP fa fX fW du upd cz K.av cP AV.cells AV.cell rowOf rowsOf part ld rowAt bL cu dK eb gK bP de eu fS fq dx ef db da dR dS bU bf cU bR cW cV dW eh ee cR bW dd ec bQ aL cY cH gJ bF cL bV aY dr bq dL AV.undef bJ bK dV dY dQ dU cK er ez cF ej ei cX cZ List.getD_cons_zero List.getD_cons_succ List.getD_nil List.all_cons List.all_nil Bool.and_true Bool.true_and Bool.and_self Bool.not_true Bool.not_false Option.map_some Option.map_none Option.bind_some Option.bind_none List.length_cons List.length_nil List.take_succ_cons List.take_zero List.take_nil List.drop_succ_cons List.drop_zero List.drop_nil List.head?_cons List.map_cons List.map_nil List.getElem?_cons_zero List.getElem?_cons_succ List.cons_append List.nil_append List.append_nil List.length_map List.set_cons_zero List.set_cons_succ Nat.reduceMul eq_self Int.toNat_natCast Int.natCast_nonneg and_self true_and and_true decide_true decide_false Bool.false_eq_true Nat.zero_add Nat.add_zero List.contains_cons List.contains_nil Bool.or_false Bool.false_or beq_self_eq_true Nat.reduceBEq ne_eq not_true_eq_false not_false_eq_true Id.mk.injEq false_and and_false Nat.reduceLT Int.reduceLE Int.reduceLT Int.reduceToNat Int.reduceNeg Int.reduceAdd Nat.le_refl List.length_append beq_true beq_false Bool.not_eq_eq_eq_not or_false false_or eL ar ax aW bp bZ cw aV bH aU bh cQ bI
def jm (n lo hi:Int):Bool:=decide (lo<=n)&&decide (n<=hi)
theorem eT {n lo hi:Int} (h:jm n lo hi=true):lo<=n/\n<=hi:=by simpa[jm]using h
theorem jn {n lo hi:Int} (h:lo<=n/\n<=hi):jm n lo hi=true:=by simpa[jm]using h
def z8 (p:aq):Bool:=jm p.fC (-60) 60&&jm p.fu (-60) 60
theorem lj (n lo hi:Int):ay Tryz.prog 28 [.int .i64 n,.int .i64 lo,.int .i64 hi] (.bool (jm n lo hi)):=by
 refine ay.body fR rfl fun hl n0=>?_
 clear hl
 by_cases h1:lo<=n
 ·(try((repeat(revert N;apply Pn.out));refine wk @h1 ?_;(repeat(apply Pn.mk;intro N Z))))
  exact cD (b:=decide (n<=hi)) (.inl rfl) (sd @Nat.zero_add) (by simp[jm,h1])
 ·(try((repeat(revert N;apply Pn.out));refine wk @h1 ?_;(repeat(apply Pn.mk;intro N Z))))
  exact cD (b:=false) (.inl rfl) (sd @Nat.zero_add) (by simp[jm,h1])
theorem mJ (n lo hi:Int):ay Tryz.prog 104 [.int .i64 n,.int .i64 lo,.int .i64 hi] (.bool (jm n lo hi)):=by
 refine ay.body fR rfl fun hl n0=>?_
 clear hl
 by_cases h1:lo<=n
 ·(try((repeat(revert N;apply Pn.out));refine wk @h1 ?_;(repeat(apply Pn.mk;intro N Z))))
  exact cD (b:=decide (n<=hi)) (.inl rfl) (sd @Nat.zero_add) (by simp[jm,h1])
 ·(try((repeat(revert N;apply Pn.out));refine wk @h1 ?_;(repeat(apply Pn.mk;intro N Z))))
  exact cD (b:=false) (.inl rfl) (sd @Nat.zero_add) (by simp[jm,h1])
theorem Mx (d:Int):ay Tryz.prog 140 [.int .i64 d] (.bool (jm d 0 3)):=by
 refine ay.body fR rfl fun hl n0=>?_
 clear hl
 have h:=lj d 0 3
 (repeat(first|((repeat(revert N;apply Pn.out));refine wk @Nat.zero_add ?_;(repeat(apply Pn.mk;intro N Z)))|((try apply Or.inl);refine⟨_,ay.x (h) (sd @Nat.zero_add),?_⟩;apply Z;clear Z N)))
 exact cD (b:=jm d 0 3) (.inl rfl) (sd @Nat.zero_add) rfl
theorem oQ (p:aq):ay Tryz.prog 87 [.agg (ae p)] (.bool (z8 p)):=by
 refine ay.body fR rfl fun hl n0=>?_
 clear hl
 have h1:=lj p.fC (-60) 60
 have h2:=lj p.fu (-60) 60
 by_cases q:jm p.fC (-60) 60=true
 ·rw[q]at h1
  (repeat(first|((repeat(revert N;apply Pn.out));refine wk @ae.eq_1 ?_;(repeat(apply Pn.mk;intro N Z)))|((try apply Or.inl);refine⟨_,ay.x (h1) (sd @ae.eq_1),?_⟩;apply Z;clear Z N)|((try apply Or.inl);refine⟨_,ay.x (h2) (sd @ae.eq_1),?_⟩;apply Z;clear Z N)))
  exact cD (b:=jm p.fu (-60) 60) (.inl rfl) (sd @Nat.zero_add) (by rw[z8,q];rfl)
 ·rw[Bool.not_eq_true]at q
  rw[q]at h1
  (repeat(first|((repeat(revert N;apply Pn.out));refine wk @ae.eq_1 ?_;(repeat(apply Pn.mk;intro N Z)))|((try apply Or.inl);refine⟨_,ay.x (h1) (sd @ae.eq_1),?_⟩;apply Z;clear Z N)|((try apply Or.inl);refine⟨_,ay.x (h2) (sd @ae.eq_1),?_⟩;apply Z;clear Z N)))
  exact cD (b:=false) (.inl rfl) (sd @Nat.zero_add) (by rw[z8,q];rfl)
theorem tQ (p:aq):ay Tryz.prog 77 [.agg (ae p)] (.bool (z8 p)):=by
 refine ay.body fR rfl fun hl n0=>?_
 clear hl
 have h1:=mJ p.fC (-60) 60
 have h2:=mJ p.fu (-60) 60
 by_cases q:jm p.fC (-60) 60=true
 ·rw[q]at h1
  (repeat(first|((repeat(revert N;apply Pn.out));refine wk @ae.eq_1 ?_;(repeat(apply Pn.mk;intro N Z)))|((try apply Or.inl);refine⟨_,ay.x (h1) (sd @ae.eq_1),?_⟩;apply Z;clear Z N)|((try apply Or.inl);refine⟨_,ay.x (h2) (sd @ae.eq_1),?_⟩;apply Z;clear Z N)))
  exact cD (b:=jm p.fu (-60) 60) (.inl rfl) (sd @Nat.zero_add) (by rw[z8,q];rfl)
 ·rw[Bool.not_eq_true]at q
  rw[q]at h1
  (repeat(first|((repeat(revert N;apply Pn.out));refine wk @ae.eq_1 ?_;(repeat(apply Pn.mk;intro N Z)))|((try apply Or.inl);refine⟨_,ay.x (h1) (sd @ae.eq_1),?_⟩;apply Z;clear Z N)|((try apply Or.inl);refine⟨_,ay.x (h2) (sd @ae.eq_1),?_⟩;apply Z;clear Z N)))
  exact cD (b:=false) (.inl rfl) (sd @Nat.zero_add) (by rw[z8,q];rfl)
def lX (d:Int):Int:=if jm d 0 3 then(d+2) % 4 else -1
def cj (p:aq) (d:Int):aq:=
 if d=0 then⟨p.fC,p.fu+1⟩else if d=1 then⟨p.fC+1,p.fu⟩else if d=2 then⟨p.fC,p.fu-1⟩else if d=3 then⟨p.fC-1,p.fu⟩else p
def iB (n:Int):Prop:=-4611686018427387904<=n/\n<=4611686018427387904
theorem rD (p:aq) (d:Int) (hd:jm d 0 3=true) (hx:iB p.fC) (hy:iB p.fu):ay Tryz.prog 112 [.agg (ae p),.int .i64 d] (.agg (ae (cj p d))):=by
 refine ay.body fR rfl fun hl n0=>?_
 clear hl
 obtain⟨x1,x2⟩:=hx
 obtain⟨y1,y2⟩:=hy
 have w1:IntKind.i64.wrap (p.fC+1)=p.fC+1:=cm ah
 have w2:IntKind.i64.wrap (p.fC-1)=p.fC-1:=cm ah
 have w3:IntKind.i64.wrap (p.fu+1)=p.fu+1:=cm ah
 have w4:IntKind.i64.wrap (p.fu-1)=p.fu-1:=cm ah
 have hb:=eT hd
 have hc:d=0∨d=1∨d=2∨d=3:=ah
 rcases hc with rfl|rfl|rfl|rfl
 ·(try((repeat(revert N;apply Pn.out));refine wk (tw @ae.eq_1 @w3) ?_;(repeat(apply Pn.mk;intro N Z))))
  exact jX (.inl rfl) (vs:=[.agg (ae (cj p 0))]) (by simp only[go_sem, ↓reduceIte,Nat.reduceEqDiff,Nat.reduceAdd,Nat.reduceSub,Nat.reduceLeDiff,reduceCtorEq,gO,jq,ae,cj]) (by simp[fw,ae,iq,fm])
 ·(try((repeat(revert N;apply Pn.out));refine wk (tw @ae.eq_1 @w1) ?_;(repeat(apply Pn.mk;intro N Z))))
  exact jX (.inl rfl) (vs:=[.agg (ae (cj p 1))]) (by simp[gO,jq,ae,cj,ld,rowAt,bL,upd,part]) (by simp[fw,ae,iq,fm])
 ·(try((repeat(revert N;apply Pn.out));refine wk (tw @ae.eq_1 @w4) ?_;(repeat(apply Pn.mk;intro N Z))))
  exact jX (.inl rfl) (vs:=[.agg (ae (cj p 2))]) (by simp[gO,jq,ae,cj,ld,rowAt,bL,upd,part]) (by simp[fw,ae,iq,fm])
 ·(try((repeat(revert N;apply Pn.out));refine wk (tw @ae.eq_1 @w2) ?_;(repeat(apply Pn.mk;intro N Z))))
  exact jX (.inl rfl) (vs:=[.agg (ae (cj p 3))]) (by simp[gO,jq,ae,cj,ld,rowAt,bL,upd,part]) (by simp[fw,ae,iq,fm])
theorem CW (p p2:aq) (x y:Int) (hx:IntKind.i64.wrap (p.fC+p2.fC)=x) (hy:IntKind.i64.wrap (p.fu+p2.fu)=y):ay Tryz.prog 135 [.agg (ae p),.agg (ae p2)] (.agg [.int .i64 x,.int .i64 y]):=by
 refine ay.body fR rfl fun hl n0=>?_
 clear hl
 (try((repeat(revert N;apply Pn.out));refine wk (tw @ae.eq_1 (tw @hx @hy)) ?_;(repeat(apply Pn.mk;intro N Z))))
 exact jX (.inl rfl) (vs:=[.agg [.int .i64 x,.int .i64 y]]) (by simp only[go_sem, ↓reduceIte,Nat.reduceEqDiff,Nat.reduceAdd,Nat.reduceSub,Nat.reduceLeDiff,reduceCtorEq,gO,jq,ae]) (by simp[fw,iq,fm])
theorem HH (p:aq) (d:Int) (hd:jm d 0 3=true) (hx:iB p.fC) (hy:iB p.fu):ay Tryz.prog 106 [.agg (ae p),.int .i64 d] (.agg (ae (cj p d))):=by
 refine ay.body fR rfl fun hl n0=>?_
 clear hl
 obtain⟨x1,x2⟩:=hx
 obtain⟨y1,y2⟩:=hy
 have hb:=eT hd
 have hc:d=0∨d=1∨d=2∨d=3:=ah
 rcases hc with rfl|rfl|rfl|rfl
 ·have h:=CW p ⟨0,1⟩ (p.fC) (p.fu+1) (by rw[cm (by constructor<;>simp only<;>omega)]<;>(try simp only)<;>(try omega)) (by rw[cm (by constructor<;>simp only<;>omega)]<;>(try simp only)<;>(try omega))
  simp only[ae]at h
  (repeat(first|((repeat(revert N;apply Pn.out));refine wk @ae.eq_1 ?_;(repeat(apply Pn.mk;intro N Z)))|((try apply Or.inl);refine⟨_,ay.x (h) (sd @ae.eq_1),?_⟩;apply Z;clear Z N)))
  exact jX (.inl rfl) (vs:=[.agg (ae (cj p 0))]) (by simp[gO,jq,ae,cj,ld,rowAt,bL,upd,part]) (by simp[fw,ae,iq,fm])
 ·have h:=CW p ⟨1,0⟩ (p.fC+1) (p.fu) (by rw[cm (by constructor<;>simp only<;>omega)]<;>(try simp only)<;>(try omega)) (by rw[cm (by constructor<;>simp only<;>omega)]<;>(try simp only)<;>(try omega))
  simp only[ae]at h
  (repeat(first|((repeat(revert N;apply Pn.out));refine wk @ae.eq_1 ?_;(repeat(apply Pn.mk;intro N Z)))|((try apply Or.inl);refine⟨_,ay.x (h) (sd @ae.eq_1),?_⟩;apply Z;clear Z N)))
  exact jX (.inl rfl) (vs:=[.agg (ae (cj p 1))]) (by simp[gO,jq,ae,cj,ld,rowAt,bL,upd,part]) (by simp[fw,ae,iq,fm])
 ·have h:=CW p ⟨0,(-1)⟩ (p.fC) (p.fu-1) (by rw[cm (by constructor<;>simp only<;>omega)]<;>(try simp only)<;>(try omega)) (by rw[cm (by constructor<;>simp only<;>omega)]<;>(try simp only)<;>(try omega))
  simp only[ae]at h
  (repeat(first|((repeat(revert N;apply Pn.out));refine wk @ae.eq_1 ?_;(repeat(apply Pn.mk;intro N Z)))|((try apply Or.inl);refine⟨_,ay.x (h) (sd @ae.eq_1),?_⟩;apply Z;clear Z N)))
  exact jX (.inl rfl) (vs:=[.agg (ae (cj p 2))]) (by simp[gO,jq,ae,cj,ld,rowAt,bL,upd,part]) (by simp[fw,ae,iq,fm])
 ·have h:=CW p ⟨(-1),0⟩ (p.fC-1) (p.fu) (by rw[cm (by constructor<;>simp only<;>omega)]<;>(try simp only)<;>(try omega)) (by rw[cm (by constructor<;>simp only<;>omega)]<;>(try simp only)<;>(try omega))
  simp only[ae]at h
  (repeat(first|((repeat(revert N;apply Pn.out));refine wk @ae.eq_1 ?_;(repeat(apply Pn.mk;intro N Z)))|((try apply Or.inl);refine⟨_,ay.x (h) (sd @ae.eq_1),?_⟩;apply Z;clear Z N)))
  exact jX (.inl rfl) (vs:=[.agg (ae (cj p 3))]) (by simp[gO,jq,ae,cj,ld,rowAt,bL,upd,part]) (by simp[fw,ae,iq,fm])
theorem Ho (d:Int) (hd:jm d 0 3=true):ay Tryz.prog 141 [.int .i64 d] (.int .i64 (lX d)):=by
 refine ay.body fR rfl fun hl n0=>?_
 clear hl
 have hb:=eT hd
 have hw:IntKind.i64.wrap (d+2)=d+2:=cm ah
 have ht:Int.tmod (d+2) 4=(d+2) % 4:=Int.tmod_eq_emod_of_nonneg ah
 have h4:¬((4:Int)=0):=ah
 (try((repeat(revert N;apply Pn.out));refine wk (tw @hw (tw @ht @h4)) ?_;(repeat(apply Pn.mk;intro N Z))))
 exact eJ (b:=(d+2) % 4) (.inl rfl) (sd @Nat.zero_add) (by rw[lX,if_pos hd])
theorem yl (d:Int) (hd:jm d 0 3=true):ay Tryz.prog 114 [.int .i64 d] (.int .i64 (lX d)):=by
 refine ay.body fR rfl fun hl n0=>?_
 clear hl
 have hb:=eT hd
 have hw:IntKind.i64.wrap (d+2)=d+2:=cm ah
 have ht:Int.tmod (d+2) 4=(d+2) % 4:=Int.tmod_eq_emod_of_nonneg ah
 have h4:¬((4:Int)=0):=ah
 have h:=Mx d
 rw[hd]at h
 (repeat(first|((repeat(revert N;apply Pn.out));refine wk (tw @hw (tw @ht @h4)) ?_;(repeat(apply Pn.mk;intro N Z)))|((try apply Or.inl);refine⟨_,ay.x (h) (sd (tw @hw (tw @ht @h4))),?_⟩;apply Z;clear Z N)))
 exact eJ (b:=(d+2) % 4) (.inl rfl) (sd @Nat.zero_add) (by rw[lX,if_pos hd])
def eY (s:aH) (t:Int):Bool:=jm t 0 ((s.au.length:Int)-1)
theorem tn (s:aH) (t:Int):ay Tryz.prog 95 [.dF (aj s),.int .i64 t] (.bool (eY s t)):=by
 refine ay.body fR rfl fun hl n0=>?_
 have hn:s.au.length<=9223372036854775807:=by
  have h1:=(hl (.dF (aj s)) (by simp)).EW (a:=.sl (s.au.map dw)) (by simp[aj])
  simpa using h1.len
 clear hl
 have hw:IntKind.i64.wrap ((s.au.length:Int)-1)=(s.au.length:Int)-1:=cm ah
 have h:=lj t 0 ((s.au.length:Int)-1)
 (repeat(first|((repeat(revert N;apply Pn.out));refine wk (tw @aj.eq_1 @hw) ?_;(repeat(apply Pn.mk;intro N Z)))|((try apply Or.inl);refine⟨_,ay.x (h) (sd (tw @aj.eq_1 @hw)),?_⟩;apply Z;clear Z N)))
 exact cD (b:=eY s t) (.inl rfl) (by simp only[go_sem, ↓reduceIte,Nat.reduceEqDiff,Nat.reduceAdd,Nat.reduceSub,Nat.reduceLeDiff,reduceCtorEq,eY]) rfl
theorem Bk (t n:Int) (h0:0<=n) (h1:n<=9223372036854775807):ay Tryz.prog 78 [.int .i64 t,.int .i64 n] (.bool (jm t 0 (n-1))):=by
 refine ay.body fR rfl fun hl n0=>?_
 clear hl
 have hw:IntKind.i64.wrap (n-1)=n-1:=cm ah
 have h:=mJ t 0 (n-1)
 (repeat(first|((repeat(revert N;apply Pn.out));refine wk @hw ?_;(repeat(apply Pn.mk;intro N Z)))|((try apply Or.inl);refine⟨_,ay.x (h) (sd @hw),?_⟩;apply Z;clear Z N)))
 exact cD (b:=jm t 0 (n-1)) (.inl rfl) (sd @Nat.zero_add) rfl
theorem EX (s:aH) (t:Int):ay Tryz.prog 55 [.agg (aj s),.int .i64 t] (.bool (eY s t)):=by
 refine ay.body fR rfl fun hl n0=>?_
 have hn:s.au.length<=9223372036854775807:=by
  have h1:=(hl (.agg (aj s)) (by simp)).R0 (a:=.sl (s.au.map dw)) (by simp[aj])
  simpa using h1.len
 clear hl
 have h:=Bk t s.au.length ah ah
 (repeat(first|((repeat(revert N;apply Pn.out));refine wk @aj.eq_1 ?_;(repeat(apply Pn.mk;intro N Z)))|((try apply Or.inl);refine⟨_,ay.x (h) (sd @aj.eq_1),?_⟩;apply Z;clear Z N)))
 exact cD (b:=eY s t) (.inl rfl) (by simp only[go_sem, ↓reduceIte,Nat.reduceEqDiff,Nat.reduceAdd,Nat.reduceSub,Nat.reduceLeDiff,reduceCtorEq,eY]) rfl
def CT:jB:=⟨⟨#[]⟩,[]⟩
def ea (s:aH) (t:Int):jB:=s.au.getD t.toNat CT
def dZ (t:jB) (d:Int):Int:=t.ew.getD d.toNat 0
def tb (s:aH) (g:Int):kJ:=s.bd.getD g.toNat ⟨⟨#[]⟩,0⟩
def sD (s:aH) (g:Int):Int:=if g=0 then 0 else(tb s (g-1)).iV
def iL (s:aH) (a d b:Int):Int:=if dZ (ea s a) d=dZ (ea s b) (lX d)then sD s (dZ (ea s a) d)else 0
structure jT (s:aH):Prop where
 qV:∀t∈s.au,t.ew.length=4
 wZ:∀t∈s.au,∀g∈t.ew,0<=g/\g<=s.bd.length
theorem getD_map {α β:Type} (e:α->β) {l:List α} {k:Nat} {d:α} (h:k<l.length):(l.map e)[k]? =some (e (l.getD k d)):=by simp[List.getD_eq_getElem?_getD,h]
theorem sK (s:aH) (g:Int) (h0:0<=g) (h1:g<=s.bd.length):ay Tryz.prog 115 [.dF (aj s),.int .i64 g] (.int .i64 (sD s g)):=by
 refine ay.body fR rfl fun hl n0=>?_
 have hn:s.bd.length<=9223372036854775807:=by
  have h1:=(hl (.dF (aj s)) (by simp)).EW (a:=.sl (s.bd.map ek)) (by simp[aj])
  simpa using h1.len
 clear hl
 by_cases hg:g=0
 ·have e:decide (g=0)=true:=decide_eq_true hg
  (try((repeat(revert N;apply Pn.out));refine wk (tw @aj.eq_1 @e) ?_;(repeat(apply Pn.mk;intro N Z))))
  exact eJ (b:=0) (.inl rfl) (sd @Nat.zero_add) (by rw[sD,if_pos hg])
 ·have e:decide (g=0)=false:=decide_eq_false hg
  have hw:IntKind.i64.wrap (g-1)=g-1:=cm ah
  have lx:0<=g-1:=ah
  have iS:(s.bd.map ek)[(g-1).toNat]? =some (ek (tb s (g-1))):=getD_map ek ah
  (try((repeat(revert N;apply Pn.out));refine wk (tw @aj.eq_1 (tw @e (tw @hw (tw @lx (tw @iS @ek.eq_1))))) ?_;(repeat(apply Pn.mk;intro N Z))))
  exact eJ (b:=(tb s (g-1)).iV) (.inl rfl) (sd @Nat.zero_add) (by rw[sD,if_neg hg])
theorem lG {s:aH} {a:Int} (h:eY s a=true):0<=a/\(s.au.map dw)[a.toNat]? =some (dw (ea s a))/\ea s a∈s.au:=by
 have h':=eT h
 have eW:a.toNat<s.au.length:=ah
 refine⟨h'.1,getD_map dw eW,?_⟩
 unfold ea
 rw[List.getD_eq_getElem?_getD,List.getElem?_eq_getElem eW]
 exact List.getElem_mem eW
theorem mC {t:jB} {d:Int} (h:t.ew.length=4) (hd:jm d 0 3=true):(t.ew.map aJ)[d.toNat]? =some [.int .i64 (dZ t d)]:=by
 have:=eT hd
 exact getD_map aJ ah
theorem zM {t:jB} {d:Int} (h:t.ew.length=4) (hd:jm d 0 3=true):dZ t d∈t.ew:=by
 have:=eT hd
 have eW:d.toNat<t.ew.length:=ah
 unfold dZ
 rw[List.getD_eq_getElem?_getD,List.getElem?_eq_getElem eW]
 exact List.getElem_mem eW
theorem tD {d:Int} (hd:jm d 0 3=true):jm (lX d) 0 3=true:=by
 have:=eT hd
 refine jn ?_
 rw[lX,if_pos hd];omega
theorem Bo (s:aH) (hF:jT s) (a d b:Int) (ha:eY s a=true) (hb:eY s b=true) (hd:jm d 0 3=true):ay Tryz.prog 124 [.dF (aj s),.int .i64 a,.int .i64 d,.int .i64 b] (.int .i64 (iL s a d b)):=by
 refine ay.body fR rfl fun hl n0=>?_
 clear hl
 obtain⟨a0,a1,a2⟩:=lG ha
 obtain⟨b0,b1,b2⟩:=lG hb
 have s1:=mC (hF.qV _ a2) hd
 have s2:=mC (hF.qV _ b2) (tD hd)
 have gl:=hF.wZ _ a2 _ (zM (hF.qV _ a2) hd)
 have d0:=(eT hd).1
 have d1:=(eT (tD hd)).1
 have h:=yl d hd
 have hs:=sK s (dZ (ea s a) d) gl.1 gl.2
 rw[aj]at hs
 by_cases e:dZ (ea s a) d=dZ (ea s b) (lX d)
 ·have e':decide (dZ (ea s a) d=dZ (ea s b) (lX d))=true:=decide_eq_true e
  (have zF:=tw @aj.eq_1 (tw @dw.eq_1 (tw @a0 (tw @a1 (tw @b0 (tw @b1 (tw @s1 (tw @s2 (tw @d0 (tw @d1 @e')))))))));(repeat(first|((repeat(revert N;apply Pn.out));refine wk zF ?_;(repeat(apply Pn.mk;intro N Z)))|((try apply Or.inl);refine⟨_,ay.x (h) (sd zF),?_⟩;apply Z;clear Z N)|((try apply Or.inl);refine⟨_,ay.x (hs) (sd zF),?_⟩;apply Z;clear Z N)));try clear zF)
  exact eJ (b:=sD s (dZ (ea s a) d)) (.inl rfl) (sd @Nat.zero_add) (by rw[iL,if_pos e])
 ·have e':decide (dZ (ea s a) d=dZ (ea s b) (lX d))=false:=decide_eq_false e
  (have zF:=tw @aj.eq_1 (tw @dw.eq_1 (tw @a0 (tw @a1 (tw @b0 (tw @b1 (tw @s1 (tw @s2 (tw @d0 (tw @d1 @e')))))))));(repeat(first|((repeat(revert N;apply Pn.out));refine wk zF ?_;(repeat(apply Pn.mk;intro N Z)))|((try apply Or.inl);refine⟨_,ay.x (h) (sd zF),?_⟩;apply Z;clear Z N)));try clear zF)
  exact eJ (b:=0) (.inl rfl) (sd @Nat.zero_add) (by rw[iL,if_neg e])
theorem HK (s:aH) (hF:jT s) (a d:Int) (ha:eY s a=true) (hd:jm d 0 3=true):ay Tryz.prog 142 [.agg (aj s),.int .i64 a,.int .i64 d] (.int .i64 (sD s (dZ (ea s a) d))):=by
 refine ay.body fR rfl fun hl n0=>?_
 have hn:s.bd.length<=9223372036854775807:=by
  have h1:=(hl (.agg (aj s)) (by simp)).R0 (a:=.sl (s.bd.map ek)) (by simp[aj])
  simpa using h1.len
 clear hl
 obtain⟨a0,a1,a2⟩:=lG ha
 have s1:=mC (hF.qV _ a2) hd
 have gl:=hF.wZ _ a2 _ (zM (hF.qV _ a2) hd)
 have d0:=(eT hd).1
 by_cases hg:dZ (ea s a) d=0
 ·have e:¬(0<dZ (ea s a) d):=ah
  (try((repeat(revert N;apply Pn.out));refine wk (tw @aj.eq_1 (tw @dw.eq_1 (tw @a0 (tw @a1 (tw @s1 (tw @d0 @e)))))) ?_;(repeat(apply Pn.mk;intro N Z))))
  exact eJ (b:=0) (.inl rfl) (sd @Nat.zero_add) (by rw[sD,if_pos hg])
 ·have e:0<dZ (ea s a) d:=ah
  have hw:IntKind.i64.wrap (dZ (ea s a) d-1)=dZ (ea s a) d-1:=cm ah
  have lx:0<=dZ (ea s a) d-1:=ah
  have iS:(s.bd.map ek)[(dZ (ea s a) d-1).toNat]? =some (ek (tb s (dZ (ea s a) d-1))):=getD_map ek ah
  (try((repeat(revert N;apply Pn.out));refine wk (tw @aj.eq_1 (tw @dw.eq_1 (tw @a0 (tw @a1 (tw @s1 (tw @d0 (tw @e (tw @hw (tw @lx (tw @iS @ek.eq_1)))))))))) ?_;(repeat(apply Pn.mk;intro N Z))))
  exact eJ (b:=(tb s (dZ (ea s a) d-1)).iV) (.inl rfl) (sd @Nat.zero_add) (by rw[sD,if_neg hg])
theorem Lz (s:aH) (hF:jT s) (a d b:Int) (ha:eY s a=true) (hb:eY s b=true) (hd:jm d 0 3=true):ay Tryz.prog 116 [.agg (aj s),.int .i64 a,.int .i64 d,.int .i64 b] (.int .i64 (iL s a d b)):=by
 refine ay.body fR rfl fun hl n0=>?_
 clear hl
 obtain⟨a0,a1,a2⟩:=lG ha
 obtain⟨b0,b1,b2⟩:=lG hb
 have s1:=mC (hF.qV _ a2) hd
 have s2:=mC (hF.qV _ b2) (tD hd)
 have d0:=(eT hd).1
 have d1:=(eT (tD hd)).1
 have h:=Ho d hd
 have hs:=HK s hF a d ha hd
 rw[aj]at hs
 by_cases e:dZ (ea s a) d=dZ (ea s b) (lX d)
 ·have e':decide (dZ (ea s a) d=dZ (ea s b) (lX d))=true:=decide_eq_true e
  (have zF:=tw @aj.eq_1 (tw @dw.eq_1 (tw @a0 (tw @a1 (tw @b0 (tw @b1 (tw @s1 (tw @s2 (tw @d0 (tw @d1 @e')))))))));(repeat(first|((repeat(revert N;apply Pn.out));refine wk zF ?_;(repeat(apply Pn.mk;intro N Z)))|((try apply Or.inl);refine⟨_,ay.x (h) (sd zF),?_⟩;apply Z;clear Z N)|((try apply Or.inl);refine⟨_,ay.x (hs) (sd zF),?_⟩;apply Z;clear Z N)));try clear zF)
  exact eJ (b:=sD s (dZ (ea s a) d)) (.inl rfl) (sd @Nat.zero_add) (by rw[iL,if_pos e])
 ·have e':decide (dZ (ea s a) d=dZ (ea s b) (lX d))=false:=decide_eq_false e
  (have zF:=tw @aj.eq_1 (tw @dw.eq_1 (tw @a0 (tw @a1 (tw @b0 (tw @b1 (tw @s1 (tw @s2 (tw @d0 (tw @d1 @e')))))))));(repeat(first|((repeat(revert N;apply Pn.out));refine wk zF ?_;(repeat(apply Pn.mk;intro N Z)))|((try apply Or.inl);refine⟨_,ay.x (h) (sd zF),?_⟩;apply Z;clear Z N)));try clear zF)
  exact eJ (b:=0) (.inl rfl) (sd @Nat.zero_add) (by rw[iL,if_neg e])
variable {P:Program}
end Go.Proofs.YtiabgllilcfheaaGreat.V

namespace Go.Proofs.YtiabgllilcfheaaGreat.V
open Go.RowKit
attribute [local irreducible] eC wpOps gi Call
attribute [local go_sem] aM fP fa fX fW du upd cz K.av cP AV.cells AV.cell rowOf rowsOf part ld rowAt bL cu dK eb gK bP de eu fS fq dx ef db da dR dS bU bf cU bR cW cV dW eh ee cR bW dd ec bQ aL cY cH gJ bF cL bV aY dr bq dL AV.undef bJ bK dV dY dQ dU cK er ez cF ej ei cX cZ List.getD_cons_zero List.getD_cons_succ List.getD_nil List.all_cons List.all_nil Bool.and_true Bool.true_and Bool.and_self Bool.not_true Bool.not_false Option.map_some Option.map_none Option.bind_some Option.bind_none List.length_cons List.length_nil List.take_succ_cons List.take_zero List.take_nil List.drop_succ_cons List.drop_zero List.drop_nil List.head?_cons List.map_cons List.map_nil List.getElem?_cons_zero List.getElem?_cons_succ List.cons_append List.nil_append List.append_nil List.length_map List.set_cons_zero List.set_cons_succ Nat.reduceMul eq_self Int.toNat_natCast Int.natCast_nonneg and_self true_and and_true decide_true decide_false Bool.false_eq_true Nat.zero_add Nat.add_zero List.contains_cons List.contains_nil Bool.or_false Bool.false_or beq_self_eq_true Nat.reduceBEq ne_eq not_true_eq_false not_false_eq_true Id.mk.injEq false_and and_false Nat.reduceLT Int.reduceLE Int.reduceLT Int.reduceToNat Int.reduceNeg Int.reduceAdd Nat.le_refl List.length_append beq_true beq_false Bool.not_eq_eq_eq_not or_false false_or eL ar ax aW bp bZ cw aV bH aU bh cQ bI
def jh (s:aH):Prop:=(∀g∈s.bd,g.cI.size<=9223372036854775807)/\∀t∈s.au,t.cI.size<=9223372036854775807
def si (s:aH) (i:Nat):kJ:=s.bd.getD i ⟨⟨#[]⟩,0⟩
def qY (s:aH) (i:Nat):jB:=s.au.getD i CT
def Gf (s:aH) (i:Nat):Prop:=kI (si s i).cI=true/\jm (si s i).iV 1 4=true/\∀j,j<i->(si s j).cI≠(si s i).cI
def DN (s:aH) (i:Nat):Prop:=kI (qY s i).cI=true/\(qY s i).ew.length=4/\(∀j,j<i->(qY s j).cI≠(qY s i).cI)/\∀g∈(qY s i).ew,jm g 0 s.bd.length=true
structure iK (s:aH):Prop where
 wZ:s.bd.length<=200
 some:1<=s.au.length
 uY:s.au.length<=160
 Yu:∀i,i<s.bd.length->Gf s i
 tok:∀i,i<s.au.length->DN s i
noncomputable def tJ (s:aH):Bool:=@decide (iK s) (Classical.propDecidable _)
theorem n9 {s:aH}:tJ s=true↔iK s:=by simp[tJ]
theorem gS {s:aH} (h:¬iK s):false=tJ s:=by simp[tJ,h]
theorem FI {s:aH} (h:iK s):true=tJ s:=by simp[tJ,h]
theorem Db {s:aH} {i:Nat} (h:i<s.au.length):(s.au.map dw)[i]? =some (dw (qY s i)):=getD_map dw h
theorem Cp {s:aH} {i:Nat} (h:i<s.bd.length):(s.bd.map ek)[i]? =some (ek (si s i)):=getD_map ek h
theorem iK.form {s:aH} (h:iK s):jT s:=by
 have key:∀t∈s.au,∃i,i<s.au.length/\t=qY s i:=fun t ht=>by
  obtain⟨i,hi,rfl⟩:=List.getElem_of_mem ht
  exact⟨i,hi,by simp[qY,List.getD_eq_getElem?_getD,hi]⟩
 refine⟨fun t ht=>?_,fun t ht g hg=>?_⟩
 ·obtain⟨i,hi,rfl⟩:=key t ht
  exact(h.tok i hi).2.1
 ·obtain⟨i,hi,rfl⟩:=key t ht
  exact eT ((h.tok i hi).2.2.2 g hg)
def eK (l:List ByteArray):List (List AV):=l.map fun n=>[.str n,.bool true]
abbrev mS:MK:=⟨false,[.tS]⟩
theorem BR (n:ByteArray):∀(l:List ByteArray) (i:Nat),∃r,ir mS [.str n] (eK l) i=some r/\((r=none/\n∉l)∨∃j,r=some (i+j)/\n∈l/\(eK l)[j]? =some [.str n,.bool true])
 |[],i=>⟨none,rfl,.inl ⟨rfl,by simp⟩⟩
 |m::l,i=>by
  obtain⟨r,h1,h2⟩:=BR n l (i+1)
  by_cases h:n=m
  ·subst h
   exact⟨some i,by simp[eK,ir,fq,fS,MK.ks],.inr ⟨0,rfl,by simp,rfl⟩⟩
  ·refine⟨r,?_,?_⟩
   ·unfold eK at h1 ⊢
    simp only[List.map_cons,ir,MK.ks,List.length_cons,List.length_nil,Nat.zero_add,List.take_succ_cons,List.take_zero,fq,fS,h,decide_false,Bool.and_true]
    exact h1
   ·rcases h2 with⟨rfl,h2⟩|⟨j,rfl,h2,h3⟩
    ·exact .inl ⟨rfl,by simp[h,h2]⟩
    ·exact .inr ⟨j+1,by congr 1;omega,by simp[h2],by simpa[eK]using h3⟩
theorem zK (n:ByteArray) (l:List ByteArray):(n∉l/\ij mS (.str n) (eK l)=some none)∨∃j,n∈l/\ij mS (.str n) (eK l)=some (some j)/\(eK l)[j]? =some [.str n,.bool true]:=by
 obtain⟨r,h1,h2⟩:=BR n l 0
 have e:ij mS (.str n) (eK l)=some r:=by
  unfold ij
  rw[if_pos ⟨rfl,rfl,rfl⟩];exact h1
 rcases h2 with⟨rfl,h2⟩|⟨j,rfl,h2,h3⟩
 ·exact .inl ⟨h2,e⟩
 ·exact .inr ⟨j,h2,by rw[e,Nat.zero_add],h3⟩
theorem TU (s:aH) (g:Int):ay Tryz.prog 134 [.int .i64 g,.dF (aj s)] (.bool (!jm g 0 s.bd.length)):=by
 refine ay.body fR rfl fun hl n0=>?_
 clear hl
 have h:=mJ g 0 s.bd.length
 (repeat(first|((repeat(revert N;apply Pn.out));refine wk @aj.eq_1 ?_;(repeat(apply Pn.mk;intro N Z)))|((try apply Or.inl);refine⟨_,ay.x (h) (sd @aj.eq_1),?_⟩;apply Z;clear Z N)))
 exact cD (b:= !jm g 0 s.bd.length) (.inl rfl) (sd @Nat.zero_add) rfl
theorem O4:VY aJ (fun c=>.int .i64 c) 1 false:=⟨fun _=>rfl,fun _=>rfl,fun x g=>by rw[ar,aW,ax];rfl⟩
theorem Qo (s:aH) (l:List Int) (hl:l.length<=1048576):ay Tryz.prog 133 [.sl (l.map aJ),.fn 134 [.dF (aj s)]] (.bool (l.any fun g=> !jm g 0 s.bd.length)):=
 qv O4 (show FZ Tryz.prog 133=some (GR 133 151) by kernel_rfl)
  (show FZ Tryz.prog 151=some (y6 151 1 false) by kernel_rfl) l hl _ _ _ rfl (fun g=>by rw[ar,aU,ax];rfl) (fun x _=>TU s x) fun g=>by rw[ar,aU,ax];rfl
theorem zm {α:Type} (f:Nat->α) (n k:Nat) (x:α):x∉(List.range k).map f↔∀j,j<k->f j≠x:=by
 constructor
 ·intro h j hj he
  exact h (List.mem_map.2 ⟨j,List.mem_range.2 hj,he⟩)
 ·intro h hm
  obtain⟨j,hj,he⟩:=List.mem_map.1 hm
  exact h j (List.mem_range.1 hj) he
theorem Gk (s:aH) (hn:jh s) (hg:s.bd.length<=1048576) (ht:s.au.length<=1048576) (hs:∀t∈s.au,t.ew.length<=1048576):ay Tryz.prog 102 [.agg (aj s)] (.bool (tJ s)):=by
 refine ay.body fR rfl fun hl n0=>?_
 clear hl
 have Xa:∀i,i<s.bd.length->(si s i).cI.size<=9223372036854775807:=fun i hi=>hn.1 _ (by simp[si,List.getD_eq_getElem?_getD,hi])
 have Tm:∀i,i<s.au.length->(qY s i).cI.size<=9223372036854775807:=fun i hi=>hn.2 _ (by simp[qY,List.getD_eq_getElem?_getD,hi])
 have Ar:∀i,i<s.au.length->(qY s i).ew.length<=1048576:=fun i hi=>hs _ (by simp[qY,List.getD_eq_getElem?_getD,hi])
 have hw:=mJ (s.au.length:Int) 1 160
 by_cases h1:(200:Int)<(s.bd.length:Int)
 ·(try((repeat(revert N;apply Pn.out));refine wk (tw @aj.eq_1 @h1) ?_;(repeat(apply Pn.mk;intro N Z))))
  exact cD (b:=false) (.inl rfl) (sd @Nat.zero_add) (gS fun h=>by have:=h.wZ;omega)
 by_cases h2:jm (s.au.length:Int) 1 160=true
 ·have A8:=eT h2
  rw[h2]at hw
  (repeat(first|((repeat(revert N;apply Pn.out));refine wk (tw @aj.eq_1 @h1) ?_;(repeat(apply Pn.mk;intro N Z)))|((try apply Or.inl);refine⟨_,ay.x (hw) (sd (tw @aj.eq_1 @h1)),?_⟩;apply Z;clear Z N)))
  refine bz (fun n env st=>∃k:Nat,n=(s.bd.length)-k/\k<=(s.bd.length)/\env 24=.int .i64 (k:Int)/\st.get ⟨102000000,n0⟩=some ⟨true,2,[aj s]⟩/\st.get ⟨102003000,n0+1+1⟩=some ⟨true,mS.mY,eK ((List.range k).map fun i=>(si s i).cI)⟩/\(∀j:Nat,j<k->Gf s j)) (s.bd.length) ⟨0,ah,ah,by(try simp only[go_sem, ↓reduceIte,Nat.reduceEqDiff,Nat.reduceAdd,Nat.reduceSub,Nat.reduceLeDiff,reduceCtorEq,aj,List.range_zero,List.map_nil,eK]);try rfl,by(try simp only[go_sem, ↓reduceIte,Nat.reduceEqDiff,Nat.reduceAdd,Nat.reduceSub,Nat.reduceLeDiff,reduceCtorEq,aj,List.range_zero,List.map_nil,eK]);try rfl,by(try simp only[go_sem, ↓reduceIte,Nat.reduceEqDiff,Nat.reduceAdd,Nat.reduceSub,Nat.reduceLeDiff,reduceCtorEq,aj,List.range_zero,List.map_nil,eK]);try rfl,fun _ h=>absurd h (Nat.not_lt_zero _)⟩ ?_
  rintro n_a env_a st_a ⟨k,rfl,ale,a24,ag0,ag1,oz⟩ eE
  have a1:=eE 1 (by kernel_rfl);have a3:=eE 3 (by kernel_rfl);have a22:=eE 22 (by kernel_rfl);have a23:=eE 23 (by kernel_rfl)
  simp only[go_sem, ↓reduceIte,Nat.reduceEqDiff,Nat.reduceAdd,Nat.reduceSub,Nat.reduceLeDiff,reduceCtorEq,aj,List.range_zero,List.map_nil,eK]at a1 a3 a22 a23
  clear eE
  by_cases hk:(k:Int)<(s.bd.length:Int)
  ·have dD:∀{e:Env} {gg:Rows},(e 24=.int .i64 (IntKind.i64.wrap ((k:Int)+1)))->(gg ⟨102000000,n0⟩=some ⟨true,2,[aj s]⟩)->(gg ⟨102003000,n0+1+1⟩=some ⟨true,mS.mY,eK ((List.range (k+1)).map fun i=>(si s i).cI)⟩)->(Gf s k)->∃m0,m0<(s.bd.length)-k/\∃k:Nat,m0=(s.bd.length)-k/\k<=(s.bd.length)/\e 24=.int .i64 (k:Int)/\gg ⟨102000000,n0⟩=some ⟨true,2,[aj s]⟩/\gg ⟨102003000,n0+1+1⟩=some ⟨true,mS.mY,eK ((List.range k).map fun i=>(si s i).cI)⟩/\(∀j:Nat,j<k->Gf s j):=fun x1 x2 x3 x4=>⟨_,ah,k+1,rfl,ah,(by rw[x1,aK ah]),x2,x3,(all_succ oz x4)⟩
   have iO:k<s.bd.length:=ah
   have gL:=Cp iO
   have th:=IE (si s k).cI (Xa k iO)
   have OD:=mJ (si s k).iV 1 4
   have EK:=zK (si s k).cI ((List.range k).map fun i=>(si s i).cI)
   rw[zm _ k]at EK
   have mT:(¬Gf s k)->¬iK s:=fun h hp=>h (hp.Yu k iO)
   generalize rz:si s k=gl at *
   cases hb:kI gl.cI
   ·rw[hb]at th
    (have zF:=tw @a24 (tw @ag0 (tw @ag1 (tw @a1 (tw @a3 (tw @a22 (tw @a23 (tw @hk (tw @gL (tw @ek.eq_1 @aj.eq_1)))))))));(repeat(first|((repeat(revert N;apply Pn.out));refine wk zF ?_;(repeat(apply Pn.mk;intro N Z)))|((try apply Or.inl);refine⟨_,ay.x (th) (sd zF),?_⟩;apply Z;clear Z N)));try clear zF)
    exact cD (b:=false) (.inl rfl) (sd @Nat.zero_add) (gS (mT fun h=>by rw[Gf,rz,hb]at h;cases h.1))
   ·rw[hb]at th
    rcases EK with⟨yT,nK⟩|⟨j,fZ,nK,fy⟩
    ·cases eA:jm gl.iV 1 4
     ·rw[eA]at OD
      (have zF:=tw @a24 (tw @ag0 (tw @ag1 (tw @a1 (tw @a3 (tw @a22 (tw @a23 (tw @hk (tw @gL (tw @nK (tw @ek.eq_1 @aj.eq_1))))))))));(repeat(first|((repeat(revert N;apply Pn.out));refine wk zF ?_;(repeat(apply Pn.mk;intro N Z)))|((try apply Or.inl);refine⟨_,ay.x (th) (sd zF),?_⟩;apply Z;clear Z N)|((try apply Or.inl);refine⟨_,ay.x (OD) (sd zF),?_⟩;apply Z;clear Z N)));try clear zF)
      exact cD (b:=false) (.inl rfl) (sd @Nat.zero_add) (gS (mT fun h=>by rw[Gf,rz,eA]at h;cases h.2.1))
     ·rw[eA]at OD
      have qb:eK ((List.range k).map fun i=>(si s i).cI)++[[.str gl.cI,.bool true]]=eK (List.map (fun i=>(si s i).cI) (List.range k++[k])):=by simp[eK,rz]
      (have zF:=tw @a24 (tw @ag0 (tw @ag1 (tw @a1 (tw @a3 (tw @a22 (tw @a23 (tw @hk (tw @gL (tw @nK (tw @ek.eq_1 @aj.eq_1))))))))));(repeat(first|((repeat(revert N;apply Pn.out));refine wk zF ?_;(repeat(apply Pn.mk;intro N Z)))|((try apply Or.inl);refine⟨_,ay.x (th) (sd zF),?_⟩;apply Z;clear Z N)|((try apply Or.inl);refine⟨_,ay.x (OD) (sd zF),?_⟩;apply Z;clear Z N)));try clear zF)
      refine dD ?_ ?_ ?_ (⟨by rw[rz];exact hb,by rw[rz];exact eA,fun j hj=>by rw[rz];exact yT j hj⟩)
      all_goals simp only[go_sem, ↓reduceIte,Nat.reduceEqDiff,Nat.reduceAdd,Nat.reduceSub,Nat.reduceLeDiff,reduceCtorEq,a24,ag0,ag1,a1,a3,a22,a23,nK,qb]
    ·(have zF:=tw @a24 (tw @ag0 (tw @ag1 (tw @a1 (tw @a3 (tw @a22 (tw @a23 (tw @hk (tw @gL (tw @nK (tw @fy (tw @ek.eq_1 @aj.eq_1)))))))))));(repeat(first|((repeat(revert N;apply Pn.out));refine wk zF ?_;(repeat(apply Pn.mk;intro N Z)))|((try apply Or.inl);refine⟨_,ay.x (th) (sd zF),?_⟩;apply Z;clear Z N)));try clear zF)
     exact cD (b:=false) (.inl rfl) (sd @Nat.zero_add) (gS (mT fun h=>by
      rw[Gf,rz]at h
      obtain⟨i,hi,he⟩:=List.mem_map.1 fZ
      exact h.2.2 i (List.mem_range.1 hi) he))
  ·have mM:k=s.bd.length:=ah
   (try((repeat(revert N;apply Pn.out));refine wk (tw @a24 (tw @ag0 (tw @ag1 (tw @a1 (tw @a3 (tw @a22 (tw @a23 (tw @hk @aj.eq_1)))))))) ?_;(repeat(apply Pn.mk;intro N Z))))
   refine bz (fun n env st=>∃j:Nat,n=(s.au.length)-j/\j<=(s.au.length)/\env 52=.int .i64 (j:Int)/\st.get ⟨102000000,n0⟩=some ⟨true,2,[aj s]⟩/\st.get ⟨102011000,st_a.next+1⟩=some ⟨true,mS.mY,eK ((List.range j).map fun i=>(qY s i).cI)⟩/\(∀i:Nat,i<j->DN s i)/\(st_a.next<st.next)) (s.au.length) ⟨0,ah,ah,by(try simp only[go_sem, ↓reduceIte,Nat.reduceEqDiff,Nat.reduceAdd,Nat.reduceSub,Nat.reduceLeDiff,reduceCtorEq,a24,ag0,ag1,a1,a3,a22,a23,aj,List.range_zero,List.map_nil,eK]);try rfl,by(try simp only[go_sem, ↓reduceIte,Nat.reduceEqDiff,Nat.reduceAdd,Nat.reduceSub,Nat.reduceLeDiff,reduceCtorEq,a24,ag0,ag1,a1,a3,a22,a23,aj,List.range_zero,List.map_nil,eK]);try rfl,by(try simp only[go_sem, ↓reduceIte,Nat.reduceEqDiff,Nat.reduceAdd,Nat.reduceSub,Nat.reduceLeDiff,reduceCtorEq,a24,ag0,ag1,a1,a3,a22,a23,aj,List.range_zero,List.map_nil,eK]);try rfl,fun _ h=>absurd h (Nat.not_lt_zero _),aQ⟩ ?_
   rintro n_b env_b st_b ⟨j,rfl,ble,b52,bg0,bg1,bA0,bI0⟩ fo
   have b1:=fo 1 (by kernel_rfl);have b6:=fo 6 (by kernel_rfl);have Gn:=fo 50 (by kernel_rfl);have Gp:=fo 51 (by kernel_rfl)
   simp only[go_sem, ↓reduceIte,Nat.reduceEqDiff,Nat.reduceAdd,Nat.reduceSub,Nat.reduceLeDiff,reduceCtorEq,a24,ag0,ag1,a1,a3,a22,a23,aj,List.range_zero,List.map_nil,eK]at b1 b6 Gn Gp
   clear fo
   by_cases hj:(j:Int)<(s.au.length:Int)
   ·have fN:∀{e:Env} {gg:Rows} {nx:Nat},(e 52=.int .i64 (IntKind.i64.wrap ((j:Int)+1)))->(gg ⟨102000000,n0⟩=some ⟨true,2,[aj s]⟩)->(gg ⟨102011000,st_a.next+1⟩=some ⟨true,mS.mY,eK ((List.range (j+1)).map fun i=>(qY s i).cI)⟩)->(DN s j)->(st_a.next<nx)->∃m0,m0<(s.au.length)-j/\∃j:Nat,m0=(s.au.length)-j/\j<=(s.au.length)/\e 52=.int .i64 (j:Int)/\gg ⟨102000000,n0⟩=some ⟨true,2,[aj s]⟩/\gg ⟨102011000,st_a.next+1⟩=some ⟨true,mS.mY,eK ((List.range j).map fun i=>(qY s i).cI)⟩/\(∀i:Nat,i<j->DN s i)/\(st_a.next<nx):=fun x1 x2 x3 x4 x5=>⟨_,ah,j+1,rfl,ah,(by rw[x1,aK ah]),x2,x3,(all_succ bA0 x4),x5⟩
    have nk:j<s.au.length:=ah
    have oN:=Db nk
    have th:=IE (qY s j).cI (Tm j nk)
    have Y9:=Qo s (qY s j).ew (Ar j nk)
    have EK:=zK (qY s j).cI ((List.range j).map fun i=>(qY s i).cI)
    rw[zm _ j]at EK
    have mT:(¬DN s j)->¬iK s:=fun h hp=>h (hp.tok j nk)
    have ig:(⟨102011000,st_a.next+1⟩:Id)≠⟨102000000,n0⟩:=by simp
    generalize htd:qY s j=tl at *
    cases hb:kI tl.cI
    ·rw[hb]at th
     (have zF:=tw @b52 (tw @bg0 (tw @bg1 (tw @b1 (tw @b6 (tw @Gn (tw @Gp (tw @hj (tw @oN (tw @dw.eq_1 @aj.eq_1)))))))));(repeat(first|((repeat(revert N;apply Pn.out));refine wk zF ?_;(repeat(apply Pn.mk;intro N Z)))|((try apply Or.inl);refine⟨_,ay.x (th) (sd zF),?_⟩;apply Z;clear Z N)));try clear zF)
     exact cD (b:=false) (.inl rfl) (sd @Nat.zero_add) (gS (mT fun h=>by rw[DN,htd,hb]at h;cases h.1))
    ·rw[hb]at th
     rcases EK with⟨yT,nK⟩|⟨i,fZ,nK,fy⟩
     ·by_cases h4:(tl.ew.length:Int)=4
      ·have Cq:decide ((tl.ew.length:Int)=4)=true:=decide_eq_true h4
       cases hany:tl.ew.any fun g=> !jm g 0 s.bd.length
       ·rw[hany]at Y9
        have qb:eK ((List.range j).map fun i=>(qY s i).cI)++[[.str tl.cI,.bool true]]=eK (List.map (fun i=>(qY s i).cI) (List.range j++[j])):=by simp[eK,htd]
        (have zF:=tw @b52 (tw @bg0 (tw @bg1 (tw @b1 (tw @b6 (tw @Gn (tw @Gp (tw @hj (tw @oN (tw @nK (tw @Cq (tw @dw.eq_1 @aj.eq_1)))))))))));(repeat(first|((repeat(revert N;apply Pn.out));refine wk zF ?_;(repeat(apply Pn.mk;intro N Z)))|((try apply Or.inl);refine⟨_,ay.x (th) (sd zF),?_⟩;apply Z;clear Z N)|((try apply Or.inl);refine⟨_,ay.x (Y9) (sd zF),?_⟩;apply Z;clear Z N)));try clear zF)
        refine fN ?_ ?_ ?_ (⟨by rw[htd];exact hb,by rw[htd];omega,fun i hi=>(by rw[htd];exact yT i hi),fun g hg=>by rw[htd]at hg;have:=List.any_eq_false.1 hany g hg;simpa using this⟩) aQ
        all_goals simp only[go_sem, ↓reduceIte,Nat.reduceEqDiff,Nat.reduceAdd,Nat.reduceSub,Nat.reduceLeDiff,reduceCtorEq,b52,bg0,bg1,b1,b6,Gn,Gp,nK,qb]
       ·rw[hany]at Y9
        (have zF:=tw @b52 (tw @bg0 (tw @bg1 (tw @b1 (tw @b6 (tw @Gn (tw @Gp (tw @hj (tw @oN (tw @nK (tw @Cq (tw @dw.eq_1 @aj.eq_1)))))))))));(repeat(first|((repeat(revert N;apply Pn.out));refine wk zF ?_;(repeat(apply Pn.mk;intro N Z)))|((try apply Or.inl);refine⟨_,ay.x (th) (sd zF),?_⟩;apply Z;clear Z N)|((try apply Or.inl);refine⟨_,ay.x (Y9) (sd zF),?_⟩;apply Z;clear Z N)));try clear zF)
        exact cD (b:=false) (.inl rfl) (sd @Nat.zero_add) (gS (mT fun h=>by
         rw[DN,htd]at h
         obtain⟨g,hg,hq⟩:=List.any_eq_true.1 hany
         have:=h.2.2.2 g hg
         rw[this]at hq;cases hq))
      ·have Cq:decide ((tl.ew.length:Int)=4)=false:=decide_eq_false h4
       (have zF:=tw @b52 (tw @bg0 (tw @bg1 (tw @b1 (tw @b6 (tw @Gn (tw @Gp (tw @hj (tw @oN (tw @nK (tw @Cq (tw @dw.eq_1 @aj.eq_1)))))))))));(repeat(first|((repeat(revert N;apply Pn.out));refine wk zF ?_;(repeat(apply Pn.mk;intro N Z)))|((try apply Or.inl);refine⟨_,ay.x (th) (sd zF),?_⟩;apply Z;clear Z N)));try clear zF)
       exact cD (b:=false) (.inl rfl) (sd @Nat.zero_add) (gS (mT fun h=>by rw[DN,htd]at h;have:=h.2.1;omega))
     ·(have zF:=tw @b52 (tw @bg0 (tw @bg1 (tw @b1 (tw @b6 (tw @Gn (tw @Gp (tw @hj (tw @oN (tw @nK (tw @fy (tw @dw.eq_1 @aj.eq_1)))))))))));(repeat(first|((repeat(revert N;apply Pn.out));refine wk zF ?_;(repeat(apply Pn.mk;intro N Z)))|((try apply Or.inl);refine⟨_,ay.x (th) (sd zF),?_⟩;apply Z;clear Z N)));try clear zF)
      exact cD (b:=false) (.inl rfl) (sd @Nat.zero_add) (gS (mT fun h=>by
       rw[DN,htd]at h
       obtain⟨i,hi,he⟩:=List.mem_map.1 fZ
       exact h.2.2.1 i (List.mem_range.1 hi) he))
   ·(try((repeat(revert N;apply Pn.out));refine wk (tw @b52 (tw @bg0 (tw @bg1 (tw @b1 (tw @b6 (tw @Gn (tw @Gp (tw @hj @aj.eq_1)))))))) ?_;(repeat(apply Pn.mk;intro N Z))))
    exact cD (b:=true) (.inl rfl) (sd @Nat.zero_add) (FI ⟨ah,ah,ah,fun i hi=>oz i ah,fun i hi=>bA0 i ah⟩)
 ·rw[Bool.not_eq_true]at h2
  rw[h2]at hw
  (repeat(first|((repeat(revert N;apply Pn.out));refine wk (tw @aj.eq_1 @h1) ?_;(repeat(apply Pn.mk;intro N Z)))|((try apply Or.inl);refine⟨_,ay.x (hw) (sd (tw @aj.eq_1 @h1)),?_⟩;apply Z;clear Z N)))
  exact cD (b:=false) (.inl rfl) (sd @Nat.zero_add) (gS fun h=>by
   have h3:=h.some
   have h4:=h.uY
   rw[jn ⟨ah,ah⟩]at h2;cases h2)
theorem xT {α:Type} {p:α->Bool} {xs:List α} {k:Nat} (hk:k<xs.length) (h1:p xs[k]=true) (h2:∀j (h:j<xs.length),j<k->p xs[j]=false):lL p xs=k:=by
 have:xs.findIdx p=k:=by rw[List.findIdx_eq hk];exact⟨h1,fun j hj=>h2 j ah hj⟩
 rw[lL,this,if_pos hk]
theorem AU {α:Type} {p:α->Bool} {xs:List α} (h:∀j (h:j<xs.length),p xs[j]=false):lL p xs= -1:=by
 rw[lL,if_neg]
 rw[List.findIdx_lt_length]
 rintro⟨x,hx,Te⟩
 obtain⟨j,hj,rfl⟩:=List.getElem_of_mem hx
 rw[h j hj]at Te;cases Te
theorem Co {s:aH} {i:Nat} (h:i<s.bd.length):si s i=s.bd[i]:=by simp[si,List.getD_eq_getElem?_getD,h]
theorem Da {s:aH} {i:Nat} (h:i<s.au.length):qY s i=s.au[i]:=by simp[qY,List.getD_eq_getElem?_getD,h]
def Oh (s:aH) (n:ByteArray):Int:=lL (fun g:kJ=>decide (g.cI=n)) s.bd
def RH (s:aH) (n:ByteArray):Int:=lL (fun t:jB=>decide (t.cI=n)) s.au
theorem J5 (s:aH) (nm:ByteArray):ay Tryz.prog 93 [.dF (aj s),.str nm] (.int .i64 (Oh s nm+1)):=by
 refine ay.body fR rfl fun hl n0=>?_
 have hlen:s.bd.length<=9223372036854775807:=by
  have h1:=(hl (.dF (aj s)) (by simp)).EW (a:=.sl (s.bd.map ek)) (by simp[aj])
  simpa using h1.len
 clear hl
 (try((repeat(revert N;apply Pn.out));refine wk @aj.eq_1 ?_;(repeat(apply Pn.mk;intro N Z))))
 refine bz (fun n env st=>∃k:Nat,n=(s.bd.length)-k/\k<=(s.bd.length)/\env 5=.int .i64 (k:Int)/\(∀j:Nat,j<k->∀h:j<s.bd.length,decide (s.bd[j].cI=nm)=false)) (s.bd.length) ⟨0,ah,ah,sl @aj.eq_1,fun _ h=>absurd h (Nat.not_lt_zero _)⟩ ?_
 rintro n_a env_a st_a ⟨k,rfl,ale,a5,oz⟩ eE
 have a0:=eE 0 (by kernel_rfl);have a1:=eE 1 (by kernel_rfl)
 simp only[go_sem, ↓reduceIte,Nat.reduceEqDiff,Nat.reduceAdd,Nat.reduceSub,Nat.reduceLeDiff,reduceCtorEq,aj]at a0 a1
 clear eE
 by_cases hk:(k:Int)<(s.bd.length:Int)
 ·have dD:∀{e:Env},(e 5=.int .i64 (IntKind.i64.wrap ((k:Int)+1)))->(∀h:k<s.bd.length,decide (s.bd[k].cI=nm)=false)->∃m0,m0<(s.bd.length)-k/\∃k:Nat,m0=(s.bd.length)-k/\k<=(s.bd.length)/\e 5=.int .i64 (k:Int)/\(∀j:Nat,j<k->∀h:j<s.bd.length,decide (s.bd[j].cI=nm)=false):=fun x1 x2=>⟨_,ah,k+1,rfl,ah,(by rw[x1,aK ah]),(all_succ oz x2)⟩
  have iO:k<s.bd.length:=ah
  have gL:=Cp iO
  have e:=Co iO
  cases hd:decide ((si s k).cI=nm)
  ·have YP:=of_decide_eq_false hd
   (try((repeat(revert N;apply Pn.out));refine wk (tw @a5 (tw @a0 (tw @a1 (tw @hk (tw @gL (tw @YP (tw @hd (tw @ek.eq_1 @aj.eq_1)))))))) ?_;(repeat(apply Pn.mk;intro N Z))))
   exact dD (sd (tw @a5 (tw @a0 @a1))) (fun _=>by rw[e]at hd;exact hd)
  ·have YP:=of_decide_eq_true hd
   have hw:IntKind.i64.wrap ((k:Int)+1)=(k:Int)+1:=cm ah
   (try((repeat(revert N;apply Pn.out));refine wk (tw @a5 (tw @a0 (tw @a1 (tw @hk (tw @gL (tw @hd (tw @hw (tw @ek.eq_1 @aj.eq_1)))))))) ?_;(repeat(apply Pn.mk;intro N Z))))
   exact eJ (b:=(k:Int)+1) (.inl rfl) (sd @Nat.zero_add) (by rw[Oh,xT iO (by rw[e]at hd;exact hd) fun j h hj=>oz j hj h])
 ·(try((repeat(revert N;apply Pn.out));refine wk (tw @a5 (tw @a0 (tw @a1 (tw @hk @aj.eq_1)))) ?_;(repeat(apply Pn.mk;intro N Z))))
  exact eJ (b:=0) (.inl rfl) (sd @Nat.zero_add) (by rw[Oh,AU fun j h=>oz j ah h];rfl)
theorem J6 (s:aH) (nm:ByteArray):ay Tryz.prog 94 [.dF (aj s),.str nm] (.int .i64 (RH s nm)):=by
 refine ay.body fR rfl fun hl n0=>?_
 have hlen:s.au.length<=9223372036854775807:=by
  have h1:=(hl (.dF (aj s)) (by simp)).EW (a:=.sl (s.au.map dw)) (by simp[aj])
  simpa using h1.len
 clear hl
 (try((repeat(revert N;apply Pn.out));refine wk @aj.eq_1 ?_;(repeat(apply Pn.mk;intro N Z))))
 refine bz (fun n env st=>∃k:Nat,n=(s.au.length)-k/\k<=(s.au.length)/\env 5=.int .i64 (k:Int)/\(∀j:Nat,j<k->∀h:j<s.au.length,decide (s.au[j].cI=nm)=false)) (s.au.length) ⟨0,ah,ah,sl @aj.eq_1,fun _ h=>absurd h (Nat.not_lt_zero _)⟩ ?_
 rintro n_a env_a st_a ⟨k,rfl,ale,a5,oz⟩ eE
 have a0:=eE 0 (by kernel_rfl);have a1:=eE 1 (by kernel_rfl)
 simp only[go_sem, ↓reduceIte,Nat.reduceEqDiff,Nat.reduceAdd,Nat.reduceSub,Nat.reduceLeDiff,reduceCtorEq,aj]at a0 a1
 clear eE
 by_cases hk:(k:Int)<(s.au.length:Int)
 ·have dD:∀{e:Env},(e 5=.int .i64 (IntKind.i64.wrap ((k:Int)+1)))->(∀h:k<s.au.length,decide (s.au[k].cI=nm)=false)->∃m0,m0<(s.au.length)-k/\∃k:Nat,m0=(s.au.length)-k/\k<=(s.au.length)/\e 5=.int .i64 (k:Int)/\(∀j:Nat,j<k->∀h:j<s.au.length,decide (s.au[j].cI=nm)=false):=fun x1 x2=>⟨_,ah,k+1,rfl,ah,(by rw[x1,aK ah]),(all_succ oz x2)⟩
  have iO:k<s.au.length:=ah
  have gL:=Db iO
  have e:=Da iO
  cases hd:decide ((qY s k).cI=nm)
  ·(try((repeat(revert N;apply Pn.out));refine wk (tw @a5 (tw @a0 (tw @a1 (tw @hk (tw @gL (tw @hd (tw @dw.eq_1 @aj.eq_1))))))) ?_;(repeat(apply Pn.mk;intro N Z))))
   exact dD (sd (tw @a5 (tw @a0 @a1))) (fun _=>by rw[e]at hd;exact hd)
  ·(try((repeat(revert N;apply Pn.out));refine wk (tw @a5 (tw @a0 (tw @a1 (tw @hk (tw @gL (tw @hd (tw @dw.eq_1 @aj.eq_1))))))) ?_;(repeat(apply Pn.mk;intro N Z))))
   exact eJ (b:=(k:Int)) (.inl rfl) (sd @Nat.zero_add) (by rw[RH,xT iO (by rw[e]at hd;exact hd) fun j h hj=>oz j hj h])
 ·(try((repeat(revert N;apply Pn.out));refine wk (tw @a5 (tw @a0 (tw @a1 (tw @hk @aj.eq_1)))) ?_;(repeat(apply Pn.mk;intro N Z))))
  exact eJ (b:=-1) (.inl rfl) (sd @Nat.zero_add) (by rw[RH,AU fun j h=>oz j ah h])
theorem Su {s:aH} {i:Nat} (h:i<s.bd.length):Oh s (si s i).cI=i↔∀j,j<i->(si s j).cI≠(si s i).cI:=by
 constructor
 ·intro he j hj hc
  have iH:j<s.bd.length:=ah
  have:s.bd.findIdx (fun g:kJ=>decide (g.cI=(si s i).cI))<=j:=by
   rcases Nat.lt_or_ge j (s.bd.findIdx fun g:kJ=>decide (g.cI=(si s i).cI))with eW|lx
   ·have:=List.not_of_lt_findIdx eW
    rw[<-Co iH]at this
    simp[hc]at this
   ·exact lx
  unfold Oh lL at he
  split at he<;>omega
 ·intro hd
  exact xT h (by rw[<-Co h];simp) fun j iH hj=>by rw[<-Co iH];simpa using hd j hj
theorem TW {s:aH} {i:Nat} (h:i<s.au.length):RH s (qY s i).cI=i↔∀j,j<i->(qY s j).cI≠(qY s i).cI:=by
 constructor
 ·intro he j hj hc
  have iH:j<s.au.length:=ah
  have:s.au.findIdx (fun g:jB=>decide (g.cI=(qY s i).cI))<=j:=by
   rcases Nat.lt_or_ge j (s.au.findIdx fun g:jB=>decide (g.cI=(qY s i).cI))with eW|lx
   ·have:=List.not_of_lt_findIdx eW
    rw[<-Da iH]at this
    simp[hc]at this
   ·exact lx
  unfold RH lL at he
  split at he<;>omega
 ·intro hd
  exact xT h (by rw[<-Da h];simp) fun j iH hj=>by rw[<-Da iH];simpa using hd j hj
theorem PV (s:aH) (hn:jh s) (hg:s.bd.length<=1048576) (ht:s.au.length<=1048576):ay Tryz.prog 59 [.dF (aj s)] (.bool (tJ s)):=by
 refine ay.body fR rfl fun hl n0=>?_
 clear hl
 have Xa:∀i,i<s.bd.length->(si s i).cI.size<=9223372036854775807:=fun i hi=>hn.1 _ (by simp[si,List.getD_eq_getElem?_getD,hi])
 have Tm:∀i,i<s.au.length->(qY s i).cI.size<=9223372036854775807:=fun i hi=>hn.2 _ (by simp[qY,List.getD_eq_getElem?_getD,hi])
 by_cases h1:(200:Int)<(s.bd.length:Int)
 ·(try((repeat(revert N;apply Pn.out));refine wk (tw @aj.eq_1 @h1) ?_;(repeat(apply Pn.mk;intro N Z))))
  exact cD (b:=false) (.inl rfl) (sd @Nat.zero_add) (gS fun h=>by have:=h.wZ;omega)
 by_cases h2:(s.au.length:Int)<1
 ·(try((repeat(revert N;apply Pn.out));refine wk (tw @aj.eq_1 (tw @h1 @h2)) ?_;(repeat(apply Pn.mk;intro N Z))))
  exact cD (b:=false) (.inl rfl) (sd @Nat.zero_add) (gS fun h=>by have:=h.some;omega)
 by_cases h3:(160:Int)<(s.au.length:Int)
 ·(try((repeat(revert N;apply Pn.out));refine wk (tw @aj.eq_1 (tw @h1 (tw @h2 @h3))) ?_;(repeat(apply Pn.mk;intro N Z))))
  exact cD (b:=false) (.inl rfl) (sd @Nat.zero_add) (gS fun h=>by have:=h.uY;omega)
 (try((repeat(revert N;apply Pn.out));refine wk (tw @aj.eq_1 (tw @h1 (tw @h2 @h3))) ?_;(repeat(apply Pn.mk;intro N Z))))
 refine bz (fun n env st=>∃k:Nat,n=(s.bd.length)-k/\k<=(s.bd.length)/\env 3=.int .i64 (k:Int)/\(∀j:Nat,j<k->Gf s j)) (s.bd.length) ⟨0,ah,ah,sl @aj.eq_1,fun _ h=>absurd h (Nat.not_lt_zero _)⟩ ?_
 rintro n_a env_a st_a ⟨k,rfl,ale,a3,oz⟩ eE
 have a0:=eE 0 (by kernel_rfl)
 simp only[go_sem, ↓reduceIte,Nat.reduceEqDiff,Nat.reduceAdd,Nat.reduceSub,Nat.reduceLeDiff,reduceCtorEq,aj]at a0
 clear eE
 by_cases hk:(k:Int)<(s.bd.length:Int)
 ·have dD:∀{e:Env},(e 3=.int .i64 (IntKind.i64.wrap ((k:Int)+1)))->(Gf s k)->∃m0,m0<(s.bd.length)-k/\∃k:Nat,m0=(s.bd.length)-k/\k<=(s.bd.length)/\e 3=.int .i64 (k:Int)/\(∀j:Nat,j<k->Gf s j):=fun x1 x2=>⟨_,ah,k+1,rfl,ah,(by rw[x1,aK ah]),(all_succ oz x2)⟩
  have iO:k<s.bd.length:=ah
  have gL:=Cp iO
  have th:=IV (si s k).cI (Xa k iO)
  have OD:=lj (si s k).iV 1 4
  have F2:=J5 s (si s k).cI
  have uv:=Su iO
  have mT:(¬Gf s k)->¬iK s:=fun h hp=>h (hp.Yu k iO)
  have hw:IntKind.i64.wrap ((k:Int)+1)=(k:Int)+1:=cm ah
  generalize rz:si s k=gl at *
  cases hb:kI gl.cI
  ·rw[hb]at th
   (have zF:=tw @a3 (tw @a0 (tw @hk (tw @gL (tw @ek.eq_1 @aj.eq_1))));(repeat(first|((repeat(revert N;apply Pn.out));refine wk zF ?_;(repeat(apply Pn.mk;intro N Z)))|((try apply Or.inl);refine⟨_,ay.x (th) (sd zF),?_⟩;apply Z;clear Z N)));try clear zF)
   exact cD (b:=false) (.inl rfl) (sd @Nat.zero_add) (gS (mT fun h=>by rw[Gf,rz,hb]at h;cases h.1))
  rw[hb]at th
  cases eA:jm gl.iV 1 4
  ·rw[eA]at OD
   (have zF:=tw @a3 (tw @a0 (tw @hk (tw @gL (tw @ek.eq_1 @aj.eq_1))));(repeat(first|((repeat(revert N;apply Pn.out));refine wk zF ?_;(repeat(apply Pn.mk;intro N Z)))|((try apply Or.inl);refine⟨_,ay.x (th) (sd zF),?_⟩;apply Z;clear Z N)|((try apply Or.inl);refine⟨_,ay.x (OD) (sd zF),?_⟩;apply Z;clear Z N)));try clear zF)
   exact cD (b:=false) (.inl rfl) (sd @Nat.zero_add) (gS (mT fun h=>by rw[Gf,rz,eA]at h;cases h.2.1))
  rw[eA]at OD
  rw[aj]at F2
  by_cases hq:Oh s gl.cI=(k:Int)
  ·have hd:decide (Oh s gl.cI+1=(k:Int)+1)=true:=decide_eq_true ah
   have nA:decide (Oh s gl.cI=(k:Int))=true:=decide_eq_true hq
   (have zF:=tw @a3 (tw @a0 (tw @hk (tw @gL (tw @hw (tw @hd (tw @nA (tw @ek.eq_1 @aj.eq_1)))))));(repeat(first|((repeat(revert N;apply Pn.out));refine wk zF ?_;(repeat(apply Pn.mk;intro N Z)))|((try apply Or.inl);refine⟨_,ay.x (th) (sd zF),?_⟩;apply Z;clear Z N)|((try apply Or.inl);refine⟨_,ay.x (OD) (sd zF),?_⟩;apply Z;clear Z N)|((try apply Or.inl);refine⟨_,ay.x (F2) (sd zF),?_⟩;apply Z;clear Z N)));try clear zF)
   exact dD (sd (tw @a3 (tw @a0 @hw))) (⟨by rw[rz];exact hb,by rw[rz];exact eA,fun j hj=>by rw[rz];exact uv.1 hq j hj⟩)
  ·have hd:decide (Oh s gl.cI+1=(k:Int)+1)=false:=decide_eq_false ah
   have nA:decide (Oh s gl.cI=(k:Int))=false:=decide_eq_false hq
   (have zF:=tw @a3 (tw @a0 (tw @hk (tw @gL (tw @hw (tw @hd (tw @nA (tw @ek.eq_1 @aj.eq_1)))))));(repeat(first|((repeat(revert N;apply Pn.out));refine wk zF ?_;(repeat(apply Pn.mk;intro N Z)))|((try apply Or.inl);refine⟨_,ay.x (th) (sd zF),?_⟩;apply Z;clear Z N)|((try apply Or.inl);refine⟨_,ay.x (OD) (sd zF),?_⟩;apply Z;clear Z N)|((try apply Or.inl);refine⟨_,ay.x (F2) (sd zF),?_⟩;apply Z;clear Z N)));try clear zF)
   exact cD (b:=false) (.inl rfl) (sd @Nat.zero_add) (gS (mT fun h=>by
    rw[Gf,rz]at h
    exact hq (uv.2 h.2.2)))
 ·have mM:k=s.bd.length:=ah
  (try((repeat(revert N;apply Pn.out));refine wk (tw @a3 (tw @a0 (tw @hk @aj.eq_1))) ?_;(repeat(apply Pn.mk;intro N Z))))
  refine bz (fun n env st=>∃j:Nat,n=(s.au.length)-j/\j<=(s.au.length)/\env 5=.int .i64 (j:Int)/\(∀i:Nat,i<j->DN s i)) (s.au.length) ⟨0,ah,ah,sl (tw @a3 (tw @a0 @aj.eq_1)),fun _ h=>absurd h (Nat.not_lt_zero _)⟩ ?_
  rintro n_b env_b st_b ⟨j,rfl,ble,b5,bA0⟩ fo
  have b0:=fo 0 (by kernel_rfl)
  simp only[go_sem, ↓reduceIte,Nat.reduceEqDiff,Nat.reduceAdd,Nat.reduceSub,Nat.reduceLeDiff,reduceCtorEq,a3,a0,aj]at b0
  clear fo
  by_cases hj:(j:Int)<(s.au.length:Int)
  ·have fN:∀{e:Env},(e 5=.int .i64 (IntKind.i64.wrap ((j:Int)+1)))->(DN s j)->∃m0,m0<(s.au.length)-j/\∃j:Nat,m0=(s.au.length)-j/\j<=(s.au.length)/\e 5=.int .i64 (j:Int)/\(∀i:Nat,i<j->DN s i):=fun x1 x2=>⟨_,ah,j+1,rfl,ah,(by rw[x1,aK ah]),(all_succ bA0 x2)⟩
   have nk:j<s.au.length:=ah
   have oN:=Db nk
   have th:=IV (qY s j).cI (Tm j nk)
   have F2:=J6 s (qY s j).cI
   have uv:=TW nk
   have mT:(¬DN s j)->¬iK s:=fun h hp=>h (hp.tok j nk)
   generalize htd:qY s j=tl at *
   cases hb:kI tl.cI
   ·rw[hb]at th
    (have zF:=tw @b5 (tw @b0 (tw @hj (tw @oN (tw @dw.eq_1 @aj.eq_1))));(repeat(first|((repeat(revert N;apply Pn.out));refine wk zF ?_;(repeat(apply Pn.mk;intro N Z)))|((try apply Or.inl);refine⟨_,ay.x (th) (sd zF),?_⟩;apply Z;clear Z N)));try clear zF)
    exact cD (b:=false) (.inl rfl) (sd @Nat.zero_add) (gS (mT fun h=>by rw[DN,htd,hb]at h;cases h.1))
   rw[hb]at th
   by_cases h4:(tl.ew.length:Int)=4
   ·have Cq:decide ((tl.ew.length:Int)=4)=true:=decide_eq_true h4
    rw[aj]at F2
    by_cases hq:RH s tl.cI=(j:Int)
    ·have hd:decide (RH s tl.cI=(j:Int))=true:=decide_eq_true hq
     (have zF:=tw @b5 (tw @b0 (tw @hj (tw @oN (tw @Cq (tw @hd (tw @dw.eq_1 @aj.eq_1))))));(repeat(first|((repeat(revert N;apply Pn.out));refine wk zF ?_;(repeat(apply Pn.mk;intro N Z)))|((try apply Or.inl);refine⟨_,ay.x (th) (sd zF),?_⟩;apply Z;clear Z N)|((try apply Or.inl);refine⟨_,ay.x (F2) (sd zF),?_⟩;apply Z;clear Z N)));try clear zF)
     refine bz (fun n env st=>∃i:Nat,n=(4)-i/\i<=(4)/\env 7=.int .i64 (i:Int)/\st.get ⟨59012007,st_b.next+1⟩=some ⟨true,2,[dw tl]⟩/\(∀x:Nat,x<i->jm (tl.ew.getD x 0) 0 s.bd.length=true)) (4) ⟨0,ah,ah,sl (tw @b5 (tw @b0 (tw @dw.eq_1 @aj.eq_1))),sl (tw @b5 (tw @b0 (tw @dw.eq_1 @aj.eq_1))),fun _ h=>absurd h (Nat.not_lt_zero _)⟩ ?_
     rintro n_c env_c st_c ⟨i,rfl,cle,c7,cg0,cA0⟩ il
     have c0:=il 0 (by kernel_rfl);have c5:=il 5 (by kernel_rfl);have c6:=il 6 (by kernel_rfl)
     simp only[go_sem, ↓reduceIte,Nat.reduceEqDiff,Nat.reduceAdd,Nat.reduceSub,Nat.reduceLeDiff,reduceCtorEq,b5,b0,dw,aj]at c0 c5 c6
     clear il
     by_cases hi:(i:Int)<4
     ·have fJ:∀{e:Env} {gg:Rows},(e 7=.int .i64 (IntKind.i64.wrap ((i:Int)+1)))->(gg ⟨59012007,st_b.next+1⟩=some ⟨true,2,[dw tl]⟩)->(jm (tl.ew.getD i 0) 0 s.bd.length=true)->∃m0,m0<(4)-i/\∃i:Nat,m0=(4)-i/\i<=(4)/\e 7=.int .i64 (i:Int)/\gg ⟨59012007,st_b.next+1⟩=some ⟨true,2,[dw tl]⟩/\(∀x:Nat,x<i->jm (tl.ew.getD x 0) 0 s.bd.length=true):=fun x1 x2 x3=>⟨_,ah,i+1,rfl,ah,(by rw[x1,aK ah]),x2,(all_succ cA0 x3)⟩
      have fZ:i<tl.ew.length:=ah
      have iZ:(tl.ew.map aJ)[i]? =some (aJ (tl.ew.getD i 0)):=getD_map aJ fZ
      have oM:tl.ew.getD i 0∈tl.ew:=by rw[List.getD_eq_getElem?_getD,List.getElem?_eq_getElem fZ];exact List.getElem_mem fZ
      have Md:=lj (tl.ew.getD i 0) 0 s.bd.length
      generalize SU:tl.ew.getD i 0=gv at *
      cases hv:jm gv 0 s.bd.length
      ·rw[hv]at Md
       (have zF:=tw @c7 (tw @cg0 (tw @c0 (tw @c5 (tw @c6 (tw @hi (tw @iZ (tw @aJ.eq_1 (tw @dw.eq_1 @aj.eq_1))))))));(repeat(first|((repeat(revert N;apply Pn.out));refine wk zF ?_;(repeat(apply Pn.mk;intro N Z)))|((try apply Or.inl);refine⟨_,ay.x (Md) (sd zF),?_⟩;apply Z;clear Z N)));try clear zF)
       exact cD (b:=false) (.inl rfl) (sd @Nat.zero_add) (gS (mT fun h=>by
        rw[DN,htd]at h
        have:=h.2.2.2 gv oM
        rw[hv]at this;cases this))
      ·rw[hv]at Md
       (have zF:=tw @c7 (tw @cg0 (tw @c0 (tw @c5 (tw @c6 (tw @hi (tw @iZ (tw @aJ.eq_1 (tw @dw.eq_1 @aj.eq_1))))))));(repeat(first|((repeat(revert N;apply Pn.out));refine wk zF ?_;(repeat(apply Pn.mk;intro N Z)))|((try apply Or.inl);refine⟨_,ay.x (Md) (sd zF),?_⟩;apply Z;clear Z N)));try clear zF)
       refine fJ ?_ ?_ (hv)
       all_goals simp only[go_sem, ↓reduceIte,Nat.reduceEqDiff,Nat.reduceAdd,Nat.reduceSub,Nat.reduceLeDiff,reduceCtorEq,c7,cg0,c0,c5,c6]
     ·have YW:i=4:=ah
      (try((repeat(revert N;apply Pn.out));refine wk (tw @c7 (tw @cg0 (tw @c0 (tw @c5 (tw @c6 (tw @hi (tw @dw.eq_1 @aj.eq_1))))))) ?_;(repeat(apply Pn.mk;intro N Z))))
      exact fN (sd (tw @b5 (tw @b0 (tw @c7 (tw @cg0 (tw @c0 (tw @c5 @c6))))))) (⟨by rw[htd];exact hb,by rw[htd];omega,fun x hx=>(by rw[htd];exact uv.1 hq x hx),fun g hg=>by
       rw[htd]at hg
       obtain⟨x,hx,rfl⟩:=List.getElem_of_mem hg
       have:=cA0 x ah
       rwa [List.getD_eq_getElem?_getD,List.getElem?_eq_getElem hx]at this⟩)
    ·have hd:decide (RH s tl.cI=(j:Int))=false:=decide_eq_false hq
     (have zF:=tw @b5 (tw @b0 (tw @hj (tw @oN (tw @Cq (tw @hd (tw @dw.eq_1 @aj.eq_1))))));(repeat(first|((repeat(revert N;apply Pn.out));refine wk zF ?_;(repeat(apply Pn.mk;intro N Z)))|((try apply Or.inl);refine⟨_,ay.x (th) (sd zF),?_⟩;apply Z;clear Z N)|((try apply Or.inl);refine⟨_,ay.x (F2) (sd zF),?_⟩;apply Z;clear Z N)));try clear zF)
     exact cD (b:=false) (.inl rfl) (sd @Nat.zero_add) (gS (mT fun h=>by
      rw[DN,htd]at h
      exact hq (uv.2 h.2.2.1)))
   ·have Cq:decide ((tl.ew.length:Int)=4)=false:=decide_eq_false h4
    (have zF:=tw @b5 (tw @b0 (tw @hj (tw @oN (tw @Cq (tw @dw.eq_1 @aj.eq_1)))));(repeat(first|((repeat(revert N;apply Pn.out));refine wk zF ?_;(repeat(apply Pn.mk;intro N Z)))|((try apply Or.inl);refine⟨_,ay.x (th) (sd zF),?_⟩;apply Z;clear Z N)));try clear zF)
    exact cD (b:=false) (.inl rfl) (sd @Nat.zero_add) (gS (mT fun h=>by rw[DN,htd]at h;have:=h.2.1;omega))
  ·(try((repeat(revert N;apply Pn.out));refine wk (tw @b5 (tw @b0 (tw @hj @aj.eq_1))) ?_;(repeat(apply Pn.mk;intro N Z))))
   exact cD (b:=true) (.inl rfl) (sd @Nat.zero_add) (FI ⟨ah,ah,ah,fun i hi=>oz i ah,fun i hi=>bA0 i ah⟩)
end Go.Proofs.YtiabgllilcfheaaGreat.V

namespace Go.Proofs.YtiabgllilcfheaaGreat.V
def jM (a b:aq):Bool:=decide (a.fu<b.fu)||(decide (a.fu=b.fu)&&decide (a.fC<b.fC))
theorem ya {a b:aq}:jM a b=true↔a.fu<b.fu∨(a.fu=b.fu/\a.fC<b.fC):=by simp[jM]
theorem rH {a b:aq}:jM a b=false↔¬(a.fu<b.fu∨(a.fu=b.fu/\a.fC<b.fC)):=by rw[<-ya,Bool.not_eq_true]
theorem zw {a b:aq} (h1:a.fC=b.fC) (h2:a.fu=b.fu):a=b:=by cases a;cases b;simp_all
theorem jv {a b c:aq} (h:jM a b=true) (k:jM b c=true):jM a c=true:=by rw[ya]at *;omega
theorem lW {a:aq}:jM a a=false:=by rw[rH];omega
theorem Ff {a b:aq} (h:jM a b=true):jM b a=false:=by rw[ya]at h;rw[rH];omega
theorem yc {a b:aq} (h:jM a b=false) (ig:a≠b):jM b a=true:=by
 rw[rH]at h;rw[ya]
 by_cases hy:a.fu=b.fu
 ·by_cases hx:a.fC=b.fC
  ·exact absurd (zw hx hy) ig
  ·omega
 ·omega
def ua (a b:Int):Int:=if a<b then -1 else if b<a then 1 else 0
def Qd (a b:Int):Int:=if a=0 then b else a
def sf (a b:aq):Int:=Qd (ua a.fu b.fu) (ua a.fC b.fC)
theorem oF (a b:aq):decide (sf a b<0)=jM a b:=by
 unfold sf Qd ua jM
 by_cases h1:a.fu<b.fu
 ·simp[h1]
 ·by_cases h2:b.fu<a.fu
  ·have:¬a.fu=b.fu:=ah
   simp[h1,h2,this]
  ·have:a.fu=b.fu:=ah
   by_cases h3:a.fC<b.fC
   ·simp[h1,h2,this,h3]
   ·by_cases h4:b.fC<a.fC<;>simp[h1,h2,this,h3,h4]
theorem Jm (a b:aq):(sf a b=0)↔a=b:=by
 cases a;cases b
 unfold sf Qd ua
 simp only[aq.mk.injEq]
 split<;>(try split)<;>(try split)<;>(try split)<;>omega
def MR:aa:=⟨⟨0,0⟩,0⟩
def bw (l:List aa) (i:Nat):aa:=l.getD i MR
theorem gQ {l:List aa} {i:Nat} (h:i<l.length):bw l i=l[i]:=by simp[bw,List.getD_eq_getElem?_getD,h]
theorem jc {l:List aa} {i:Nat} (h:i<l.length):bw l i∈l:=by rw[gQ h];exact List.getElem_mem h
def ny (l:List aa):Prop:=∀i j:Nat,i<j->j<l.length->jM (bw l i).bD (bw l j).bD=true
def sq (l:List aa) (p:aq):Nat:=l.findIdx fun c=>decide (c.bD=p)
def fb (l:List aa) (p:aq):Int:=if sq l p<l.length then(sq l p:Int)else -1
def lz (l:List aa) (p:aq):Nat:=l.findIdx fun c=> !jM c.bD p
theorem CK {l:List aa} {p:aq} {i:Nat} (hi:i<=l.length) (h1:∀x,x<i->jM (bw l x).bD p=true) (h2:i<l.length->jM (bw l i).bD p=false):lz l p=i:=by
 unfold lz
 by_cases h:i<l.length
 ·rw[List.findIdx_eq h]
  refine⟨by have:=h2 h;rw[gQ h]at this;simp[this],fun j hj=>?_⟩
  have:=h1 j hj
  rw[gQ ah]at this
  simp[this]
 ·have:i=l.length:=ah
  subst this
  refine List.findIdx_eq_length_of_false fun x hx=>?_
  obtain⟨j,hj,rfl⟩:=List.getElem_of_mem hx
  have:=h1 j hj
  rw[gQ hj]at this
  simp[this]
theorem IL {l:List aa} {p:aq} (hR:ny l):fb l p=if lz l p<l.length/\(bw l (lz l p)).bD=p then(lz l p:Int)else -1:=by
 by_cases h:∃i,i<l.length/\(bw l i).bD=p
 ·obtain⟨i,hi,hp⟩:=h
  have h1:lz l p=i:=CK ah (fun x hx=>by rw[<-hp];exact hR x i hx hi) fun _=>by rw[hp];exact lW
  have h2:sq l p=i:=by
   rw[sq,List.findIdx_eq hi]
   refine⟨by rw[gQ hi]at hp;simpa using hp,fun j hj=>?_⟩
   have:=hR j i hj hi
   rw[hp,gQ ah]at this
   simp only[decide_eq_false_iff_not]
   intro hc
   rw[hc,lW]at this
   cases this
  rw[fb,h1,h2,if_pos hi,if_pos ⟨hi,hp⟩]
 ·have h2:¬sq l p<l.length:=by
   rw[sq,List.findIdx_lt_length]
   rintro⟨c,hc,he⟩
   obtain⟨j,hj,rfl⟩:=List.getElem_of_mem hc
   exact h ⟨j,hj,by rw[gQ hj];simpa using he⟩
  rw[fb,if_neg h2,if_neg]
  rintro⟨h3,h4⟩
  exact h ⟨_,h3,h4⟩
theorem ke {l:List aa} {p:aq} (h:0<=fb l p):(fb l p).toNat<l.length/\(bw l (fb l p).toNat).bD=p:=by
 unfold fb at h ⊢
 split at h
 ·rename_i hc
  rw[if_pos hc]
  refine⟨ah,?_⟩
  have:=of_decide_eq_true (List.findIdx_getElem (p:=fun c:aa=>decide (c.bD=p)) (xs:=l) (w:=hc))
  rw[Int.toNat_natCast,gQ hc]
  exact this
 ·omega
def fQ (l:List aa) (p:aq):Int:=if 0<=fb l p then(bw l (fb l p).toNat).ck else -1
end Go.Proofs.YtiabgllilcfheaaGreat.V

namespace Go.Proofs.YtiabgllilcfheaaGreat.V
open Go.RowKit
attribute [local irreducible] eC wpOps gi Call
attribute [local go_sem] aM fP fa fX fW du upd cz K.av cP AV.cells AV.cell rowOf rowsOf part ld rowAt bL cu dK eb gK bP de eu fS fq dx ef db da dR dS bU bf cU bR cW cV dW eh ee cR bW dd ec bQ aL cY cH gJ bF cL bV aY dr bq dL AV.undef bJ bK dV dY dQ dU cK er ez cF ej ei cX cZ List.getD_cons_zero List.getD_cons_succ List.getD_nil List.all_cons List.all_nil Bool.and_true Bool.true_and Bool.and_self Bool.not_true Bool.not_false Option.map_some Option.map_none Option.bind_some Option.bind_none List.length_cons List.length_nil List.take_succ_cons List.take_zero List.take_nil List.drop_succ_cons List.drop_zero List.drop_nil List.head?_cons List.map_cons List.map_nil List.getElem?_cons_zero List.getElem?_cons_succ List.cons_append List.nil_append List.append_nil List.length_map List.set_cons_zero List.set_cons_succ Nat.reduceMul eq_self Int.toNat_natCast Int.natCast_nonneg and_self true_and and_true decide_true decide_false Bool.false_eq_true Nat.zero_add Nat.add_zero List.contains_cons List.contains_nil Bool.or_false Bool.false_or beq_self_eq_true Nat.reduceBEq ne_eq not_true_eq_false not_false_eq_true Id.mk.injEq false_and and_false Nat.reduceLT Int.reduceLE Int.reduceLT Int.reduceToNat Int.reduceNeg Int.reduceAdd Nat.le_refl List.length_append beq_true beq_false Bool.not_eq_eq_eq_not or_false false_or eL ar ax aW bp bZ cw aV bH aU bh cQ bI
theorem nf (a b:aq):ay Tryz.prog 88 [.agg (ae a),.agg (ae b)] (.bool (jM a b)):=by
 refine ay.body fR rfl fun hl n0=>?_
 clear hl
 by_cases h0:a.fu<b.fu
 ·(try((repeat(revert N;apply Pn.out));refine wk (tw @ae.eq_1 @h0) ?_;(repeat(apply Pn.mk;intro N Z))))
  exact cD (b:=true) (.inl rfl) (sd @Nat.zero_add) (by simp[jM,h0])
 ·by_cases h1:a.fu=b.fu
  ·have h2:¬b.fu<b.fu:=ah
   (try((repeat(revert N;apply Pn.out));refine wk (tw @ae.eq_1 (tw @h1 @h2)) ?_;(repeat(apply Pn.mk;intro N Z))))
   exact cD (b:=decide (a.fC<b.fC)) (.inl rfl) (sd @Nat.zero_add) (by simp[jM,h1])
  ·(try((repeat(revert N;apply Pn.out));refine wk (tw @ae.eq_1 (tw @h0 @h1)) ?_;(repeat(apply Pn.mk;intro N Z))))
   exact cD (b:=false) (.inl rfl) (sd @Nat.zero_add) (by simp[jM,h0,h1])
theorem gI {l:List aa} {i:Nat} (h:i<l.length):(l.map ai)[i]? =some (ai (bw l i)):=getD_map ai h
def Gi (l:List aa) (i:Nat):Prop:=z8 (bw l i).bD=true/\jm (bw l i).ck 0 159=true/\(0<i->jM (bw l (i-1)).bD (bw l i).bD=true)
structure lP (l:List aa):Prop where
 wQ:l.length<=500
 ok:∀i,i<l.length->Gi l i
noncomputable def pG (l:List aa):Bool:=@decide (lP l) (Classical.propDecidable _)
theorem AX {l:List aa}:pG l=true↔lP l:=by simp[pG]
theorem lu {l:List aa} (h:¬lP l):false=pG l:=by simp[pG,h]
theorem AY {l:List aa} (h:lP l):true=pG l:=by simp[pG,h]
theorem lP.Kw {l:List aa} (h:lP l):ny l:=by
 intro i j EA hj
 induction j with
 |zero=>omega
 |succ j ih=>
  have h1:=(h.ok (j+1) hj).2.2 ah
  rw[Nat.add_sub_cancel]at h1
  by_cases he:i=j
  ·subst he;exact h1
  ·exact jv (ih ah ah) h1
theorem lP.pt {l:List aa} (h:lP l) {i:Nat} (hi:i<l.length):z8 (bw l i).bD=true:=(h.ok i hi).1
theorem tF {p:aq} (h:z8 p=true):iB p.fC/\iB p.fu:=by
 unfold z8 at h
 simp only[Bool.and_eq_true]at h
 have:=eT h.1;have:=eT h.2
 unfold iB;omega
theorem Bp (l:List aa):ay Tryz.prog 53 [.dF [.sl (l.map ai)]] (.bool (pG l)):=by
 refine ay.body fR rfl fun hl n0=>?_
 clear hl
 by_cases h1:(500:Int)<(l.length:Int)
 ·(try((repeat(revert N;apply Pn.out));refine wk @h1 ?_;(repeat(apply Pn.mk;intro N Z))))
  exact cD (b:=false) (.inl rfl) (sd @Nat.zero_add) (lu fun h=>by have:=h.wQ;omega)
 (try((repeat(revert N;apply Pn.out));refine wk @h1 ?_;(repeat(apply Pn.mk;intro N Z))))
 refine bz (fun n env st=>∃k:Nat,n=(l.length)-k/\k<=(l.length)/\env 3=.int .i64 (k:Int)/\(∀j:Nat,j<k->Gi l j)) (l.length) ⟨0,ah,ah,sl @Nat.zero_add,fun _ h=>absurd h (Nat.not_lt_zero _)⟩ ?_
 rintro n_a env_a st_a ⟨k,rfl,ale,a3,oz⟩ eE
 have a0:=eE 0 (by kernel_rfl)
 simp only[go_sem, ↓reduceIte,Nat.reduceEqDiff,Nat.reduceAdd,Nat.reduceSub,Nat.reduceLeDiff,reduceCtorEq]at a0
 clear eE
 by_cases hk:(k:Int)<(l.length:Int)
 ·have dD:∀{e:Env},(e 3=.int .i64 (IntKind.i64.wrap ((k:Int)+1)))->(Gi l k)->∃m0,m0<(l.length)-k/\∃k:Nat,m0=(l.length)-k/\k<=(l.length)/\e 3=.int .i64 (k:Int)/\(∀j:Nat,j<k->Gi l j):=fun x1 x2=>⟨_,ah,k+1,rfl,ah,(by rw[x1,aK ah]),(all_succ oz x2)⟩
  have iO:k<l.length:=ah
  have gL:=gI iO
  have mT:(¬Gi l k)->¬lP l:=fun h hp=>h (hp.ok k iO)
  have hp:=oQ (bw l k).bD
  have ht:=lj (bw l k).ck 0 159
  cases b1:z8 (bw l k).bD
  ·rw[b1]at hp
   (have zF:=tw @a3 (tw @a0 (tw @hk (tw @gL (tw @ai.eq_1 @ae.eq_1))));(repeat(first|((repeat(revert N;apply Pn.out));refine wk zF ?_;(repeat(apply Pn.mk;intro N Z)))|((try apply Or.inl);refine⟨_,ay.x (hp) (sd zF),?_⟩;apply Z;clear Z N)));try clear zF)
   exact cD (b:=false) (.inl rfl) (sd @Nat.zero_add) (lu (mT fun h=>by rw[Gi,b1]at h;cases h.1))
  rw[b1]at hp
  cases b2:jm (bw l k).ck 0 159
  ·rw[b2]at ht
   (have zF:=tw @a3 (tw @a0 (tw @hk (tw @gL (tw @ai.eq_1 @ae.eq_1))));(repeat(first|((repeat(revert N;apply Pn.out));refine wk zF ?_;(repeat(apply Pn.mk;intro N Z)))|((try apply Or.inl);refine⟨_,ay.x (hp) (sd zF),?_⟩;apply Z;clear Z N)|((try apply Or.inl);refine⟨_,ay.x (ht) (sd zF),?_⟩;apply Z;clear Z N)));try clear zF)
   exact cD (b:=false) (.inl rfl) (sd @Nat.zero_add) (lu (mT fun h=>by rw[Gi,b2]at h;cases h.2.1))
  rw[b2]at ht
  by_cases h0:(0:Int)<(k:Int)
  ·have vz:=gI (l:=l) (i:=k-1) ah
   have hw:IntKind.i64.wrap ((k:Int)-1)=((k-1:Nat):Int):=by rw[cm (by have:=iO;omega)];omega
   have hq:=nf (bw l (k-1)).bD (bw l k).bD
   cases b3:jM (bw l (k-1)).bD (bw l k).bD
   ·rw[b3]at hq
    (have zF:=tw @a3 (tw @a0 (tw @hk (tw @gL (tw @vz (tw @h0 (tw @hw (tw @ai.eq_1 @ae.eq_1)))))));(repeat(first|((repeat(revert N;apply Pn.out));refine wk zF ?_;(repeat(apply Pn.mk;intro N Z)))|((try apply Or.inl);refine⟨_,ay.x (hp) (sd zF),?_⟩;apply Z;clear Z N)|((try apply Or.inl);refine⟨_,ay.x (ht) (sd zF),?_⟩;apply Z;clear Z N)|((try apply Or.inl);refine⟨_,ay.x (hq) (sd zF),?_⟩;apply Z;clear Z N)));try clear zF)
    exact cD (b:=false) (.inl rfl) (sd @Nat.zero_add) (lu (mT fun h=>by have:=h.2.2 ah;rw[b3]at this;cases this))
   ·rw[b3]at hq
    (have zF:=tw @a3 (tw @a0 (tw @hk (tw @gL (tw @vz (tw @h0 (tw @hw (tw @ai.eq_1 @ae.eq_1)))))));(repeat(first|((repeat(revert N;apply Pn.out));refine wk zF ?_;(repeat(apply Pn.mk;intro N Z)))|((try apply Or.inl);refine⟨_,ay.x (hp) (sd zF),?_⟩;apply Z;clear Z N)|((try apply Or.inl);refine⟨_,ay.x (ht) (sd zF),?_⟩;apply Z;clear Z N)|((try apply Or.inl);refine⟨_,ay.x (hq) (sd zF),?_⟩;apply Z;clear Z N)));try clear zF)
    exact dD (sd (tw @a3 @a0)) (⟨b1,b2,fun _=>b3⟩)
  ·have x7:k=0:=ah
   (have zF:=tw @a3 (tw @a0 (tw @hk (tw @gL (tw @h0 (tw @ai.eq_1 @ae.eq_1)))));(repeat(first|((repeat(revert N;apply Pn.out));refine wk zF ?_;(repeat(apply Pn.mk;intro N Z)))|((try apply Or.inl);refine⟨_,ay.x (hp) (sd zF),?_⟩;apply Z;clear Z N)|((try apply Or.inl);refine⟨_,ay.x (ht) (sd zF),?_⟩;apply Z;clear Z N)));try clear zF)
   exact dD (sd (tw @a3 @a0)) (⟨b1,b2,fun h=>ah⟩)
 ·(try((repeat(revert N;apply Pn.out));refine wk (tw @a3 (tw @a0 @hk)) ?_;(repeat(apply Pn.mk;intro N Z))))
  exact cD (b:=true) (.inl rfl) (sd @Nat.zero_add) (AY ⟨ah,fun i hi=>oz i ah⟩)
theorem AS (a b:Int):ay Tryz.prog 111 [.int .i64 a,.int .i64 b] (.int .i64 (ua a b)):=by
 have nan:∀x:Int,ay Tryz.prog 139 [.int .i64 x] (.bool false):=fun x=>by
  refine ay.body fR rfl fun hl n0=>?_
  clear hl
  have e:decide (x=x)=true:=decide_eq_true rfl
  (try((repeat(revert N;apply Pn.out));refine wk @e ?_;(repeat(apply Pn.mk;intro N Z))))
  exact cD (b:=false) (.inl rfl) (sd @Nat.zero_add) rfl
 refine ay.body fR rfl fun hl n0=>?_
 clear hl
 have ha:=nan a
 have hb:=nan b
 by_cases h1:a<b
 ·(repeat(first|((repeat(revert N;apply Pn.out));refine wk @h1 ?_;(repeat(apply Pn.mk;intro N Z)))|((try apply Or.inl);refine⟨_,ay.x (ha) (sd @h1),?_⟩;apply Z;clear Z N)|((try apply Or.inl);refine⟨_,ay.x (hb) (sd @h1),?_⟩;apply Z;clear Z N)))
  exact eJ (b:=-1) (.inl rfl) (sd @Nat.zero_add) (by rw[ua,if_pos h1])
 by_cases h2:b<a
 ·(repeat(first|((repeat(revert N;apply Pn.out));refine wk (tw @h1 @h2) ?_;(repeat(apply Pn.mk;intro N Z)))|((try apply Or.inl);refine⟨_,ay.x (ha) (sd (tw @h1 @h2)),?_⟩;apply Z;clear Z N)|((try apply Or.inl);refine⟨_,ay.x (hb) (sd (tw @h1 @h2)),?_⟩;apply Z;clear Z N)))
  exact eJ (b:=1) (.inl rfl) (sd @Nat.zero_add) (by rw[ua,if_neg h1,if_pos h2])
 ·(repeat(first|((repeat(revert N;apply Pn.out));refine wk (tw @h1 @h2) ?_;(repeat(apply Pn.mk;intro N Z)))|((try apply Or.inl);refine⟨_,ay.x (ha) (sd (tw @h1 @h2)),?_⟩;apply Z;clear Z N)|((try apply Or.inl);refine⟨_,ay.x (hb) (sd (tw @h1 @h2)),?_⟩;apply Z;clear Z N)))
  exact eJ (b:=0) (.inl rfl) (sd @Nat.zero_add) (by rw[ua,if_neg h1,if_neg h2])
def K9:List Int->Int
 |[]=>0
 |a::r=>if a=0 then K9 r else a
theorem MX:∀{l:List Int} {k:Nat} (hk:k<l.length),l[k]≠0->(∀j (h:j<l.length),j<k->l[j]=0)->K9 l=l[k]
 |a::r,0,_,h,_=>by
  have h':a≠0:=h
  rw[K9,if_neg h'];rfl
 |a::r,k+1,hk,h,h0=>by
  have h':a=0:=h0 0 (by simp) ah
  rw[K9,if_pos h',MX (k:=k) (by simpa using hk) h fun j hj Bd=>h0 (j+1) (by simpa using hj) ah];rfl
theorem Fy:∀{l:List Int},(∀j (h:j<l.length),l[j]=0)->K9 l=0
 |[],_=>rfl
 |a::r,h=>by
  have h':a=0:=h 0 (by simp)
  rw[K9,if_pos h',Fy fun j hj=>h (j+1) (by simpa using hj)]
theorem Qe (a b:Int):K9 [a,b]=Qd a b:=by
 unfold Qd
 by_cases h:a=0
 ·rw[K9,if_pos h,if_pos h,K9,K9];split<;>simp_all
 ·rw[K9,if_neg h,if_neg h]
theorem OY (l:List Int):ay Tryz.prog 110 [.sl (l.map aJ)] (.int .i64 (K9 l)):=by
 refine ay.body fR rfl fun hl n0=>?_
 have hlen:l.length<=9223372036854775807:=by simpa using(hl (.sl (l.map aJ)) (by simp)).len
 clear hl
 (try((repeat(revert N;apply Pn.out));refine wk @Nat.zero_add ?_;(repeat(apply Pn.mk;intro N Z))))
 refine bz (fun n env st=>∃k:Nat,n=(l.length)-k/\k<=(l.length)/\env 8=.int .i64 (k:Int)/\(∀j:Nat,j<k->∀h:j<l.length,l[j]=0)) (l.length) ⟨0,ah,ah,sl @Nat.zero_add,fun _ h=>absurd h (Nat.not_lt_zero _)⟩ ?_
 rintro n_a env_a st_a ⟨k,rfl,ale,a8,oz⟩ eE
 have a3:=eE 3 (by kernel_rfl);have a6:=eE 6 (by kernel_rfl);have a7:=eE 7 (by kernel_rfl)
 simp only[go_sem, ↓reduceIte,Nat.reduceEqDiff,Nat.reduceAdd,Nat.reduceSub,Nat.reduceLeDiff,reduceCtorEq]at a3 a6 a7
 clear eE
 by_cases hk:(k:Int)<(l.length:Int)
 ·have dD:∀{e:Env},(e 8=.int .i64 (IntKind.i64.wrap ((k:Int)+1)))->(∀h:k<l.length,l[k]=0)->∃m0,m0<(l.length)-k/\∃k:Nat,m0=(l.length)-k/\k<=(l.length)/\e 8=.int .i64 (k:Int)/\(∀j:Nat,j<k->∀h:j<l.length,l[j]=0):=fun x1 x2=>⟨_,ah,k+1,rfl,ah,(by rw[x1,aK ah]),(all_succ oz x2)⟩
  have iO:k<l.length:=ah
  have gL:(l.map aJ)[k]? =some (aJ l[k]):=by simp[iO]
  generalize hv:l[k]=v at gL
  by_cases h0:v=0
  ·have e:decide (v=0)=true:=decide_eq_true h0
   (try((repeat(revert N;apply Pn.out));refine wk (tw @a8 (tw @a3 (tw @a6 (tw @a7 (tw @e (tw @hk (tw @gL @aJ.eq_1))))))) ?_;(repeat(apply Pn.mk;intro N Z))))
   exact dD (sd (tw @a8 (tw @a3 (tw @a6 @a7)))) (fun _=>hv.trans h0)
  ·have e:decide (v=0)=false:=decide_eq_false h0
   (try((repeat(revert N;apply Pn.out));refine wk (tw @a8 (tw @a3 (tw @a6 (tw @a7 (tw @e (tw @hk (tw @gL @aJ.eq_1))))))) ?_;(repeat(apply Pn.mk;intro N Z))))
   exact eJ (b:=v) (.inl rfl) (sd @Nat.zero_add) (by rw[MX iO (by rw[hv];exact h0) fun j h hj=>oz j hj h,hv])
 ·(try((repeat(revert N;apply Pn.out));refine wk (tw @a8 (tw @a3 (tw @a6 (tw @a7 @hk)))) ?_;(repeat(apply Pn.mk;intro N Z))))
  exact eJ (b:=0) (.inl rfl) (sd @Nat.zero_add) (by rw[Fy fun j h=>oz j ah h])
section
attribute [local go_sem] List.drop_zero List.take_succ_cons List.take_zero List.length_cons List.length_nil ju Cm qC
theorem pA (a b:aq):ay Tryz.prog 84 [.agg (ae a),.agg (ae b)] (.int .i64 (sf a b)):=by
 refine ay.body fR rfl fun hl n0=>?_
 clear hl
 have h1:=AS a.fu b.fu
 have h2:=AS a.fC b.fC
 have h3:=OY [ua a.fu b.fu,ua a.fC b.fC]
 rw[Qe,List.map_cons,List.map_cons,List.map_nil,aJ,aJ]at h3
 (repeat(first|((repeat(revert N;apply Pn.out));refine wk @ae.eq_1 ?_;(repeat(apply Pn.mk;intro N Z)))|((try apply Or.inl);refine⟨_,ay.x (h1) (sd @ae.eq_1),?_⟩;apply Z;clear Z N)|((try apply Or.inl);refine⟨_,ay.x (h2) (sd @ae.eq_1),?_⟩;apply Z;clear Z N)|((try apply Or.inl);refine⟨_,ay.x (h3) (sd @ae.eq_1),?_⟩;apply Z;clear Z N)))
 exact eJ (b:=sf a b) (.inl rfl) (by simp only[go_sem, ↓reduceIte,Nat.reduceEqDiff,Nat.reduceAdd,Nat.reduceSub,Nat.reduceLeDiff,reduceCtorEq,sf]) rfl
end
theorem PK (a b:aq):ay Tryz.prog 79 [.agg (ae a),.agg (ae b)] (.bool (jM a b)):=by
 refine ay.body fR rfl fun hl n0=>?_
 clear hl
 have h1:=pA a b
 rw[ae,ae]at h1
 (repeat(first|((repeat(revert N;apply Pn.out));refine wk @ae.eq_1 ?_;(repeat(apply Pn.mk;intro N Z)))|((try apply Or.inl);refine⟨_,ay.x (h1) (sd @ae.eq_1),?_⟩;apply Z;clear Z N)))
 exact cD (b:=decide (sf a b<0)) (.inl rfl) (sd @Nat.zero_add) (oF a b)
theorem lK (t:aa) (p:aq):ay Tryz.prog 68 [.agg (ai t),.agg (ae p)] (.int .i64 (sf t.bD p)):=by
 refine ay.body fR rfl fun hl n0=>?_
 clear hl
 have h1:=pA t.bD p
 rw[ae,ae]at h1
 (repeat(first|((repeat(revert N;apply Pn.out));refine wk (tw @ai.eq_1 @ae.eq_1) ?_;(repeat(apply Pn.mk;intro N Z)))|((try apply Or.inl);refine⟨_,ay.x (h1) (sd (tw @ai.eq_1 @ae.eq_1)),?_⟩;apply Z;clear Z N)))
 exact eJ (b:=sf t.bD p) (.inl rfl) (sd @Nat.zero_add) rfl
theorem JJ (l:List aa):ay Tryz.prog 43 [.agg [.sl (l.map ai)]] (.bool (pG l)):=by
 refine ay.body fR rfl fun hl n0=>?_
 have hlen:l.length<=9223372036854775807:=by
  have h1:=(hl (.agg [.sl (l.map ai)]) (by simp)).R0 (a:=.sl (l.map ai)) (by simp)
  simpa using h1.len
 clear hl
 (try((repeat(revert N;apply Pn.out));refine wk @Nat.zero_add ?_;(repeat(apply Pn.mk;intro N Z))))
 refine bz (fun n env st=>∃k:Nat,n=(l.length)-k/\k<=(l.length)/\env 8=.int .i64 (k:Int)/\st.get ⟨43000000,n0⟩=some ⟨true,1,[[.sl (l.map ai)]]⟩/\(∀j:Nat,j<k->Gi l j)) (l.length) ⟨0,ah,ah,sl @Nat.zero_add,sl @Nat.zero_add,fun _ h=>absurd h (Nat.not_lt_zero _)⟩ ?_
 rintro n_a env_a st_a ⟨k,rfl,ale,a8,ag0,oz⟩ eE
 have a1:=eE 1 (by kernel_rfl);have a6:=eE 6 (by kernel_rfl);have a7:=eE 7 (by kernel_rfl)
 simp only[go_sem, ↓reduceIte,Nat.reduceEqDiff,Nat.reduceAdd,Nat.reduceSub,Nat.reduceLeDiff,reduceCtorEq]at a1 a6 a7
 clear eE
 by_cases hk:(k:Int)<(l.length:Int)
 ·have dD:∀{e:Env} {gg:Rows},(e 8=.int .i64 (IntKind.i64.wrap ((k:Int)+1)))->(gg ⟨43000000,n0⟩=some ⟨true,1,[[.sl (l.map ai)]]⟩)->(Gi l k)->∃m0,m0<(l.length)-k/\∃k:Nat,m0=(l.length)-k/\k<=(l.length)/\e 8=.int .i64 (k:Int)/\gg ⟨43000000,n0⟩=some ⟨true,1,[[.sl (l.map ai)]]⟩/\(∀j:Nat,j<k->Gi l j):=fun x1 x2 x3=>⟨_,ah,k+1,rfl,ah,(by rw[x1,aK ah]),x2,(all_succ oz x3)⟩
  have iO:k<l.length:=ah
  have gL:=gI iO
  have mT:(¬Gi l k)->¬lP l:=fun h hp=>h (hp.ok k iO)
  have hp:=tQ (bw l k).bD
  have ht:=Bk (bw l k).ck 160 ah ah
  rw[show(160:Int)-1=159 from rfl]at ht
  cases b1:z8 (bw l k).bD
  ·rw[b1]at hp
   (have zF:=tw @a8 (tw @ag0 (tw @a1 (tw @a6 (tw @a7 (tw @hk (tw @gL (tw @ai.eq_1 @ae.eq_1)))))));(repeat(first|((repeat(revert N;apply Pn.out));refine wk zF ?_;(repeat(apply Pn.mk;intro N Z)))|((try apply Or.inl);refine⟨_,ay.x (hp) (sd zF),?_⟩;apply Z;clear Z N)));try clear zF)
   exact cD (b:=false) (.inl rfl) (sd @Nat.zero_add) (lu (mT fun h=>by rw[Gi,b1]at h;cases h.1))
  rw[b1]at hp
  cases b2:jm (bw l k).ck 0 159
  ·rw[b2]at ht
   (have zF:=tw @a8 (tw @ag0 (tw @a1 (tw @a6 (tw @a7 (tw @hk (tw @gL (tw @ai.eq_1 @ae.eq_1)))))));(repeat(first|((repeat(revert N;apply Pn.out));refine wk zF ?_;(repeat(apply Pn.mk;intro N Z)))|((try apply Or.inl);refine⟨_,ay.x (hp) (sd zF),?_⟩;apply Z;clear Z N)|((try apply Or.inl);refine⟨_,ay.x (ht) (sd zF),?_⟩;apply Z;clear Z N)));try clear zF)
   exact cD (b:=false) (.inl rfl) (sd @Nat.zero_add) (lu (mT fun h=>by rw[Gi,b2]at h;cases h.2.1))
  rw[b2]at ht
  by_cases h0:(0:Int)<(k:Int)
  ·have vz:=gI (l:=l) (i:=k-1) ah
   have hw:IntKind.i64.wrap ((k:Int)-1)=((k-1:Nat):Int):=by rw[cm ah];omega
   have hq:=PK (bw l (k-1)).bD (bw l k).bD
   cases b3:jM (bw l (k-1)).bD (bw l k).bD
   ·rw[b3]at hq
    (have zF:=tw @a8 (tw @ag0 (tw @a1 (tw @a6 (tw @a7 (tw @hk (tw @gL (tw @vz (tw @h0 (tw @hw (tw @ai.eq_1 @ae.eq_1))))))))));(repeat(first|((repeat(revert N;apply Pn.out));refine wk zF ?_;(repeat(apply Pn.mk;intro N Z)))|((try apply Or.inl);refine⟨_,ay.x (hp) (sd zF),?_⟩;apply Z;clear Z N)|((try apply Or.inl);refine⟨_,ay.x (ht) (sd zF),?_⟩;apply Z;clear Z N)|((try apply Or.inl);refine⟨_,ay.x (hq) (sd zF),?_⟩;apply Z;clear Z N)));try clear zF)
    exact cD (b:=false) (.inl rfl) (sd @Nat.zero_add) (lu (mT fun h=>by have:=h.2.2 ah;rw[b3]at this;cases this))
   ·rw[b3]at hq
    (have zF:=tw @a8 (tw @ag0 (tw @a1 (tw @a6 (tw @a7 (tw @hk (tw @gL (tw @vz (tw @h0 (tw @hw (tw @ai.eq_1 @ae.eq_1))))))))));(repeat(first|((repeat(revert N;apply Pn.out));refine wk zF ?_;(repeat(apply Pn.mk;intro N Z)))|((try apply Or.inl);refine⟨_,ay.x (hp) (sd zF),?_⟩;apply Z;clear Z N)|((try apply Or.inl);refine⟨_,ay.x (ht) (sd zF),?_⟩;apply Z;clear Z N)|((try apply Or.inl);refine⟨_,ay.x (hq) (sd zF),?_⟩;apply Z;clear Z N)));try clear zF)
    refine dD ?_ ?_ (⟨b1,b2,fun _=>b3⟩)
    all_goals simp only[go_sem, ↓reduceIte,Nat.reduceEqDiff,Nat.reduceAdd,Nat.reduceSub,Nat.reduceLeDiff,reduceCtorEq,a8,ag0,a1,a6,a7]
  ·have x7:k=0:=ah
   (have zF:=tw @a8 (tw @ag0 (tw @a1 (tw @a6 (tw @a7 (tw @hk (tw @gL (tw @h0 (tw @ai.eq_1 @ae.eq_1))))))));(repeat(first|((repeat(revert N;apply Pn.out));refine wk zF ?_;(repeat(apply Pn.mk;intro N Z)))|((try apply Or.inl);refine⟨_,ay.x (hp) (sd zF),?_⟩;apply Z;clear Z N)|((try apply Or.inl);refine⟨_,ay.x (ht) (sd zF),?_⟩;apply Z;clear Z N)));try clear zF)
   refine dD ?_ ?_ (⟨b1,b2,fun h=>ah⟩)
   all_goals simp only[go_sem, ↓reduceIte,Nat.reduceEqDiff,Nat.reduceAdd,Nat.reduceSub,Nat.reduceLeDiff,reduceCtorEq,a8,ag0,a1,a6,a7]
 ·(try((repeat(revert N;apply Pn.out));refine wk (tw @a8 (tw @ag0 (tw @a1 (tw @a6 (tw @a7 @hk))))) ?_;(repeat(apply Pn.mk;intro N Z))))
  refine cD (b:=decide ((l.length:Int)<=500)) (.inl rfl) (sd @Nat.zero_add) ?_
  by_cases h5:(l.length:Int)<=500
  ·rw[decide_eq_true h5];exact AY ⟨ah,fun i hi=>oz i ah⟩
  ·rw[decide_eq_false h5];exact lu fun h=>by have:=h.wQ;omega
theorem AP (cells:List aa) (p:aq) (hR:ny cells) (Pa:cells.length<=1048576):
  ay Tryz.prog 67 [.sl (cells.map ai),.agg (ae p),.fn 68 []] (.gM [.int .i64 (lz cells p),.bool (decide (lz cells p<cells.length)&&decide ((bw cells (lz cells p)).bD=p))]):=by
 refine ay.body fR rfl fun hl n0=>?_
 clear hl
 (try((repeat(revert N;apply Pn.out));refine wk @ae.eq_1 ?_;(repeat(apply Pn.mk;intro N Z))))
 refine bz (fun n env st=>∃i j:Nat,n=j-i/\i<=j/\j<=cells.length/\(∀x,x<i->jM (bw cells x).bD p=true)/\(∀x,j<=x->x<cells.length->jM (bw cells x).bD p=false)/\env 9=.int .i64 i/\env 10=.int .i64 j/\st.get ⟨67000000,n0⟩=some ⟨true,2,[ae p]⟩) cells.length ⟨0,cells.length,ah,ah,ah,fun x h=>ah,fun x h1 h2=>ah,by(simp only[go_sem, ↓reduceIte,Nat.reduceEqDiff,Nat.reduceAdd,Nat.reduceSub,Nat.reduceLeDiff,reduceCtorEq])<;>rfl,sd @Nat.zero_add,sd @ae.eq_1⟩ ?_
 rintro n env st ⟨i,j,rfl,EA,hj,kH,w8,h9,Er,hg⟩ fr
 have h0:=fr 0 (by kernel_rfl)
 have h2:=fr 2 (by kernel_rfl)
 have h4:=fr 4 (by kernel_rfl)
 have h8:=fr 8 (by kernel_rfl)
 simp only[go_sem, ↓reduceIte,Nat.reduceEqDiff,Nat.reduceAdd,Nat.reduceSub,Nat.reduceLeDiff,reduceCtorEq]at h0 h2 h4 h8
 clear fr
 by_cases eW:(i:Int)<(j:Int)
 ·have e1:IntKind.i64.wrap ((i:Int)+j)=((i+j:Nat):Int):=by rw[cm ah];rfl
  have hm:(i+j) / 2<cells.length:=ah
  have iS:(cells.map ai)[(i+j) / 2]? =some (ai (bw cells ((i+j) / 2))):=gI (l:=cells) hm
  have e2:IntKind.i64.wrap ((IntKind.u64.wrap ((i+j:Nat):Int)).fdiv (2 ^ min 1 IntKind.u64.bits))=(((i+j) / 2:Nat):Int):=by
   have h:IntKind.u64.wrap ((i+j:Nat):Int)=((i+j:Nat):Int):=by rw[IntKind.wrap_u64];omega
   rw[h,show min 1 IntKind.u64.bits=1 from rfl,show((2:Int) ^ 1)=2 from rfl,Int.fdiv_eq_ediv_of_nonneg _ ah]
   rw[cm ah];omega
  have Wk:IntKind.i64.wrap ((IntKind.u64.wrap ((i+j:Nat):Int)).fdiv (2 ^ min 1 64))=(((i+j) / 2:Nat):Int):=e2
  have e3:=aK (k:=(i+j) / 2) ah
  by_cases hc:sf (bw cells ((i+j) / 2)).bD p<0
  ·have hl:jM (bw cells ((i+j) / 2)).bD p=true:=by rw[<-oF];simpa using hc
   (have zF:=tw @h0 (tw @h2 (tw @h4 (tw @h8 (tw @h9 (tw @Er (tw @hg (tw @eW (tw @e1 (tw @e2 (tw @Wk (tw @iS (tw @hc (tw @ai.eq_1 @ae.eq_1)))))))))))));(repeat(first|((repeat(revert N;apply Pn.out));refine wk zF ?_;(repeat(apply Pn.mk;intro N Z)))|((try apply Or.inl);refine⟨_,ay.x (lK (bw cells ((i+j) / 2)) p) (sd zF),?_⟩;apply Z;clear Z N)));try clear zF)
   refine⟨_,?_,(i+j) / 2+1,j,rfl,ah,hj,fun x hx=>?_,w8,sd @e3,sd @Er,sd (tw @hg @ae.eq_1)⟩
   ·omega
   ·by_cases OE:x=(i+j) / 2
    ·subst OE;exact hl
    ·exact jv (hR x _ ah hm) hl
  ·have hl:jM (bw cells ((i+j) / 2)).bD p=false:=by rw[<-oF];simpa using hc
   (have zF:=tw @h0 (tw @h2 (tw @h4 (tw @h8 (tw @h9 (tw @Er (tw @hg (tw @eW (tw @e1 (tw @e2 (tw @Wk (tw @iS (tw @hc (tw @ai.eq_1 @ae.eq_1)))))))))))));(repeat(first|((repeat(revert N;apply Pn.out));refine wk zF ?_;(repeat(apply Pn.mk;intro N Z)))|((try apply Or.inl);refine⟨_,ay.x (lK (bw cells ((i+j) / 2)) p) (sd zF),?_⟩;apply Z;clear Z N)));try clear zF)
   refine⟨_,?_,i,(i+j) / 2,rfl,ah,ah,kH,fun x h1 h2=>?_,sd @h9,sd (tw @e2 @Wk),sd (tw @hg @ae.eq_1)⟩
   ·omega
   ·by_cases OE:x=(i+j) / 2
    ·subst OE;exact hl
    ·rw[Bool.eq_false_iff]
     intro hc
     have h3:=jv (hR ((i+j) / 2) x ah h2) hc
     rw[hl]at h3;cases h3
 ·have SY:i=j:=ah
  subst SY
  have yV:lz cells p=i:=CK hj kH fun h=>w8 i (Nat.le_refl _) h
  by_cases hn:(i:Int)<(cells.length:Int)
  ·have fZ:i<cells.length:=ah
   have iS:(cells.map ai)[i]? =some (ai (bw cells i)):=gI (l:=cells) fZ
   have hd:decide (sf (bw cells i).bD p=0)=decide ((bw cells i).bD=p):=by simp only[Jm]
   (have zF:=tw @h0 (tw @h2 (tw @h4 (tw @h8 (tw @h9 (tw @Er (tw @hg (tw @eW (tw @hn (tw @iS (tw @ai.eq_1 @ae.eq_1))))))))));(repeat(first|((repeat(revert N;apply Pn.out));refine wk zF ?_;(repeat(apply Pn.mk;intro N Z)))|((try apply Or.inl);refine⟨_,ay.x (lK (bw cells i) p) (sd zF),?_⟩;apply Z;clear Z N)));try clear zF)
   refine km (.inl rfl) (r1:=.int .i64 i) (r2:=.bool (decide ((bw cells i).bD=p))) ?_ ?_ ?_
   ·simp only[go_sem, ↓reduceIte,Nat.reduceEqDiff,Nat.reduceAdd,Nat.reduceSub,Nat.reduceLeDiff,reduceCtorEq]
   ·simp only[go_sem, ↓reduceIte,Nat.reduceEqDiff,Nat.reduceAdd,Nat.reduceSub,Nat.reduceLeDiff,reduceCtorEq,hd]
   ·simp only[eR,bc,bY,dG,fM,Option.map_some,yV,fZ,decide_true,Bool.true_and]
  ·have fZ:¬i<cells.length:=ah
   (try((repeat(revert N;apply Pn.out));refine wk (tw @h0 (tw @h2 (tw @h4 (tw @h8 (tw @h9 (tw @Er (tw @hg (tw @eW (tw @hn (tw @ai.eq_1 @ae.eq_1)))))))))) ?_;(repeat(apply Pn.mk;intro N Z))))
   refine km (.inl rfl) (r1:=.int .i64 i) (r2:=.bool false) ?_ ?_ ?_
   ·simp only[go_sem, ↓reduceIte,Nat.reduceEqDiff,Nat.reduceAdd,Nat.reduceSub,Nat.reduceLeDiff,reduceCtorEq]
   ·simp only[go_sem, ↓reduceIte,Nat.reduceEqDiff,Nat.reduceAdd,Nat.reduceSub,Nat.reduceLeDiff,reduceCtorEq]
   ·simp only[eR,bc,bY,dG,fM,Option.map_some,yV,fZ,decide_false,Bool.false_and]
theorem Kq (l:List aa) (p:aq) (hR:ny l) (Pa:l.length<=1048576):ay Tryz.prog 191 [.agg [.sl (l.map ai)],.agg (ae p)] (.int .i64 (fb l p)):=by
 refine ay.body fR rfl fun hl n0=>?_
 clear hl
 rw[IL hR]
 have hb:=AP l p hR Pa
 rw[ae]at hb
 cases hf:(decide (lz l p<l.length)&&decide ((bw l (lz l p)).bD=p))
 ·rw[hf]at hb
  (repeat(first|((repeat(revert N;apply Pn.out));refine wk @ae.eq_1 ?_;(repeat(apply Pn.mk;intro N Z)))|((try apply Or.inl);refine⟨_,ay.x (hb) (sd @ae.eq_1),?_⟩;apply Z;clear Z N)))
  exact eJ (b:=-1) (.inl rfl) (sd @Nat.zero_add) (by rw[if_neg];intro h;simp[h.1,h.2]at hf)
 ·rw[hf]at hb
  (repeat(first|((repeat(revert N;apply Pn.out));refine wk @ae.eq_1 ?_;(repeat(apply Pn.mk;intro N Z)))|((try apply Or.inl);refine⟨_,ay.x (hb) (sd @ae.eq_1),?_⟩;apply Z;clear Z N)))
  exact eJ (b:=(lz l p:Int)) (.inl rfl) (sd @Nat.zero_add) (by rw[if_pos];simpa using hf)
theorem oR (l:List aa) (p:aq) (hR:ny l) (Pa:l.length<=1048576):ay Tryz.prog 72 [.dF [.sl (l.map ai)],.agg (ae p)] (.int .i64 (fb l p)):=by
 refine ay.body fR rfl fun hl n0=>?_
 clear hl
 rw[IL hR]
 (try((repeat(revert N;apply Pn.out));refine wk @ae.eq_1 ?_;(repeat(apply Pn.mk;intro N Z))))
 refine bz (fun n env st=>∃i j:Nat,n=j-i/\i<=j/\j<=l.length/\(∀x,x<i->jM (bw l x).bD p=true)/\(∀x,j<=x->x<l.length->jM (bw l x).bD p=false)/\env 5=.int .i64 i/\env 6=.int .i64 j/\st.get ⟨72000000,n0⟩=some ⟨true,2,[ae p]⟩) l.length ⟨0,l.length,ah,ah,ah,fun x h=>ah,fun x h1 h2=>ah,by(simp only[go_sem, ↓reduceIte,Nat.reduceEqDiff,Nat.reduceAdd,Nat.reduceSub,Nat.reduceLeDiff,reduceCtorEq])<;>rfl,sd @Nat.zero_add,sd @ae.eq_1⟩ ?_
 rintro n env st ⟨i,j,rfl,EA,hj,kH,w8,h5,h6,hg⟩ fr
 have h0:=fr 0 (by kernel_rfl)
 have h3:=fr 3 (by kernel_rfl)
 simp only[go_sem, ↓reduceIte,Nat.reduceEqDiff,Nat.reduceAdd,Nat.reduceSub,Nat.reduceLeDiff,reduceCtorEq]at h0 h3
 clear fr
 by_cases eW:(i:Int)<(j:Int)
 ·have e1:IntKind.i64.wrap ((i:Int)+j)=((i+j:Nat):Int):=by rw[cm ah];rfl
  have hm:(i+j) / 2<l.length:=ah
  have iS:=gI hm
  have e2:IntKind.i64.wrap (((i+j:Nat):Int).tdiv 2)=(((i+j) / 2:Nat):Int):=by
   rw[Int.tdiv_eq_ediv_of_nonneg ah,cm ah];omega
  have e3:=aK (k:=(i+j) / 2) ah
  have hq:=nf (bw l ((i+j) / 2)).bD p
  cases hl:jM (bw l ((i+j) / 2)).bD p
  ·rw[hl]at hq
   (have zF:=tw @h0 (tw @h3 (tw @h5 (tw @h6 (tw @hg (tw @eW (tw @e1 (tw @e2 (tw @iS (tw @ai.eq_1 @ae.eq_1)))))))));(repeat(first|((repeat(revert N;apply Pn.out));refine wk zF ?_;(repeat(apply Pn.mk;intro N Z)))|((try apply Or.inl);refine⟨_,ay.x (hq) (sd zF),?_⟩;apply Z;clear Z N)));try clear zF)
   refine⟨_,?_,i,(i+j) / 2,rfl,ah,ah,kH,fun x h1 h2=>?_,sd @h5,sd @e2,sd (tw @hg @ae.eq_1)⟩
   ·omega
   ·by_cases OE:x=(i+j) / 2
    ·subst OE;exact hl
    ·rw[Bool.eq_false_iff]
     intro hc
     have h3:=jv (hR ((i+j) / 2) x ah h2) hc
     rw[hl]at h3;cases h3
  ·rw[hl]at hq
   (have zF:=tw @h0 (tw @h3 (tw @h5 (tw @h6 (tw @hg (tw @eW (tw @e1 (tw @e2 (tw @iS (tw @ai.eq_1 @ae.eq_1)))))))));(repeat(first|((repeat(revert N;apply Pn.out));refine wk zF ?_;(repeat(apply Pn.mk;intro N Z)))|((try apply Or.inl);refine⟨_,ay.x (hq) (sd zF),?_⟩;apply Z;clear Z N)));try clear zF)
   refine⟨_,?_,(i+j) / 2+1,j,rfl,ah,hj,fun x hx=>?_,w8,sd @e3,sd @h6,sd (tw @hg @ae.eq_1)⟩
   ·omega
   ·by_cases OE:x=(i+j) / 2
    ·subst OE;exact hl
    ·exact jv (hR x _ ah hm) hl
 ·have SY:i=j:=ah
  subst SY
  have yV:lz l p=i:=CK hj kH fun h=>w8 i (Nat.le_refl _) h
  by_cases hn:(i:Int)<(l.length:Int)
  ·have fZ:i<l.length:=ah
   have iS:=gI fZ
   by_cases hp:(bw l i).bD=p
   ·have hx:decide ((bw l i).bD.fC=p.fC)=true:=decide_eq_true (by rw[hp])
    have hy:decide ((bw l i).bD.fu=p.fu)=true:=decide_eq_true (by rw[hp])
    (try((repeat(revert N;apply Pn.out));refine wk (tw @h0 (tw @h3 (tw @h5 (tw @h6 (tw @hg (tw @eW (tw @hn (tw @iS (tw @hx (tw @hy (tw @ai.eq_1 @ae.eq_1))))))))))) ?_;(repeat(apply Pn.mk;intro N Z))))
    exact eJ (b:=(i:Int)) (.inl rfl) (sd @Nat.zero_add) (by rw[yV,if_pos ⟨fZ,hp⟩])
   ·by_cases hx:(bw l i).bD.fC=p.fC
    ·have xc:decide ((bw l i).bD.fC=p.fC)=true:=decide_eq_true hx
     have Zh:decide ((bw l i).bD.fu=p.fu)=false:=decide_eq_false fun h=>hp (zw hx h)
     (try((repeat(revert N;apply Pn.out));refine wk (tw @h0 (tw @h3 (tw @h5 (tw @h6 (tw @hg (tw @eW (tw @hn (tw @iS (tw @xc (tw @Zh (tw @ai.eq_1 @ae.eq_1))))))))))) ?_;(repeat(apply Pn.mk;intro N Z))))
     exact eJ (b:=-1) (.inl rfl) (sd @Nat.zero_add) (by rw[yV,if_neg fun h=>hp h.2])
    ·have xc:decide ((bw l i).bD.fC=p.fC)=false:=decide_eq_false hx
     (try((repeat(revert N;apply Pn.out));refine wk (tw @h0 (tw @h3 (tw @h5 (tw @h6 (tw @hg (tw @eW (tw @hn (tw @iS (tw @xc (tw @Bool.false_and (tw @ai.eq_1 @ae.eq_1))))))))))) ?_;(repeat(apply Pn.mk;intro N Z))))
     exact eJ (b:=-1) (.inl rfl) (sd @Nat.zero_add) (by rw[yV,if_neg fun h=>hp h.2])
  ·have fZ:¬i<l.length:=ah
   (try((repeat(revert N;apply Pn.out));refine wk (tw @h0 (tw @h3 (tw @h5 (tw @h6 (tw @hg (tw @eW (tw @hn (tw @ai.eq_1 @ae.eq_1)))))))) ?_;(repeat(apply Pn.mk;intro N Z))))
   exact eJ (b:=-1) (.inl rfl) (sd @Nat.zero_add) (by rw[yV,if_neg fun h=>fZ h.1])
theorem CD (l:List aa) (p:aq) (hR:ny l) (Pa:l.length<=1048576):ay Tryz.prog 38 [.dF [.sl (l.map ai)],.agg (ae p)] (.int .i64 (fQ l p)):=by
 refine ay.body fR rfl fun hl n0=>?_
 clear hl
 have hb:=oR l p hR Pa
 by_cases hi:fb l p<0
 ·rw[ae]at hb
  (repeat(first|((repeat(revert N;apply Pn.out));refine wk (tw @ae.eq_1 @hi) ?_;(repeat(apply Pn.mk;intro N Z)))|((try apply Or.inl);refine⟨_,ay.x (hb) (sd (tw @ae.eq_1 @hi)),?_⟩;apply Z;clear Z N)))
  exact eJ (b:=-1) (.inl rfl) (sd @Nat.zero_add) (by rw[fQ,if_neg ah])
 ·have h0:0<=fb l p:=ah
  have hg:=gI (ke h0).1
  rw[ae]at hb
  (have zF:=tw @ae.eq_1 (tw @hi (tw @h0 (tw @hg @ai.eq_1)));(repeat(first|((repeat(revert N;apply Pn.out));refine wk zF ?_;(repeat(apply Pn.mk;intro N Z)))|((try apply Or.inl);refine⟨_,ay.x (hb) (sd zF),?_⟩;apply Z;clear Z N)));try clear zF)
  exact eJ (b:=(bw l (fb l p).toNat).ck) (.inl rfl) (sd @Nat.zero_add) (by rw[fQ,if_pos h0])
def jf (s:aH) (l:List aa):Prop:=lP l/\∀t∈l,eY s t.ck=true
noncomputable def rZ (s:aH) (l:List aa):Bool:=pG l&&l.all fun t=>eY s t.ck
theorem nN {s:aH} {l:List aa}:rZ s l=true↔jf s l:=by simp[rZ,jf,AX]
theorem Gw:VY ai (fun c=>.agg (ai c)) 3 true:=⟨fun _=>rfl,fun _=>rfl,fun x g=>by simp only[ai,ar,ax,bH,aW,Option.map_some]⟩
theorem Kl (s:aH) (t:aa) (hs:s.au.length<=1048576):ay Tryz.prog 103 [.agg (ai t),.dF (aj s)] (.bool (!eY s t.ck)):=by
 refine ay.body fR rfl fun hl n0=>?_
 clear hl
 have h:=EX s t.ck
 rw[aj]at h
 (repeat(first|((repeat(revert N;apply Pn.out));refine wk (tw @ai.eq_1 @aj.eq_1) ?_;(repeat(apply Pn.mk;intro N Z)))|((try apply Or.inl);refine⟨_,ay.x (h) (sd (tw @ai.eq_1 @aj.eq_1)),?_⟩;apply Z;clear Z N)))
 exact cD (b:= !eY s t.ck) (.inl rfl) (sd @Nat.zero_add) rfl
theorem Qu (s:aH) (l:List aa) (hs:s.au.length<=1048576) (hl:l.length<=1048576):ay Tryz.prog 44 [.sl (l.map ai),.fn 103 [.dF (aj s)]] (.bool (l.any fun t=> !eY s t.ck)):=
 qv Gw (show FZ Tryz.prog 44=some (GR 44 66) by kernel_rfl)
  (show FZ Tryz.prog 66=some (y6 66 3 true) by kernel_rfl) l hl _ _ _ rfl (fun g=>by rw[ar,aU,ax];rfl) (fun x _=>Kl s x hs) fun g=>by rw[ar,aU,ax];rfl
theorem ON {α:Type} (p:α->Bool) (l:List α):(!l.any fun t=> !p t)=l.all p:=by
 induction l with
 |nil=>rfl
 |cons x l ih=>simp only[List.any_cons,List.all_cons,<-ih];cases p x<;>simp
theorem pw (s:aH) (l:List aa) (hn:jh s) (hg:s.bd.length<=1048576) (ht:s.au.length<=1048576) (hs:∀t∈s.au,t.ew.length<=1048576) (hl:l.length<=1048576):ay Tryz.prog 76 [.agg (aj s),.agg [.sl (l.map ai)]] (.bool (tJ s&&rZ s l)):=by
 refine ay.body fR rfl fun hl n0=>?_
 clear hl
 have h1:=Gk s hn hg ht hs
 have h2:=JJ l
 have h3:=Qu s l ht hl
 rw[aj]at h1 h3
 cases b1:tJ s
 ·rw[b1]at h1
  (repeat(first|((repeat(revert N;apply Pn.out));refine wk @aj.eq_1 ?_;(repeat(apply Pn.mk;intro N Z)))|((try apply Or.inl);refine⟨_,ay.x (h1) (sd @aj.eq_1),?_⟩;apply Z;clear Z N)))
  exact cD (b:=false) (.inl rfl) (sd @Nat.zero_add) rfl
 rw[b1]at h1
 cases b2:pG l
 ·rw[b2]at h2
  (repeat(first|((repeat(revert N;apply Pn.out));refine wk @aj.eq_1 ?_;(repeat(apply Pn.mk;intro N Z)))|((try apply Or.inl);refine⟨_,ay.x (h1) (sd @aj.eq_1),?_⟩;apply Z;clear Z N)|((try apply Or.inl);refine⟨_,ay.x (h2) (sd @aj.eq_1),?_⟩;apply Z;clear Z N)))
  exact cD (b:=false) (.inl rfl) (sd @Nat.zero_add) (by rw[rZ,b2];rfl)
 rw[b2]at h2
 (repeat(first|((repeat(revert N;apply Pn.out));refine wk @aj.eq_1 ?_;(repeat(apply Pn.mk;intro N Z)))|((try apply Or.inl);refine⟨_,ay.x (h1) (sd @aj.eq_1),?_⟩;apply Z;clear Z N)|((try apply Or.inl);refine⟨_,ay.x (h2) (sd @aj.eq_1),?_⟩;apply Z;clear Z N)|((try apply Or.inl);refine⟨_,ay.x (h3) (sd @aj.eq_1),?_⟩;apply Z;clear Z N)))
 exact cD (b:= !(l.any fun t=> !eY s t.ck)) (.inl rfl) (sd @Nat.zero_add) (by rw[ON,rZ,b2];rfl)
theorem II (s:aH) (l:List aa):ay Tryz.prog 60 [.dF (aj s),.dF [.sl (l.map ai)]] (.bool (rZ s l)):=by
 refine ay.body fR rfl fun hl n0=>?_
 have hlen:l.length<=9223372036854775807:=by
  have h1:=(hl (.dF [.sl (l.map ai)]) (by simp)).EW (a:=.sl (l.map ai)) (by simp)
  simpa using h1.len
 clear hl
 have h2:=Bp l
 cases b2:pG l
 ·rw[b2]at h2
  (repeat(first|((repeat(revert N;apply Pn.out));refine wk @Nat.zero_add ?_;(repeat(apply Pn.mk;intro N Z)))|((try apply Or.inl);refine⟨_,ay.x (h2) (sd @Nat.zero_add),?_⟩;apply Z;clear Z N)))
  exact cD (b:=false) (.inl rfl) (sd @Nat.zero_add) (by rw[rZ,b2];rfl)
 rw[b2]at h2
 (repeat(first|((repeat(revert N;apply Pn.out));refine wk @Nat.zero_add ?_;(repeat(apply Pn.mk;intro N Z)))|((try apply Or.inl);refine⟨_,ay.x (h2) (sd @Nat.zero_add),?_⟩;apply Z;clear Z N)))
 refine bz (fun n env st=>∃k:Nat,n=(l.length)-k/\k<=(l.length)/\env 5=.int .i64 (k:Int)/\(∀j:Nat,j<k->eY s (bw l j).ck=true)) (l.length) ⟨0,ah,ah,sl @Nat.zero_add,fun _ h=>absurd h (Nat.not_lt_zero _)⟩ ?_
 rintro n_a env_a st_a ⟨k,rfl,ale,a5,oz⟩ eE
 have a0:=eE 0 (by kernel_rfl);have a1:=eE 1 (by kernel_rfl)
 simp only[go_sem, ↓reduceIte,Nat.reduceEqDiff,Nat.reduceAdd,Nat.reduceSub,Nat.reduceLeDiff,reduceCtorEq]at a0 a1
 clear eE
 by_cases hk:(k:Int)<(l.length:Int)
 ·have dD:∀{e:Env},(e 5=.int .i64 (IntKind.i64.wrap ((k:Int)+1)))->(eY s (bw l k).ck=true)->∃m0,m0<(l.length)-k/\∃k:Nat,m0=(l.length)-k/\k<=(l.length)/\e 5=.int .i64 (k:Int)/\(∀j:Nat,j<k->eY s (bw l j).ck=true):=fun x1 x2=>⟨_,ah,k+1,rfl,ah,(by rw[x1,aK ah]),(all_succ oz x2)⟩
  have iO:k<l.length:=ah
  have gL:=gI iO
  have ht:=tn s (bw l k).ck
  cases b3:eY s (bw l k).ck
  ·rw[b3]at ht
   (have zF:=tw @a5 (tw @a0 (tw @a1 (tw @hk (tw @gL @ai.eq_1))));(repeat(first|((repeat(revert N;apply Pn.out));refine wk zF ?_;(repeat(apply Pn.mk;intro N Z)))|((try apply Or.inl);refine⟨_,ay.x (ht) (sd zF),?_⟩;apply Z;clear Z N)));try clear zF)
   exact cD (b:=false) (.inl rfl) (sd @Nat.zero_add) (by
    have:l.all (fun t=>eY s t.ck)=false:=List.all_eq_false.2 ⟨_,jc iO,by rw[b3];simp⟩
    rw[rZ,this,Bool.and_false])
  ·rw[b3]at ht
   (have zF:=tw @a5 (tw @a0 (tw @a1 (tw @hk (tw @gL @ai.eq_1))));(repeat(first|((repeat(revert N;apply Pn.out));refine wk zF ?_;(repeat(apply Pn.mk;intro N Z)))|((try apply Or.inl);refine⟨_,ay.x (ht) (sd zF),?_⟩;apply Z;clear Z N)));try clear zF)
   exact dD (sd (tw @a5 (tw @a0 @a1))) (b3)
 ·(try((repeat(revert N;apply Pn.out));refine wk (tw @a5 (tw @a0 (tw @a1 @hk))) ?_;(repeat(apply Pn.mk;intro N Z))))
  exact cD (b:=true) (.inl rfl) (sd @Nat.zero_add) (by
   have:l.all (fun t=>eY s t.ck)=true:=List.all_eq_true.2 fun t ht=>by
    obtain⟨j,hj,rfl⟩:=List.getElem_of_mem ht
    have:=oz j ah
    rwa [gQ hj]at this
   rw[rZ,b2,this];rfl)
theorem Av (l:List aa) (hF:lP l) (i:Nat) (d:Int) (hi:i<l.length) (hd:jm d 0 3=true):ay Tryz.prog 123 [.dF [.sl (l.map ai)],.int .i64 i,.int .i64 d] (.int .i64 (fb l (cj (bw l i).bD d))):=by
 refine ay.body fR rfl fun hl n0=>?_
 clear hl
 have hg:=gI hi
 have hp:=tF (hF.pt hi)
 have h1:=rD (bw l i).bD d hd hp.1 hp.2
 have h2:=oR l (cj (bw l i).bD d) hF.Kw (by have:=hF.wQ;omega)
 rw[ae]at h1 h2
 (have zF:=tw @ai.eq_1 (tw @hg @ae.eq_1);(repeat(first|((repeat(revert N;apply Pn.out));refine wk zF ?_;(repeat(apply Pn.mk;intro N Z)))|((try apply Or.inl);refine⟨_,ay.x (h1) (sd zF),?_⟩;apply Z;clear Z N)|((try apply Or.inl);refine⟨_,ay.x (h2) (sd zF),?_⟩;apply Z;clear Z N)));try clear zF)
 exact eJ (b:=fb l (cj (bw l i).bD d)) (.inl rfl) (sd @Nat.zero_add) rfl
end Go.Proofs.YtiabgllilcfheaaGreat.V

namespace Go.Proofs.YtiabgllilcfheaaGreat.V
open Go.RowKit
def isApp:iI->Bool
 | .append .. =>true
 |_=>false
variable {P:Program} {X:gT} {K:Env->az->Prop} {env:Env} {σ:az}
theorem RL {draw:Bool} {o:aZ} {r:List aZ} (_:isApp o.op=false) (h:∀N:AV->az->Prop,(∀v s,wpOps X draw r K (upd env o.dst v) s->N v s)->if aM o.guard env then fP X draw o env σ N else N .undef σ):wpOps X draw (o::r) K env σ:=Ub h
end Go.Proofs.YtiabgllilcfheaaGreat.V

namespace Go.Proofs.YtiabgllilcfheaaGreat.V
open Go.RowKit
def OL {α:Type} (enc:α->List AV) (sz:Nat) (g:Rows) (a:AV) (xs:List α) (ids:List Id):Prop:=
 (∃id,a=.own id 0 xs.length/\g id=some ⟨true,sz,xs.map enc⟩/\ids=[id])∨(xs=[]/\a=.sl []/\ids=[])
section
variable {α:Type} {enc:α->List AV} {sz:Nat} {g g':Rows} {a:AV} {xs:List α} {ids:List Id}
end
abbrev Od (α:Type):=Rows->List AV->α->List Id->Prop
structure DF {α:Type} (R:Od α) (sz:Nat):Prop where
 frame:∀{g g':Rows} {cs x ids},R g cs x ids->(∀i∈ids,g' i=g i)->R g' cs x ids
 len:∀{g cs x ids},R g cs x ids->cs.length=sz
 cell:∀{g cs x ids},R g cs x ids->cs.all AV.cell=true
 live:∀{g cs x ids},R g cs x ids->∀i∈ids,∃r,g i=some r/\r.w=true/\r.sz<sr
 small:sz<sr
inductive fY {α:Type} (R:Od α) (g:Rows):List (List AV)->List α->List Id->Prop
 |nil:fY R g [] [] []
 |cons {cs x i1 rs xs i2}:R g cs x i1->fY R g rs xs i2->fY R g (cs::rs) (x::xs) (i1++i2)
section
variable {α:Type} {R:Od α} {sz:Nat} {g g':Rows} {rows r1 r2:List (List AV)} {xs x1 x2:List α} {ids i1 i2:List Id}
theorem fY.len (h:fY R g rows xs ids):rows.length=xs.length:=by
 induction h with
 |nil=>rfl
 |cons _ _ ih=>simp[ih]
theorem fY.frame (ok:DF R sz) (h:fY R g rows xs ids) (hf:∀i∈ids,g' i=g i):fY R g' rows xs ids:=by
 induction h with
 |nil=>exact .nil
 |cons h1 _ ih=>exact .cons (ok.frame h1 fun i hi=>hf i (List.mem_append_left _ hi)) (ih fun i hi=>hf i (List.mem_append_right _ hi))
theorem fY.app (h1:fY R g r1 x1 i1) (h2:fY R g r2 x2 i2):fY R g (r1++r2) (x1++x2) (i1++i2):=by
 induction h1 with
 |nil=>exact h2
 |cons h _ ih=>rw[List.append_assoc];exact .cons h ih
theorem fY.one {cs:List AV} {x:α} (h:R g cs x ids):fY R g [cs] [x] ids:=by
 have:=fY.cons h fY.nil
 rwa [List.append_nil]at this
theorem fY.split (h:fY R g rows xs ids):∀k (hk:k<xs.length),∃r1 cs r2 i1 ic i2,rows=r1++cs::r2/\r1.length=k/\ids=i1++(ic++i2)/\fY R g r1 (xs.take k) i1/\R g cs xs[k] ic/\fY R g r2 (xs.drop (k+1)) i2:=by
 induction h with
 |nil=>intro k hk;simp at hk
 |cons h1 h2 ih=>
  rename_i cs x j1 rs xs j2
  intro k hk
  cases k with
  |zero=>exact⟨[],cs,rs,[],j1,j2,rfl,rfl,rfl,.nil,h1,h2⟩
  |succ k=>
   obtain⟨r1,ub,r2,i1,ic,i2,rfl,hl,rfl,h3,h4,h5⟩:=ih k (by simpa using hk)
   exact⟨cs::r1,ub,r2,j1++i1,ic,i2,rfl,by simp[hl],by rw[List.append_assoc],.cons h1 h3,h4,h5⟩
theorem fY.at_ (h:fY R g rows xs ids) (k:Nat) (hk:k<xs.length):∃cs ic,rows[k]? =some cs/\R g cs xs[k] ic/\∀i∈ic,i∈ids:=by
 obtain⟨r1,cs,r2,i1,ic,i2,rfl,hl,rfl,h3,h4,h5⟩:=h.split k hk
 refine⟨cs,ic,by rw[List.getElem?_append_right ah];simp[hl],h4,fun i hi=>by simp[hi]⟩
theorem fY.fz {n:Nat} {e:α->List AV} (h:fY R g rows xs ids) (hz:∀{cs x ids},R g cs x ids->eI (eL g) n cs=some (e x)):fj (eL g) n rows=some (xs.map e):=by
 induction h with
 |nil=>rw[fj];rfl
 |cons h1 _ ih=>rw[fj,hz h1,ih];rfl
end
section
variable {α:Type} {R:Od α} {sz:Nat} {g g':Rows} {a:AV} {xs:List α} {ids:List Id}
end
variable {P:Program} {X:gT} {K:Env->az->Prop} {env:Env} {σ:az}
def ot {α:Type} (enc:α->List AV) (sz:Nat) (x:AV) (g:Rows) (S:Id->Prop) (L:List α):Prop:=∃o:Id,S o/\x=.own o 0 L.length/\g o=some ⟨true,sz,L.map enc⟩
section
variable {α:Type} {enc:α->List AV} {sz:Nat} {x:AV} {g g':Rows} {S:Id->Prop} {L L':List α}
theorem ot.cast (h:ot enc sz x g S L) (hL:L'=L):ot enc sz x g S L':=by subst hL;exact h
theorem ot.frame (h:ot enc sz x g S L) (hg:∀o:Id,S o->g' o=g o):ot enc sz x g' S L:=by
 obtain⟨o,h1,h2,h3⟩:=h
 exact⟨o,h1,h2,(hg o h1).trans h3⟩
theorem ot.app (hz:∀a,(enc a).length=sz/\(enc a).all AV.cell=true) (h:ot enc sz x g S L) (id:Id) (hid:S id) (M:List α) (hlen:L.length+M.length<=dL):
  ∃v g',aY g id sz x (M.map enc)=some (v,g')/\ot enc sz v g' S (L++M)/\∀j:Id,¬S j->g' j=g j:=by
 obtain⟨o,h1,rfl,h4⟩:=h
 refine⟨.own id 0 (L.length+(M.map enc).length),bL (cu g o) id ⟨true,sz,L.map enc++M.map enc⟩,?_,⟨id,hid,by simp,by simp[bL]⟩,fun j hj=>?_⟩
 ·have ha:=all_map (l:=M) hz
  simp only[aY,h4,Option.bind_some]
  rw[if_pos ⟨trivial,trivial,by simp,by simpa using hlen,ha⟩]
 ·have e1:¬j=id:=fun h=>hj (h▸hid)
  have e2:¬j=o:=fun h=>hj (h▸h1)
  simp[bL,cu,e1,e2]
theorem T9 {draw:Bool} {o:aZ} {r:List aZ} {x' y:O} {xv:AV} (M:List α) (ho:o.op=.append sz x' y) (hw:aM o.guard env=true) (hx:du env x'=xv) (hO:ot enc sz xv σ.get S L)
  (hy:bF σ.get (du env y)=some (M.map enc)) (hz:∀a,(enc a).length=sz/\(enc a).all AV.cell=true) (hid:S ⟨o.site,σ.next⟩) (hlen:L.length+M.length<=dL)
  (next:∀v g',ot enc sz v g' S (L++M)->(∀j:Id,¬S j->g' j=σ.get j)->wpOps X draw r K (upd env o.dst v) ⟨g',σ.next⟩):wpOps X draw (o::r) K env σ:=by
 obtain⟨v,g',h1,h2,h3⟩:=hO.app hz ⟨o.site,σ.next⟩ hid M hlen
 unfold wpOps
 rw[if_pos hw]
 unfold fP
 simp only[ho,fX,hy,hx,Option.bind_some,h1]
 exact next v g' h2 h3
theorem ot.iq {n:Nat} (h:ot enc sz x g S L) (he:∀a,fm g n (enc a)=some (enc a)):iq g (n+1) x=some (.sl (L.map enc)):=by
 obtain⟨o,_,rfl,h3⟩:=h
 exact eP h3 rfl he
end
theorem dP {a b:Id} (h:a.bj<b.bj):(a=b)=False/\(b=a)=False:=by
 constructor<;>(simp only[eq_iff_iff,iff_false];rintro rfl;omega)
theorem C5 {o:Id} {a:Nat} (h:o.site=a) {b v:Nat} (qa:(a==b)=false):(o=⟨b,v⟩)=False:=by
 simp only[eq_iff_iff,iff_false]
 rintro rfl
 simp only at h
 subst h
 simp at qa
def eN (n:Nat):List AV:=[.int .i64 n]
theorem fzN (g:Rows) (n:Nat) (a:Nat):eI g (n+1) (eN a)=some (eN a):=by simp[eN,ar,ax,aW]
theorem Ss (g:Rows) (n:Nat) (a:Nat):fm g (n+1) (eN a)=some (eN a):=by simp[eN,bc,bY,dG]
def Vn:Od (List Nat):=fun g cs x ids=>∃id,cs=[.own id 0 x.length]/\g id=some ⟨true,1,x.map eN⟩/\ids=[id]
theorem TC:DF Vn 1 where
 frame:=fun⟨id,h1,h2,h3⟩ hf=>by subst h3;exact⟨id,h1,(hf id (by simp)).trans h2,rfl⟩
 len:=fun⟨id,h1,_⟩=>by subst h1;rfl
 cell:=fun⟨id,h1,_⟩=>by subst h1;rfl
 live:=fun⟨id,h1,h2,h3⟩ i hi=>by
  subst h3
  have:i=id:=by simpa using hi
  subst this
  exact⟨_,h2,rfl,by simp[sr]⟩
 small:=by simp[sr]
def Dq (l:List Nat):List AV:=[.sl (l.map eN)]
theorem MI {g:Rows} {rows:List (List AV)} {xs:List (List Nat)} {ids:List Id} (n:Nat) (h:fY Vn g rows xs ids):iz g (n+2) rows=some (xs.map Dq):=by
 induction h with
 |nil=>rw[iz];rfl
 |cons h1 _ ih=>
  obtain⟨id,rfl,h2,_⟩:=h1
  rw[iz,ih,bc,bY,eP (e:=eN) (sz:=1) h2 rfl fun a=>Ss g n a];rfl
end Go.Proofs.YtiabgllilcfheaaGreat.V

namespace Go.Proofs.YtiabgllilcfheaaGreat.V
def bi (b:Bool):Int:=if b then 1 else 0
def nI (f:Nat->Int):Nat->Int
 |0=>0
 |n+1=>nI f n+f n
theorem jo {f g:Nat->Int}:∀{n:Nat},(∀i,i<n->f i=g i)->nI f n=nI g n
 |0,_=>rfl
 |n+1,h=>by
  simp only[nI]
  rw[jo fun i hi=>h i ah,h n ah]
theorem uV {f g:Nat->Int}:∀{n:Nat},(∀i,i<n->f i<=g i)->nI f n<=nI g n
 |0,_=>Int.le_refl _
 |n+1,h=>by
  simp only[nI]
  have:=uV (n:=n) fun i hi=>h i ah
  have:=h n ah
  omega
theorem k9:∀{n:Nat} {f:Nat->Int},(∀i,i<n->f i=0)->nI f n=0
 |0,_,_=>rfl
 |n+1,f,h=>by
  simp only[nI]
  rw[k9 fun i hi=>h i ah,h n ah];rfl
theorem rU {f:Nat->Int} {a:Nat} {d:Int}:∀n,nI (fun i=>f i+if i=a then d else 0) n=nI f n+if a<n then d else 0
 |0=>by simp[nI]
 |n+1=>by
  simp only[nI]
  rw[rU n]
  by_cases h:n=a
  ·subst h;simp;omega
  ·rw[if_neg h]
   by_cases h2:a<n
   ·rw[if_pos h2,if_pos ah];omega
   ·rw[if_neg h2,if_neg ah];omega
def nQ (n:Nat) (S:Nat->Bool) (f:Nat->Nat->Int):Int:=nI (fun u=>nI (fun v=>if S u&& !S v then f u v else 0) n) n
def bump (f:Nat->Nat->Int) (a b:Nat) (d:Int):Nat->Nat->Int:=fun u v=>f u v+if u=a/\v=b then d else 0
theorem rn {n:Nat} {S:Nat->Bool} {f:Nat->Nat->Int} {a b:Nat} {d:Int} (ha:a<n) (hb:b<n):nQ n S (bump f a b d)=nQ n S f+if S a&& !S b then d else 0:=by
 unfold nQ
 have h1:∀u,u<n->nI (fun v=>if S u&& !S v then bump f a b d u v else 0) n=nI (fun v=>if S u&& !S v then f u v else 0) n+if u=a then(if S a&& !S b then d else 0)else 0:=by
  intro u hu
  by_cases h:u=a
  ·subst h
   have h2:∀v,v<n->(if S u&& !S v then bump f u b d u v else 0)=(fun v=>if S u&& !S v then f u v else 0) v+if v=b then(if S u&& !S b then d else 0)else 0:=by
    intro v hv
    unfold bump
    by_cases h3:v=b
    ·subst h3;simp only[and_self,if_true];split<;>omega
    ·simp only[h3,and_false,if_false];split<;>omega
   rw[jo h2,rU,if_pos hb,if_pos rfl]
  ·rw[if_neg h,Int.add_zero]
   refine jo fun v hv=>?_
   unfold bump
   simp[h]
 rw[jo h1,rU,if_pos ha]
theorem O1 {n:Nat} {S:Nat->Bool} {f c:Nat->Nat->Int} (h:∀u v,u<n->v<n->f u v<=c u v):nQ n S f<=nQ n S c:=
 uV fun u hu=>uV fun v hv=>by split;exact h u v hu hv;exact Int.le_refl _
theorem O0 {n:Nat} {S:Nat->Bool} {f c:Nat->Nat->Int} (h:∀u v,u<n->v<n->S u=true->S v=false->f u v=c u v):nQ n S f=nQ n S c:=
 jo fun u hu=>jo fun v hv=>by
  split
  ·rename_i hc
   simp only[Bool.and_eq_true,Bool.not_eq_true']at hc
   exact h u v hu hv hc.1 hc.2
  ·rfl
def lR (f:Nat->Nat->Int) (a b:Nat):Nat->Nat->Int:=bump (bump f a b 1) b a (-1)
theorem Js {n:Nat} {S:Nat->Bool} {f:Nat->Nat->Int} {a b:Nat} (ha:a<n) (hb:b<n):nQ n S (lR f a b)=nQ n S f+bi (S a)-bi (S b):=by
 unfold lR
 rw[rn hb ha,rn ha hb]
 cases S a<;>cases S b<;>simp[bi]<;>omega
def nO (f:Nat->Nat->Int):List Nat->Nat->Nat->Int
 |a::b::r=>nO (lR f a b) (b::r)
 |_=>f
def tP (f c:Nat->Nat->Int):List Nat->Prop
 |a::b::r=>f a b<c a b/\tP f c (b::r)
 |_=>True
theorem DU {n:Nat} {S:Nat->Bool}:∀(r:List Nat) (a:Nat) (f:Nat->Nat->Int),(∀x∈a::r,x<n)->nQ n S (nO f (a::r))=nQ n S f+bi (S a)-bi (S ((a::r).getLast (by simp)))
 |[],a,f,_=>by simp[nO]
 |b::r,a,f,h=>by
  rw[nO,DU r b (lR f a b) fun x hx=>h x (List.mem_cons_of_mem _ hx),Js (h a (by simp)) (h b (by simp)),List.getLast_cons_cons]
  generalize bi (S b)=q
  omega
theorem tP.less {f g c:Nat->Nat->Int}:∀{p:List Nat},tP f c p->(∀u,u∈p->∀v,g u v<=f u v)->tP g c p
 |[],_,_=>trivial
 |[_],_,_=>trivial
 |a::b::r,h,hl=>⟨Int.lt_of_le_of_lt (hl a (by simp) b) h.1,tP.less (p:=b::r) h.2 fun u hu=>hl u (List.mem_cons_of_mem _ hu)⟩
theorem H4 {n:Nat} {c:Nat->Nat->Int}:∀(p:List Nat) (f:Nat->Nat->Int),p.Nodup->tP f c p->(∀u v,u<n->v<n->f u v<=c u v)->∀u v,u<n->v<n->nO f p u v<=c u v
 |[],f,_,_,h=>h
 |[_],f,_,_,h=>h
 |a::b::r,f,hn,hr,h=>by
  rw[nO]
  have qa:a∉b::r:=(List.nodup_cons.1 hn).1
  refine H4 (b::r) _ (List.nodup_cons.1 hn).2 (hr.2.less fun u hu v=>?_) fun u v hu hv=>?_
  ·unfold lR bump
   have:u≠a:=by rintro rfl;exact qa hu
   simp only[this,false_and,if_false]
   split<;>omega
  ·have h0:=h u v hu hv
   have h1:=hr.1
   unfold lR bump
   by_cases e:u=a/\v=b
   ·obtain⟨rfl,rfl⟩:=e
    rw[if_pos ⟨rfl,rfl⟩];split<;>omega
   ·rw[if_neg e];split<;>omega
structure pk (n:Nat) (c f:Nat->Nat->Int) (x y:Nat) (val:Int):Prop where
 le:∀u v,u<n->v<n->f u v<=c u v
 cut:∀S:Nat->Bool,S x=true->S y=false->nQ n S f=val
theorem pk.zero {n:Nat} {c:Nat->Nat->Int} {x y:Nat} (h:∀u v,u<n->v<n->0<=c u v):pk n c (fun _ _=>0) x y 0:=
 ⟨h,fun S _ _=>k9 fun u hu=>k9 fun v hv=>by split<;>rfl⟩
theorem pk.aug {n:Nat} {c f:Nat->Nat->Int} {x y:Nat} {val:Int} (h:pk n c f x y val) {r:List Nat} (hl:(x::r).getLast (by simp)=y) (hn:(x::r).Nodup) (hr:tP f c (x::r)) (hb:∀v∈x::r,v<n):pk n c (nO f (x::r)) x y (val+1):=
 ⟨H4 _ _ hn hr h.le,fun S hx hy=>by rw[DU r x f hb,hl,h.cut S hx hy,hx,hy];simp[bi]⟩
theorem pk.bound {n:Nat} {c f:Nat->Nat->Int} {x y:Nat} {val:Int} (h:pk n c f x y val) {S:Nat->Bool} (hx:S x=true) (hy:S y=false):val<=nQ n S c:=by
 rw[<-h.cut S hx hy];exact O1 h.le
theorem pk.full {n:Nat} {c f:Nat->Nat->Int} {x y:Nat} {val:Int} (h:pk n c f x y val) {S:Nat->Bool} (hx:S x=true) (hy:S y=false) (hS:∀u v,u<n->v<n->S u=true->S v=false->¬f u v<c u v):val=nQ n S c:=by
 rw[<-h.cut S hx hy]
 exact O0 fun u v hu hv h1 h2=>by have:=hS u v hu hv h1 h2;have:=h.le u v hu hv;omega
structure PB where
 a:Nat
 b:Nat
 s:Int
 deriving Inhabited
def dq (bs:List PB) (i:Nat):PB:=bs.getD i default
def jY (S:Nat->Bool) (bs:List PB):Int:=(bs.map fun b=>if S b.a=S b.b then 0 else b.s).sum
def pP (c:Nat->Nat->Int) (b:PB):Nat->Nat->Int:=bump (bump c b.a b.b b.s) b.b b.a b.s
def mA (bs:List PB):Nat->Nat->Int:=bs.foldl pP fun _ _=>0
theorem Hx (bs:List PB) (b:PB):mA (bs++[b])=pP (mA bs) b:=by simp[mA]
theorem Ea {n:Nat} {S:Nat->Bool}:∀(bs:List PB) (c:Nat->Nat->Int),(∀b∈bs,b.a<n/\b.b<n)->nQ n S (bs.foldl pP c)=nQ n S c+jY S bs
 |[],c,_=>by simp[jY]
 |b::bs,c,h=>by
  have hb:=h b (by simp)
  rw[List.foldl_cons,Ea bs _ fun x hx=>h x (List.mem_cons_of_mem _ hx)]
  unfold pP jY
  rw[rn hb.2 hb.1,rn hb.1 hb.2,List.map_cons,List.sum_cons]
  cases S b.a<;>cases S b.b<;>simp<;>omega
theorem Eb {n:Nat} {S:Nat->Bool} {bs:List PB} (h:∀b∈bs,b.a<n/\b.b<n):nQ n S (mA bs)=jY S bs:=by
 rw[mA,Ea bs _ h]
 have:nQ n S (fun _ _=>0)=0:=k9 fun u hu=>k9 fun v hv=>by split<;>rfl
 omega
theorem C1:∀(bs:List PB) (c:Nat->Nat->Int),(∀b∈bs,0<=b.s)->(∀u v,0<=c u v)->∀u v,0<=bs.foldl pP c u v
 |[],c,_,h=>h
 |b::bs,c,hb,h=>by
  rw[List.foldl_cons]
  refine C1 bs _ (fun x hx=>hb x (List.mem_cons_of_mem _ hx)) fun u v=>?_
  have:=hb b (by simp);have:=h u v
  unfold pP bump
  split<;>split<;>omega
theorem room_le:∀(bs:List PB) (c:Nat->Nat->Int) (m:Int),(∀b∈bs,b.s<=4)->(∀u v,c u v<=m)->0<=m->∀u v,bs.foldl pP c u v<=m+8*bs.length
 |[],c,m,_,h,_=>fun u v=>by have:=h u v;simp;omega
 |b::bs,c,m,hb,h,h0=>fun u v=>by
  rw[List.foldl_cons]
  have:=room_le bs (pP c b) (m+8) (fun x hx=>hb x (List.mem_cons_of_mem _ hx)) (fun u v=>by
   have:=hb b (by simp);have:=h u v
   unfold pP bump
   split<;>split<;>omega) ah u v
  simp only[List.length_cons];omega
def l9 (n:Nat) (bs:List PB) (t:Int):Prop:=∀S:Nat->Bool,S 0=true->(∃y,y<n/\S y=false)->t<=jY S bs
def Jq (S:Nat->Bool) (bs:List PB) (f:Nat->Int):Int:=nI (fun i=>f i*(bi (S (dq bs i).a)-bi (S (dq bs i).b))) bs.length
structure ll (bs:List PB) (f:Nat->Int) (x y:Nat) (val:Int):Prop where
 le:∀i,i<bs.length->f i<=(dq bs i).s/\-(dq bs i).s<=f i
 cut:∀S:Nat->Bool,S x=true->S y=false->Jq S bs f=val
theorem yE (S:Nat->Bool):∀bs:List PB,jY S bs=nI (fun i=>if S (dq bs i).a=S (dq bs i).b then 0 else(dq bs i).s) bs.length:=by
 intro bs
 have key:∀n,n<=bs.length->jY S (bs.take n)=nI (fun i=>if S (dq bs i).a=S (dq bs i).b then 0 else(dq bs i).s) n:=by
  intro n
  induction n with
  |zero=>intro _;rfl
  |succ n ih=>
   intro h
   have e:dq bs n=bs[n]:=by simp[dq,List.getD_eq_getElem?_getD,List.getElem?_eq_getElem (show n<bs.length by omega)]
   rw[List.take_succ_eq_append_getElem ah,nI,<-ih ah,e]
   unfold jY
   rw[List.map_append,List.sum_append]
   simp only[List.map_cons,List.map_nil,List.sum_cons,List.sum_nil,Int.add_zero]
 have:=key bs.length (Nat.le_refl _)
 rwa [List.take_length]at this
theorem ll.bound {bs:List PB} {f:Nat->Int} {x y:Nat} {val:Int} (h:ll bs f x y val) {S:Nat->Bool} (hx:S x=true) (hy:S y=false):val<=jY S bs:=by
 rw[<-h.cut S hx hy,yE]
 refine uV fun i hi=>?_
 have:=h.le i hi
 cases S (dq bs i).a<;>cases S (dq bs i).b<;>simp[bi]<;>omega
def gV (bs:List PB) (f:Nat->Int) (i u:Nat):Int:=if (dq bs i).a=u then(dq bs i).s-f i else(dq bs i).s+f i
def dj (bs:List PB) (i u:Nat):Nat:=if (dq bs i).a=u then(dq bs i).b else(dq bs i).a
theorem ll.full {bs:List PB} {f:Nat->Int} {x y:Nat} {val:Int} (h:ll bs f x y val) {S:Nat->Bool} (hx:S x=true) (hy:S y=false)
  (hS:∀i,i<bs.length->((dq bs i).a≠(dq bs i).b->(S (dq bs i).a=true->S (dq bs i).b=false->¬0<gV bs f i (dq bs i).a)/\(S (dq bs i).b=true->S (dq bs i).a=false->¬0<gV bs f i (dq bs i).b))):val=jY S bs:=by
 rw[<-h.cut S hx hy,yE]
 refine jo fun i hi=>?_
 have h1:=h.le i hi
 by_cases qa:(dq bs i).a=(dq bs i).b
 ·rw[qa];simp
 ·have h2:=hS i hi qa
  unfold gV at h2
  rw[if_pos rfl,if_neg qa]at h2
  cases ha:S (dq bs i).a<;>cases hb:S (dq bs i).b<;>rw[ha,hb]at h2<;>simp[bi]at h2 ⊢ <;>omega
def xl (bs:List PB) (f:Nat->Int) (i u:Nat):Nat->Int:=fun j=>f j+if j=i then(if (dq bs i).a=u then 1 else -1)else 0
theorem Jr {S:Nat->Bool} {bs:List PB} {f:Nat->Int} {i u:Nat} (hi:i<bs.length) (hu:(dq bs i).a=u∨(dq bs i).b=u):Jq S bs (xl bs f i u)=Jq S bs f+bi (S u)-bi (S (dj bs i u)):=by
 unfold Jq xl
 have e:∀j,j<bs.length->(f j+if j=i then(if (dq bs i).a=u then 1 else -1)else 0)*(bi (S (dq bs j).a)-bi (S (dq bs j).b))=(fun j=>f j*(bi (S (dq bs j).a)-bi (S (dq bs j).b))) j+if j=i then(if (dq bs i).a=u then 1 else -1)*(bi (S (dq bs i).a)-bi (S (dq bs i).b))else 0:=by
  intro j hj
  by_cases h:j=i
  ·subst h;simp only[if_true];rw[Int.add_mul]
  ·simp only[h,if_false];simp
 rw[jo e,rU,if_pos hi]
 unfold dj
 by_cases ha:(dq bs i).a=u
 ·rw[if_pos ha,if_pos ha,ha];omega
 ·rw[if_neg ha,if_neg ha]
  rcases hu with hu|hu
  ·exact absurd hu ha
  ·rw[hu];omega
theorem qO:∀(n:Nat) (l:List Nat),l.Nodup->(∀x∈l,x<n)->l.length<=n
 |0,l,_,h=>by
  cases l with
  |nil=>simp
  |cons x l=>exact absurd (h x (by simp)) ah
 |n+1,l,hn,h=>by
  have h1:=qO n (l.erase n) (hn.erase _) fun x hx=>by
   have h2:=(hn.mem_erase_iff).1 hx
   have h3:=h x h2.2
   have h4:=h2.1
   omega
  rw[List.length_erase]at h1
  split at h1<;>omega
def fH (L:Nat->Nat) (b:PB):Nat->Nat:=fun k=>if L k=max (L b.a) (L b.b)then min (L b.a) (L b.b)else L k
def ft (bs:List PB):Nat->Nat:=bs.foldl fH id
theorem y9 (bs:List PB) (b:PB):ft (bs++[b])=fH (ft bs) b:=by simp[ft]
structure kE (L:Nat->Nat):Prop where
 le:∀k,L k<=k
 idem:∀k,L (L k)=L k
theorem kE.step {L:Nat->Nat} (h:kE L) (b:PB):kE (fH L b):=by
 have ha:=h.idem b.a
 have hb:=h.idem b.b
 refine⟨fun k=>?_,fun k=>?_⟩
 ·have:=h.le k
  unfold fH
  split<;>omega
 ·have hk:=h.idem k
  have hm:L (min (L b.a) (L b.b))=min (L b.a) (L b.b):=by
   rcases Nat.le_total (L b.a) (L b.b)with h1|h1
   ·rw[Nat.min_eq_left h1,ha]
   ·rw[Nat.min_eq_right h1,hb]
  unfold fH
  by_cases h1:L k=max (L b.a) (L b.b)
  ·rw[if_pos h1,hm];split<;>rfl
  ·rw[if_neg h1,hk,if_neg h1]
theorem zb:∀(bs:List PB) (L:Nat->Nat),kE L->kE (bs.foldl fH L)
 |[],_,h=>h
 |b::bs,L,h=>zb bs _ (h.step b)
theorem xg (bs:List PB):kE (ft bs):=zb bs id ⟨fun _=>Nat.le_refl _,fun _=>rfl⟩
def leads (n:Nat) (L:Nat->Nat):List Nat:=(List.range n).filter fun i=>L i==i
def members (n:Nat) (L:Nat->Nat) (i:Nat):List Nat:=(List.range n).filter fun k=>L k==i
def gN (n:Nat) (L:Nat->Nat):List (List Nat):=(leads n L).map (members n L)
def di (L:Nat->Nat) (k:Nat):Nat:=(leads (L k) L).length
theorem iW (n:Nat) (L:Nat->Nat):leads (n+1) L=leads n L++if L n=n then[n]else[]:=by
 unfold leads
 rw[List.range_succ,List.filter_append]
 congr 1
 by_cases h:L n=n<;>simp[h]
theorem kh (n:Nat) (L:Nat->Nat) (i:Nat):members (n+1) L i=members n L i++if L n=i then[n]else[]:=by
 unfold members
 rw[List.range_succ,List.filter_append]
 congr 1
 by_cases h:L n=i<;>simp[h]
theorem oV {L:Nat->Nat} (h:kE L) {n i:Nat} (hn:n<=i):members n L i=[]:=by
 unfold members
 rw[List.filter_eq_nil_iff]
 intro k hk
 have:=h.le k
 have:=List.mem_range.1 hk
 simp;omega
theorem xh (n:Nat) (L:Nat->Nat):(leads n L).Nodup:=List.nodup_range.filter _
theorem Bt {n:Nat} {L:Nat->Nat} {i:Nat}:i∈leads n L↔i<n/\L i=i:=by simp[leads]
theorem nq {n:Nat} {L:Nat->Nat} {i k:Nat}:k∈members n L i↔k<n/\L k=i:=by simp[members]
theorem Kf {L:Nat->Nat} {m n:Nat} (h:m<=n):∃r,leads n L=leads m L++r:=by
 obtain⟨d,rfl⟩:=Nat.le.dest h
 clear h
 induction d with
 |zero=>exact⟨[],by simp⟩
 |succ d ih=>
  obtain⟨r,hr⟩:=ih
  exact⟨r++if L (m+d)=m+d then[m+d]else[],by rw[<-Nat.add_assoc,iW,hr,List.append_assoc]⟩
theorem rF {L:Nat->Nat} (h:kE L) {n k:Nat} (hk:k<n):(leads n L)[di L k]? =some (L k):=by
 have h1:=h.le k
 obtain⟨r,hr⟩:=Kf (L:=L) (show L k+1<=n by omega)
 rw[hr,iW,if_pos (h.idem k),List.append_assoc]
 unfold di
 rw[List.getElem?_append_right (Nat.le_refl _),Nat.sub_self];rfl
theorem lD {L:Nat->Nat} (h:kE L) {n k:Nat} (hk:k<n):di L k<(leads n L).length:=(List.getElem?_eq_some_iff.1 (rF h hk)).1
theorem wu {L:Nat->Nat} (h:kE L) {n k i:Nat} (hk:k<n) (hi:i<(leads n L).length):k∈members n L (leads n L)[i]↔di L k=i:=by
 rw[nq]
 have h1:=rF h hk
 rw[List.getElem?_eq_getElem (lD h hk)]at h1
 injection h1 with h1
 constructor
 ·rintro⟨_,h2⟩
  rw[<-h1]at h2
  exact(List.getElem_inj (xh n L)).1 h2
 ·rintro rfl
  exact⟨hk,h1.symm⟩
def eF (L:Nat->Nat) (bs:List PB):List PB:=bs.filterMap fun b=>if di L b.a=di L b.b then none else some ⟨di L b.a,di L b.b,b.s⟩
def gj (L:Nat->Nat) (bs:List PB):List PB:=bs.filterMap fun b=>if di L b.a=di L b.b then none else some ⟨min (di L b.a) (di L b.b),max (di L b.a) (di L b.b),b.s⟩
theorem C3 (L:Nat->Nat) (bs:List PB) (b:PB):eF L (bs++[b])=eF L bs++if di L b.a=di L b.b then[]else[⟨di L b.a,di L b.b,b.s⟩]:=by
 unfold eF
 rw[List.filterMap_append]
 congr 1
 by_cases h:di L b.a=di L b.b<;>simp[h]
theorem C4 (L:Nat->Nat) (bs:List PB) (b:PB):gj L (bs++[b])=gj L bs++if di L b.a=di L b.b then[]else[⟨min (di L b.a) (di L b.b),max (di L b.a) (di L b.b),b.s⟩]:=by
 unfold gj
 rw[List.filterMap_append]
 congr 1
 by_cases h:di L b.a=di L b.b<;>simp[h]
theorem vQ (S:Nat->Bool) (b:PB) (bs:List PB):jY S (b::bs)=(if S b.a=S b.b then 0 else b.s)+jY S bs:=by simp[jY]
theorem AQ (S:Nat->Bool) (L:Nat->Nat):∀bs:List PB,jY S (gj L bs)=jY S (eF L bs)
 |[]=>rfl
 |b::bs=>by
  have ih:=AQ S L bs
  unfold gj eF at ih ⊢
  rw[List.filterMap_cons,List.filterMap_cons]
  by_cases h:di L b.a=di L b.b
  ·simp only[h,if_true];exact ih
  ·simp only[h,if_false]
   rw[vQ,vQ,ih]
   congr 1
   simp only
   rcases Nat.le_total (di L b.a) (di L b.b)with h1|h1
   ·rw[Nat.min_eq_left h1,Nat.max_eq_right h1]
   ·rw[Nat.min_eq_right h1,Nat.max_eq_left h1]
    cases S (di L b.a)<;>cases S (di L b.b)<;>rfl
theorem HC {L:Nat->Nat} (h:kE L) {n:Nat} {bs:List PB} (hb:∀b∈bs,b.a<n/\b.b<n):∀b∈eF L bs,b.a<(leads n L).length/\b.b<(leads n L).length/\b.a≠b.b/\∃c∈bs,b.s=c.s:=by
 intro b hm
 unfold eF at hm
 obtain⟨c,hc,he⟩:=List.mem_filterMap.1 hm
 split at he
 ·cases he
 ·rename_i ig
  simp only[Option.some.injEq]at he
  subst he
  exact⟨lD h (hb c hc).1,lD h (hb c hc).2,ig,c,hc,rfl⟩
theorem HD {L:Nat->Nat} (h:kE L) {n:Nat} {bs:List PB} (hb:∀b∈bs,b.a<n/\b.b<n):∀b∈gj L bs,b.a<(leads n L).length/\b.b<(leads n L).length/\b.a≠b.b/\∃c∈bs,b.s=c.s:=by
 intro b hm
 unfold gj at hm
 obtain⟨c,hc,he⟩:=List.mem_filterMap.1 hm
 split at he
 ·cases he
 ·rename_i ig
  simp only[Option.some.injEq]at he
  subst he
  have h1:=lD h (hb c hc).1
  have h2:=lD h (hb c hc).2
  refine⟨by simp only;omega,by simp only;omega,by simp only;omega,c,hc,rfl⟩
theorem pe (L:Nat->Nat) (bs:List PB):(eF L bs).length<=bs.length/\(gj L bs).length<=bs.length:=⟨List.length_filterMap_le ..,List.length_filterMap_le ..⟩
theorem kQ (n:Nat) (L:Nat->Nat):(leads n L).length<=n:=by
 have:=List.length_filter_le (fun i=>L i==i) (List.range n)
 simpa[leads]using this
def bx (t:Int) (bs:List PB):List PB:=bs.filter fun b=>decide (t<=b.s)
def rh (n:Nat) (bs:List PB) (t:Int):Prop:=
 (leads n (ft (bx t bs))).length<=64/\l9 (leads n (ft (bx t bs))).length (eF (ft (bx t bs)) bs) t
theorem G2 {n:Nat} {L:Nat->Nat} {bs:List PB} {t:Int}:l9 n (gj L bs) t↔l9 n (eF L bs) t:=by
 unfold l9
 constructor<;>intro h S h0 hy<;>have:=h S h0 hy<;>rw[AQ]at *<;>exact this
end Go.Proofs.YtiabgllilcfheaaGreat.V

namespace Go.Proofs.YtiabgllilcfheaaGreat.V
open Go.RowKit
attribute [local irreducible] eC wpOps gi Call
attribute [local go_sem] aM fP fa fX fW du upd cz K.av cP AV.cells AV.cell rowOf rowsOf part ld rowAt bL cu dK eb gK bP de eu fS fq dx ef db da dR dS bU bf cU bR cW cV dW eh ee cR bW dd ec bQ aL cY cH gJ bF cL bV aY dr bq dL AV.undef bJ bK dV dY dQ dU cK er ez cF ej ei cX cZ List.getD_cons_zero List.getD_cons_succ List.getD_nil List.all_cons List.all_nil Bool.and_true Bool.true_and Bool.and_self Bool.not_true Bool.not_false Option.map_some Option.map_none Option.bind_some Option.bind_none List.length_cons List.length_nil List.take_succ_cons List.take_zero List.take_nil List.drop_succ_cons List.drop_zero List.drop_nil List.head?_cons List.map_cons List.map_nil List.getElem?_cons_zero List.getElem?_cons_succ List.cons_append List.nil_append List.append_nil List.length_map List.set_cons_zero List.set_cons_succ Nat.reduceMul eq_self Int.toNat_natCast Int.natCast_nonneg and_self true_and and_true decide_true decide_false Bool.false_eq_true Nat.zero_add Nat.add_zero List.contains_cons List.contains_nil Bool.or_false Bool.false_or beq_self_eq_true Nat.reduceBEq ne_eq not_true_eq_false not_false_eq_true Id.mk.injEq false_and and_false Nat.reduceLT Int.reduceLE Int.reduceLT Int.reduceToNat Int.reduceNeg Int.reduceAdd Nat.le_refl List.length_append beq_true beq_false Bool.not_eq_eq_eq_not or_false false_or eL ar ax aW bp bZ cw aV bH aU bh cQ bI
def aP (b:PB):List AV:=[.int .i64 b.a,.int .i64 b.b,.int .i64 b.s]
theorem RN:∀b:PB,(aP b).length=3/\(aP b).all AV.cell=true:=fun _=>⟨rfl,rfl⟩
theorem Cl (g:Rows) (n:Nat) (b:PB):eI g (n+1) (aP b)=some (aP b):=by simp[aP,ar,ax,aW]
theorem xU (g:Rows) (n:Nat) (b:PB):fm g (n+1) (aP b)=some (aP b):=by simp[aP,bc,bY,dG]
theorem LK:VY aP (fun c=>.agg (aP c)) 3 true:=⟨fun _=>rfl,fun _=>rfl,fun x g=>by simp only[aP,ar,ax,bH,aW,Option.map_some]⟩
def oE (s:aH) (l:List aa) (i:Nat) (d:Int):List PB:=
 if 0<=fb l (cj (bw l i).bD d)/\0<iL s (bw l i).ck d (bw l (fb l (cj (bw l i).bD d)).toNat).ck then
  [⟨i,(fb l (cj (bw l i).bD d)).toNat,iL s (bw l i).ck d (bw l (fb l (cj (bw l i).bD d)).toNat).ck⟩]else[]
def iy (s:aH) (l:List aa) (i m:Nat):List PB:=(List.range m).flatMap fun j:Nat=>oE s l i (1-(j:Int))
def iU (s:aH) (l:List aa) (n:Nat):List PB:=(List.range n).flatMap fun i=>iy s l i 2
def dI (s:aH) (l:List aa):List PB:=iU s l l.length
theorem sH (s:aH) (l:List aa) (i m:Nat):iy s l i (m+1)=iy s l i m++oE s l i (1-(m:Int)):=by simp[iy,List.range_succ]
theorem tV (s:aH) (l:List aa) (n:Nat):iU s l (n+1)=iU s l n++iy s l n 2:=by simp[iU,List.range_succ]
theorem Gr (s:aH) (l:List aa) (i:Nat) (d:Int):(oE s l i d).length<=1:=by unfold oE;split<;>simp
theorem tU (s:aH) (l:List aa) (i m:Nat):(iy s l i m).length<=m:=by
 induction m with
 |zero=>simp[iy]
 |succ m ih=>rw[sH,List.length_append];have:=Gr s l i (1-(m:Int));omega
theorem wO (s:aH) (l:List aa) (n:Nat):(iU s l n).length<=2*n:=by
 induction n with
 |zero=>simp[iU]
 |succ n ih=>rw[tV,List.length_append];have:=tU s l n 2;omega
def sB:Id->Prop:=fun o=>o.site=97001000∨o.site=97012006
theorem He (s:aH) (l:List aa) (hS:jT s) (hA:jf s l):ay Tryz.prog 97 [.dF (aj s),.dF [.sl (l.map ai)]] (.sl ((dI s l).map aP)):=by
 refine ay.body fR rfl fun hl n0=>?_
 clear hl
 have hF:=hA.1
 have Ew:=hF.wQ
 (try((repeat(revert N;apply Pn.out));refine wk @Nat.zero_add ?_;(repeat(apply Pn.mk;intro N Z))))
 refine bz (fun n env st=>∃k:Nat,n=(l.length)-k/\k<=(l.length)/\env 6=.int .i64 (k:Int)/\(ot aP 3 (env 5) st.get sB (iU s l k))) (l.length) ⟨0,ah,ah,sl @Nat.zero_add,⟨⟨97001000,n0+1⟩,.inl rfl,by simp only[go_sem, ↓reduceIte,Nat.reduceEqDiff,Nat.reduceAdd,Nat.reduceSub,Nat.reduceLeDiff,reduceCtorEq];rfl,by simp only[go_sem, ↓reduceIte,Nat.reduceEqDiff,Nat.reduceAdd,Nat.reduceSub,Nat.reduceLeDiff,reduceCtorEq];rfl⟩⟩ ?_
 rintro n_a env_a st_a ⟨k,rfl,ale,a6,nh⟩ eE
 have a0:=eE 0 (by kernel_rfl);have a1:=eE 1 (by kernel_rfl)
 simp only[go_sem, ↓reduceIte,Nat.reduceEqDiff,Nat.reduceAdd,Nat.reduceSub,Nat.reduceLeDiff,reduceCtorEq]at a0 a1
 clear eE
 by_cases hk:(k:Int)<(l.length:Int)
 ·have dD:∀{e:Env} {gg:Rows},(e 6=.int .i64 (IntKind.i64.wrap ((k:Int)+1)))->(ot aP 3 (e 5) gg sB (iU s l (k+1)))->∃m0,m0<(l.length)-k/\∃k:Nat,m0=(l.length)-k/\k<=(l.length)/\e 6=.int .i64 (k:Int)/\(ot aP 3 (e 5) gg sB (iU s l k)):=fun x1 x2=>⟨_,ah,k+1,rfl,ah,(by rw[x1,aK ah]),x2⟩
  have iO:k<l.length:=ah
  have gL:=gI iO
  have PE:=wO s l k
  (try((repeat(revert N;apply Pn.out));refine wk (tw @a6 (tw @a0 (tw @a1 @hk))) ?_;(repeat(apply Pn.mk;intro N Z))))
  refine bz (fun n env st=>∃m:Nat,n=(2)-m/\m<=(2)/\env 7=(.int .i64 (1-(m:Int)))/\(ot aP 3 (env 5) st.get sB (iU s l k++iy s l k m))) (2) ⟨0,ah,ah,sl (tw @a6 (tw @a0 @a1)),by(simp only[go_sem, ↓reduceIte,Nat.reduceEqDiff,Nat.reduceAdd,Nat.reduceSub,Nat.reduceLeDiff,reduceCtorEq];exact nh.cast (by simp[iy]))⟩ ?_
  rintro n_b env_b st_b ⟨m,rfl,ble,b7,bI0⟩ fo
  have b0:=fo 0 (by kernel_rfl);have b1:=fo 1 (by kernel_rfl);have b6:=fo 6 (by kernel_rfl)
  simp only[go_sem, ↓reduceIte,Nat.reduceEqDiff,Nat.reduceAdd,Nat.reduceSub,Nat.reduceLeDiff,reduceCtorEq,a6,a0,a1]at b0 b1 b6
  clear fo
  have F1:=tU s l k m
  have np:=sH s l k m
  by_cases hm:(m:Int)<2
  ·have fN:∀{e:Env} {gg:Rows},(e 7=(.int .i64 (1-((m+1):Int))))->(ot aP 3 (e 5) gg sB (iU s l k++iy s l k (m+1)))->∃m0,m0<(2)-m/\∃m:Nat,m0=(2)-m/\m<=(2)/\e 7=(.int .i64 (1-(m:Int)))/\(ot aP 3 (e 5) gg sB (iU s l k++iy s l k m)):=fun x1 x2=>⟨_,ah,m+1,rfl,ah,x1,x2⟩
   have lx:(0:Int)<=1-(m:Int):=ah
   have hd:jm (1-(m:Int)) 0 3=true:=jn ah
   have hw:IntKind.i64.wrap (1-(m:Int)-1)=1-((m:Int)+1):=by rw[cm ah];omega
   have VG:=Av l hF k (1-(m:Int)) iO hd
   unfold oE at np
   have hT:=hA.2 _ (jc iO)
   generalize F2:fb l (cj (bw l k).bD (1-(m:Int)))=ix at *
   by_cases hi:ix<0
   ·rw[if_neg ah,List.append_nil]at np
    (have zF:=tw @b7 (tw @b0 (tw @b1 (tw @b6 (tw @lx (tw @hw @hi)))));(repeat(first|((repeat(revert N;apply Pn.out));refine wk zF ?_;(repeat(apply Pn.mk;intro N Z)))|((try apply Or.inl);refine⟨_,ay.x (VG) (sd zF),?_⟩;apply Z;clear Z N)));try clear zF)
    exact fN (sd (tw @b7 (tw @b0 (tw @b1 (tw @b6 @hw))))) (by(simp only[go_sem, ↓reduceIte,Nat.reduceEqDiff,Nat.reduceAdd,Nat.reduceSub,Nat.reduceLeDiff,reduceCtorEq];exact bI0.cast (by rw[np])))
   ·have zZ:0<=ix:=ah
    have SZ:=ke (l:=l) (p:=cj (bw l k).bD (1-(m:Int))) ah
    rw[F2]at SZ
    have iZ:=gI SZ.1
    have zY:=Bo s hS (bw l k).ck (1-(m:Int)) (bw l ix.toNat).ck hT (hA.2 _ (jc SZ.1)) hd
    generalize Vy:iL s (bw l k).ck (1-(m:Int)) (bw l ix.toNat).ck=bv at *
    by_cases hb:0<bv
    ·rw[if_pos ⟨zZ,hb⟩]at np
     (repeat(first|((repeat(revert N;apply Pn.out));refine wa (tw @b7 (tw @b0 (tw @b1 (tw @b6 (tw @lx (tw @hw (tw @hi (tw @zZ (tw @gL (tw @iZ (tw @hb @ai.eq_1))))))))))) ?_;(repeat(apply Pn.mk;intro N Z)))|((try apply Or.inl);refine⟨_,ay.x (VG) (sd (tw @b7 (tw @b0 (tw @b1 (tw @b6 (tw @lx (tw @hw (tw @hi (tw @zZ (tw @gL (tw @iZ (tw @hb @ai.eq_1)))))))))))),?_⟩;apply Z;clear Z N)|((try apply Or.inl);refine⟨_,ay.x (zY) (sd (tw @b7 (tw @b0 (tw @b1 (tw @b6 (tw @lx (tw @hw (tw @hi (tw @zZ (tw @gL (tw @iZ (tw @hb @ai.eq_1)))))))))))),?_⟩;apply Z;clear Z N)))
     refine T9 (enc:=aP) (S:=sB) (L:=iU s l k++iy s l k m) (xv:=env_b 5) [⟨k,ix.toNat,bv⟩] rfl rfl (sd @Nat.zero_add) (bI0.frame fun o ho=>by rcases ho with ho|ho<;>simp only[go_sem, ↓reduceIte,Nat.reduceEqDiff,Nat.reduceAdd,Nat.reduceSub,Nat.reduceLeDiff,reduceCtorEq,C5 ho]) (sd (tw @aP.eq_1 (Int.toNat_of_nonneg zZ))) RN (.inr rfl) (by simp only[dL,List.length_append,List.length_cons,List.length_nil];omega) fun v g' hO jP=>?_
     rw[List.append_assoc,<-np]at hO
     clear jP
     (try((repeat(revert N;apply Pn.out));refine wk (tw @b7 (tw @b0 (tw @b1 (tw @b6 @hw)))) ?_;(repeat(apply Pn.mk;intro N Z))))
     exact fN (sd (tw @b7 (tw @b0 (tw @b1 (tw @b6 @hw))))) (by(simp only[go_sem, ↓reduceIte,Nat.reduceEqDiff,Nat.reduceAdd,Nat.reduceSub,Nat.reduceLeDiff,reduceCtorEq];exact hO))
    ·rw[if_neg fun h=>hb h.2,List.append_nil]at np
     (have zF:=tw @b7 (tw @b0 (tw @b1 (tw @b6 (tw @lx (tw @hw (tw @hi (tw @zZ (tw @gL (tw @iZ (tw @hb @ai.eq_1))))))))));(repeat(first|((repeat(revert N;apply Pn.out));refine wk zF ?_;(repeat(apply Pn.mk;intro N Z)))|((try apply Or.inl);refine⟨_,ay.x (VG) (sd zF),?_⟩;apply Z;clear Z N)|((try apply Or.inl);refine⟨_,ay.x (zY) (sd zF),?_⟩;apply Z;clear Z N)));try clear zF)
     exact fN (sd (tw @b7 (tw @b0 (tw @b1 (tw @b6 @hw))))) (by(simp only[go_sem, ↓reduceIte,Nat.reduceEqDiff,Nat.reduceAdd,Nat.reduceSub,Nat.reduceLeDiff,reduceCtorEq];exact bI0.cast (by rw[np])))
  ·have Ao:m=2:=ah
   subst Ao
   have eW:¬(0:Int)<=1-((2:Nat):Int):=ah
   (try((repeat(revert N;apply Pn.out));refine wk (tw @b7 (tw @b0 (tw @b1 (tw @b6 @eW)))) ?_;(repeat(apply Pn.mk;intro N Z))))
   exact dD (sd (tw @a6 (tw @a0 (tw @a1 (tw @b7 (tw @b0 (tw @b1 @b6))))))) (by(simp only[go_sem, ↓reduceIte,Nat.reduceEqDiff,Nat.reduceAdd,Nat.reduceSub,Nat.reduceLeDiff,reduceCtorEq];exact bI0.cast (by rw[tV])))
 ·have mM:k=l.length:=ah
  (try((repeat(revert N;apply Pn.out));refine wk (tw @a6 (tw @a0 (tw @a1 @hk))) ?_;(repeat(apply Pn.mk;intro N Z))))
  exact uQ (.inl rfl) (by simp only[go_sem, ↓reduceIte,Nat.reduceEqDiff,Nat.reduceAdd,Nat.reduceSub,Nat.reduceLeDiff,reduceCtorEq];rfl) (by rw[mM]at nh;exact nh.iq fun b=>xU _ _ b)
theorem E5 (a b:Nat):ay Tryz.prog 122 [.int .i64 a,.int .i64 b] (.int .i64 (min a b:Nat)):=by
 refine ay.body fR rfl fun hl n0=>?_
 clear hl
 by_cases h:(a:Int)<(b:Int)
 ·(try((repeat(revert N;apply Pn.out));refine wk @h ?_;(repeat(apply Pn.mk;intro N Z))))
  exact eJ (b:=(a:Int)) (.inl rfl) (sd @Nat.zero_add) ah
 ·(try((repeat(revert N;apply Pn.out));refine wk @h ?_;(repeat(apply Pn.mk;intro N Z))))
  exact eJ (b:=(b:Int)) (.inl rfl) (sd @Nat.zero_add) ah
theorem E4 (a b:Nat):ay Tryz.prog 54 [.int .i64 a,.int .i64 b] (.int .i64 (max a b:Nat)):=by
 refine ay.body fR rfl fun hl n0=>?_
 clear hl
 by_cases h:(b:Int)<(a:Int)
 ·(try((repeat(revert N;apply Pn.out));refine wk @h ?_;(repeat(apply Pn.mk;intro N Z))))
  exact eJ (b:=(a:Int)) (.inl rfl) (sd @Nat.zero_add) ah
 ·(try((repeat(revert N;apply Pn.out));refine wk @h ?_;(repeat(apply Pn.mk;intro N Z))))
  exact eJ (b:=(b:Int)) (.inl rfl) (sd @Nat.zero_add) ah
def eO (f:Nat->Nat) (n:Nat):List (List AV):=(List.range n).map fun i=>eN (f i)
theorem iA (f:Nat->Nat) (n:Nat):(eO f n).length=n:=by simp[eO]
theorem gF {f:Nat->Nat} {n i:Nat} (h:i<n):(eO f n)[i]? =some (eN (f i)):=by simp[eO,h]
theorem je {f g:Nat->Nat} {n:Nat} (h:∀i,i<n->f i=g i):eO f n=eO g n:=List.map_congr_left fun i hi=>by rw[h i (List.mem_range.1 hi)]
theorem rV {f g:Nat->Nat} {n k v:Nat} (hk:k<n) (hv:g k=v) (h:∀i,i<n->i≠k->g i=f i):(eO f n).set k (eN v)=eO g n:=by
 refine List.ext_getElem? fun i=>?_
 rw[List.getElem?_set]
 by_cases hi:k=i
 ·subst hi
  rw[if_pos rfl,iA,if_pos hk,gF hk,hv]
 ·rw[if_neg hi]
  by_cases fZ:i<n
  ·rw[gF fZ,gF fZ,h i fZ (fun h=>hi h.symm)]
  ·rw[List.getElem?_eq_none (by rw[iA];omega),List.getElem?_eq_none (by rw[iA];omega)]
theorem E7 (cnt:Nat) (hn:cnt<=1048576) (bs:List PB) (hb:∀b∈bs,b.a<cnt/\b.b<cnt) (iD:bs.length<=1048576):ay Tryz.prog 121 [.int .i64 cnt,.sl (bs.map aP)] (.sl ((gN cnt (ft bs)).map Dq)):=by
 refine ay.body fR rfl fun hl n0=>?_
 clear hl
 (try((repeat(revert N;apply Pn.out));refine wk @Nat.zero_add ?_;(repeat(apply Pn.mk;intro N Z))))
 refine bz (fun n env st=>∃k:Nat,n=(cnt)-k/\k<=(cnt)/\env 6=.int .i64 (k:Int)/\(∃o:Id,env 5=.own o 0 k/\st.get o=some ⟨true,1,eO id k⟩/\o.bj<st.next)) (cnt) ⟨0,ah,ah,sl @Nat.zero_add,⟨⟨121001000,n0+1⟩,sd @Nat.zero_add,by simp only[go_sem, ↓reduceIte,Nat.reduceEqDiff,Nat.reduceAdd,Nat.reduceSub,Nat.reduceLeDiff,reduceCtorEq];rfl,aQ⟩⟩ ?_
 rintro n_a env_a st_a ⟨k,rfl,ale,a6,nh⟩ eE
 have a0:=eE 0 (by kernel_rfl);have a1:=eE 1 (by kernel_rfl)
 simp only[go_sem, ↓reduceIte,Nat.reduceEqDiff,Nat.reduceAdd,Nat.reduceSub,Nat.reduceLeDiff,reduceCtorEq]at a0 a1
 clear eE
 obtain⟨o,a5,ag,vD⟩:=nh
 have tl:=iA id k
 have tj:=dh vD
 by_cases hk:(k:Int)<(cnt:Int)
 ·have dD:∀{e:Env} {gg:Rows} {nx:Nat},(e 6=.int .i64 (IntKind.i64.wrap ((k:Int)+1)))->(∃o:Id,e 5=.own o 0 (k+1)/\gg o=some ⟨true,1,eO id (k+1)⟩/\o.bj<nx)->∃m0,m0<(cnt)-k/\∃k:Nat,m0=(cnt)-k/\k<=(cnt)/\e 6=.int .i64 (k:Int)/\(∃o:Id,e 5=.own o 0 k/\gg o=some ⟨true,1,eO id k⟩/\o.bj<nx):=fun x1 x2=>⟨_,ah,k+1,rfl,ah,(by rw[x1,aK ah]),x2⟩
  have iO:k<cnt:=ah
  have e1:k+1<=16777216:=ah
  have sm:eO id k++[[.int .i64 (k:Int)]]=eO id (k+1):=by simp[eO,List.range_succ,eN]
  (try((repeat(revert N;apply Pn.out));refine wk (tw @a6 (tw @a0 (tw @a1 (tw @a5 (tw @ag (tw @tj (tw @hk (tw @tl (tw @e1 @sm))))))))) ?_;(repeat(apply Pn.mk;intro N Z))))
  exact dD (sd (tw @a6 (tw @a0 @a1))) (⟨⟨121005003,st_a.next+1⟩,sd @Nat.zero_add,sd @sm,aQ⟩)
 have mM:k=cnt:=ah
 subst mM
 have ho4:st_a.get o=some ⟨true,1,eO (ft (bs.take 0)) k⟩:=ag
 clear ag
 (try((repeat(revert N;apply Pn.out));refine wk (tw @a6 (tw @a0 (tw @a1 @hk))) ?_;(repeat(apply Pn.mk;intro N Z))))
 refine bz (fun n env st=>∃j:Nat,n=(bs.length)-j/\j<=(bs.length)/\env 7=.int .i64 (j:Int)/\st.get o=some ⟨true,1,eO (ft (bs.take j)) k⟩/\(o.bj<st.next)) (bs.length) ⟨0,ah,ah,sl (tw @a6 (tw @a0 (tw @a1 (tw @a5 @ho4)))),sl (tw @a6 (tw @a0 (tw @a1 (tw @a5 @ho4)))),aQ⟩ ?_
 rintro n_b env_b st_b ⟨j,rfl,ble,b7,bg0,bI0⟩ fo
 have b0:=fo 0 (by kernel_rfl);have b1:=fo 1 (by kernel_rfl);have b5:=fo 5 (by kernel_rfl)
 simp only[go_sem, ↓reduceIte,Nat.reduceEqDiff,Nat.reduceAdd,Nat.reduceSub,Nat.reduceLeDiff,reduceCtorEq,a6,a0,a1,a5,ho4]at b0 b1 b5
 clear fo
 by_cases hj:(j:Int)<(bs.length:Int)
 ·have fN:∀{e:Env} {gg:Rows} {nx:Nat},(e 7=.int .i64 (IntKind.i64.wrap ((j:Int)+1)))->(gg o=some ⟨true,1,eO (ft (bs.take (j+1))) k⟩)->(o.bj<nx)->∃m0,m0<(bs.length)-j/\∃j:Nat,m0=(bs.length)-j/\j<=(bs.length)/\e 7=.int .i64 (j:Int)/\gg o=some ⟨true,1,eO (ft (bs.take j)) k⟩/\(o.bj<nx):=fun x1 x2 x3=>⟨_,ah,j+1,rfl,ah,(by rw[x1,aK ah]),x2,x3⟩
  have nk:j<bs.length:=ah
  have Cu:(bs.map aP)[j]? =some (aP bs[j]):=by simp[nk]
  have Ph:=hb _ (List.getElem_mem nk)
  have oN:bs.take (j+1)=bs.take j++[bs[j]]:=List.take_succ_eq_append_getElem nk
  have np:ft (bs.take (j+1))=fH (ft (bs.take j)) bs[j]:=by rw[oN,y9]
  generalize ft (bs.take j)=L at *
  generalize bs[j]=b at *
  have hA:=gF (f:=L) Ph.1
  have hB:=gF (f:=L) Ph.2
  have YG:=E5 (L b.a) (L b.b)
  have YH:=E4 (L b.a) (L b.b)
  have tl:=iA L k
  have iR:(b.a:Int)<(k:Int):=ah
  have gH:(b.b:Int)<(k:Int):=ah
  (try((repeat(revert N;apply Pn.out));refine wk (tw @b7 (tw @bg0 (tw @b0 (tw @b1 (tw @b5 (tw @hj (tw @Cu (tw @aP.eq_1 (tw @hA (tw @hB (tw @iR (tw @gH (tw @tl @eN.eq_1))))))))))))) ?_;(repeat(apply Pn.mk;intro N Z))))
  refine bz (fun n env st=>∃i:Nat,n=(k)-i/\i<=(k)/\env 10=.int .i64 (i:Int)/\st.get o=some ⟨true,1,eO (fun x=>if x<i then fH L b x else L x) k⟩/\(o.bj<st.next)) (k) ⟨0,ah,ah,sl (tw @b7 (tw @bg0 (tw @b0 (tw @b1 (tw @b5 @Nat.not_lt_zero))))),sl (tw @b7 (tw @bg0 (tw @b0 (tw @b1 (tw @b5 @Nat.not_lt_zero))))),aQ⟩ ?_
  rintro n_c env_c st_c ⟨i,rfl,cle,gz,cg0,cI0⟩ il
  have c0:=il 0 (by kernel_rfl);have c1:=il 1 (by kernel_rfl);have c5:=il 5 (by kernel_rfl);have c7:=il 7 (by kernel_rfl);have c8:=il 8 (by kernel_rfl);have c9:=il 9 (by kernel_rfl)
  simp only[go_sem, ↓reduceIte,Nat.reduceEqDiff,Nat.reduceAdd,Nat.reduceSub,Nat.reduceLeDiff,reduceCtorEq,b7,bg0,b0,b1,b5,Nat.not_lt_zero]at c0 c1 c5 c7 c8 c9
  clear il
  have hC:=gF (f:=fun x=>if x<i then fH L b x else L x) (n:=k) (i:=i)
  have tc:=iA (fun x=>if x<i then fH L b x else L x) k
  by_cases hi:(i:Int)<(k:Int)
  ·have fJ:∀{e:Env} {gg:Rows} {nx:Nat},(e 10=.int .i64 (IntKind.i64.wrap ((i:Int)+1)))->(gg o=some ⟨true,1,eO (fun x=>if x<(i+1)then fH L b x else L x) k⟩)->(o.bj<nx)->∃m0,m0<(k)-i/\∃i:Nat,m0=(k)-i/\i<=(k)/\e 10=.int .i64 (i:Int)/\gg o=some ⟨true,1,eO (fun x=>if x<i then fH L b x else L x) k⟩/\(o.bj<nx):=fun x1 x2 x3=>⟨_,ah,i+1,rfl,ah,(by rw[x1,aK ah]),x2,x3⟩
   have fZ:i<k:=ah
   replace hC:=hC fZ
   rw[if_neg (Nat.lt_irrefl i)]at hC
   by_cases he:L i=max (L b.a) (L b.b)
   ·have w7:decide ((L i:Int)=((max (L b.a) (L b.b):Nat):Int))=true:=decide_eq_true (by rw[he])
    have fx:(eO (fun x=>if x<i then fH L b x else L x) k).set i (eN (min (L b.a) (L b.b)))=eO (fun x=>if x<i+1 then fH L b x else L x) k:=rV fZ (by rw[if_pos ah,fH,if_pos he]) fun x hx Ga=>by
     by_cases h:x<i
     ·rw[if_pos h,if_pos ah]
     ·rw[if_neg h,if_neg ah]
    rw[eN]at fx hC
    (have zF:=tw @gz (tw @cg0 (tw @c0 (tw @c1 (tw @c5 (tw @c7 (tw @c8 (tw @c9 (tw @hi (tw @hC (tw @tc (tw @w7 @fx)))))))))));(repeat(first|((repeat(revert N;apply Pn.out));refine wk zF ?_;(repeat(apply Pn.mk;intro N Z)))|((try apply Or.inl);refine⟨_,ay.x (YG) (sd zF),?_⟩;apply Z;clear Z N)|((try apply Or.inl);refine⟨_,ay.x (YH) (sd zF),?_⟩;apply Z;clear Z N)));try clear zF)
    refine fJ ?_ ?_ aQ
    all_goals simp only[go_sem, ↓reduceIte,Nat.reduceEqDiff,Nat.reduceAdd,Nat.reduceSub,Nat.reduceLeDiff,reduceCtorEq,gz,cg0,c0,c1,c5,c7,c8,c9]
   ·have w7:decide ((L i:Int)=((max (L b.a) (L b.b):Nat):Int))=false:=decide_eq_false fun h=>he ah
    have nS:eO (fun x=>if x<i then fH L b x else L x) k=eO (fun x=>if x<i+1 then fH L b x else L x) k:=je fun x hx=>by
     by_cases h:x<i
     ·rw[if_pos h,if_pos ah]
     ·by_cases Ga:x=i
      ·subst Ga;rw[if_neg h,if_pos ah,fH,if_neg he]
      ·rw[if_neg h,if_neg ah]
    rw[eN]at hC
    (have zF:=tw @gz (tw @cg0 (tw @c0 (tw @c1 (tw @c5 (tw @c7 (tw @c8 (tw @c9 (tw @hi (tw @hC (tw @tc @w7))))))))));(repeat(first|((repeat(revert N;apply Pn.out));refine wk zF ?_;(repeat(apply Pn.mk;intro N Z)))|((try apply Or.inl);refine⟨_,ay.x (YG) (sd zF),?_⟩;apply Z;clear Z N)|((try apply Or.inl);refine⟨_,ay.x (YH) (sd zF),?_⟩;apply Z;clear Z N)));try clear zF)
    rw[nS]at cg0
    refine fJ ?_ ?_ aQ
    all_goals simp only[go_sem, ↓reduceIte,Nat.reduceEqDiff,Nat.reduceAdd,Nat.reduceSub,Nat.reduceLeDiff,reduceCtorEq,gz,cg0,c0,c1,c5,c7,c8,c9]
  ·have xZ:i=k:=ah
   subst xZ
   have eV:eO (fun x=>if x<i then fH L b x else L x) i=eO (fH L b) i:=je fun x hx=>if_pos hx
   rw[eV]at cg0
   rw[<-np]at cg0
   (try((repeat(revert N;apply Pn.out));refine wk (tw @gz (tw @cg0 (tw @c0 (tw @c1 (tw @c5 (tw @c7 (tw @c8 (tw @c9 (tw @hi @tc))))))))) ?_;(repeat(apply Pn.mk;intro N Z))))
   refine fN ?_ ?_ aQ
   all_goals simp only[go_sem, ↓reduceIte,Nat.reduceEqDiff,Nat.reduceAdd,Nat.reduceSub,Nat.reduceLeDiff,reduceCtorEq,b7,bg0,b0,b1,b5,gz,cg0,c0,c1,c5,c7,c8,c9]
 have iH:j=bs.length:=ah
 subst iH
 rw[List.take_length]at bg0
 have hL:=xg bs
 generalize ft bs=L at *
 have tl:=iA L k
 (try((repeat(revert N;apply Pn.out));refine wk (tw @b7 (tw @bg0 (tw @b0 (tw @b1 (tw @b5 @hj))))) ?_;(repeat(apply Pn.mk;intro N Z))))
 have S9:o.bj<st_b.next:=bI0
 refine bz (fun n env st=>∃i:Nat,n=(k)-i/\i<=(k)/\env 12=.int .i64 (i:Int)/\st.get o=some ⟨true,1,eO L k⟩/\(∃oo rows ids,env 11=.own oo 0 rows.length/\st.get oo=some ⟨true,1,rows⟩/\fY Vn st.get rows ((leads i L).map (members k L)) ids/\(∀x∈oo::ids,st_b.next<=x.bj/\x.bj<st.next)/\st_b.next<=st.next/\oo∉ids)) (k) ⟨0,ah,ah,sl (tw @b7 (tw @bg0 (tw @b0 (tw @b1 (tw @b5 (dh S9)))))),sl (tw @b7 (tw @bg0 (tw @b0 (tw @b1 (tw @b5 (dh S9)))))),⟨⟨121016000,st_b.next+1⟩,[],[],by(simp only[go_sem, ↓reduceIte,Nat.reduceEqDiff,Nat.reduceAdd,Nat.reduceSub,Nat.reduceLeDiff,reduceCtorEq])<;>rfl,sd @Nat.zero_add,.nil,fun x hx=>by rw[List.mem_singleton.1 hx];(try dsimp only);omega,aQ,by simp⟩⟩ ?_
 rintro n_d env_d st_d ⟨i,rfl,dle,d12,dg0,dI0⟩ dfr
 have d0:=dfr 0 (by kernel_rfl);have d5:=dfr 5 (by kernel_rfl)
 simp only[go_sem, ↓reduceIte,Nat.reduceEqDiff,Nat.reduceAdd,Nat.reduceSub,Nat.reduceLeDiff,reduceCtorEq,b7,bg0,b0,b1,b5,dh S9]at d0 d5
 clear dfr
 obtain⟨oo,rows,ids,d11,dg,hR,pY,hle,lV⟩:=dI0
 have sm:=iW i L
 have x8:=hR.len
 by_cases hi:(i:Int)<(k:Int)
 ·have xj:∀{e:Env} {gg:Rows} {nx:Nat},(e 12=.int .i64 (IntKind.i64.wrap ((i:Int)+1)))->(gg o=some ⟨true,1,eO L k⟩)->(∃oo rows ids,e 11=.own oo 0 rows.length/\gg oo=some ⟨true,1,rows⟩/\fY Vn gg rows ((leads (i+1) L).map (members k L)) ids/\(∀x∈oo::ids,st_b.next<=x.bj/\x.bj<nx)/\st_b.next<=nx/\oo∉ids)->∃m0,m0<(k)-i/\∃i:Nat,m0=(k)-i/\i<=(k)/\e 12=.int .i64 (i:Int)/\gg o=some ⟨true,1,eO L k⟩/\(∃oo rows ids,e 11=.own oo 0 rows.length/\gg oo=some ⟨true,1,rows⟩/\fY Vn gg rows ((leads i L).map (members k L)) ids/\(∀x∈oo::ids,st_b.next<=x.bj/\x.bj<nx)/\st_b.next<=nx/\oo∉ids):=fun x1 x2 x3=>⟨_,ah,i+1,rfl,ah,(by rw[x1,aK ah]),x2,x3⟩
  have fZ:i<k:=ah
  have hC:=gF (f:=L) fZ
  have l5:=dh (i:=o) (n:=st_d.next) ah
  have Xz:=dh (i:=oo) (n:=st_d.next) (pY oo (by simp)).2
  by_cases he:L i=i
  ·rw[if_pos he]at sm
   have w7:decide ((L i:Int)=(i:Int))=true:=decide_eq_true (by rw[he])
   rw[eN]at hC
   (try((repeat(revert N;apply Pn.out));refine wk (tw @d12 (tw @dg0 (tw @d0 (tw @d5 (tw @d11 (tw @dg (tw @hi (tw @hC (tw @tl (tw @w7 (tw @l5 @Xz))))))))))) ?_;(repeat(apply Pn.mk;intro N Z))))
   refine bz (fun n env st=>∃m:Nat,n=((k-i))-m/\m<=((k-i))/\env 14=(.int .i64 ((i+m:Nat):Int))/\(∃pp:Id,env 13=.own pp 0 (members (i+m) L i).length/\st.get pp=some ⟨true,1,(members (i+m) L i).map eN⟩/\st_d.next<=pp.bj/\pp.bj<st.next/\(∀x:Id,x.bj<st_d.next->st.get x=st_d.get x)/\st_d.next<=st.next)) ((k-i)) ⟨0,ah,ah,sl (tw @d12 (tw @dg0 (tw @d0 (tw @d5 @d11)))),⟨⟨121021000,st_d.next+1+1⟩,by rw[show members (i+0) L i=[]from oV hL (Nat.le_refl i)];(simp only[go_sem, ↓reduceIte,Nat.reduceEqDiff,Nat.reduceAdd,Nat.reduceSub,Nat.reduceLeDiff,reduceCtorEq])<;>rfl,by rw[show members (i+0) L i=[]from oV hL (Nat.le_refl i)];(simp only[go_sem, ↓reduceIte,Nat.reduceEqDiff,Nat.reduceAdd,Nat.reduceSub,Nat.reduceLeDiff,reduceCtorEq])<;>rfl,aQ,aQ,fun x hx=>sd (dh hx),aQ⟩⟩ ?_
   rintro n_f env_f st_f ⟨m,rfl,fle,f14,fI0⟩ ffr
   have f0:=ffr 0 (by kernel_rfl);have f5:=ffr 5 (by kernel_rfl);have f11:=ffr 11 (by kernel_rfl);have f12:=ffr 12 (by kernel_rfl)
   simp only[go_sem, ↓reduceIte,Nat.reduceEqDiff,Nat.reduceAdd,Nat.reduceSub,Nat.reduceLeDiff,reduceCtorEq,d12,dg0,d0,d5,d11]at f0 f5 f11 f12
   clear ffr
   obtain⟨pp,f13,fg,Tc,Iw,jP,qb⟩:=fI0
   have xH:st_f.get o=some ⟨true,1,eO L k⟩:=(jP o ah).trans dg0
   have hgoo:st_f.get oo=some ⟨true,1,rows⟩:=(jP oo (pY oo (by simp)).2).trans dg
   have Dv:=dh Iw
   have EP:=dh (i:=o) (n:=st_f.next) ah
   have XA:=dh (i:=oo) (n:=st_f.next) (by have:=(pY oo (by simp)).2;omega)
   have Ps:members (i+(m+1)) L i=members (i+m) L i++if L (i+m)=i then[i+m]else[]:=kh (i+m) L i
   have hmle:(members (i+m) L i).length<=i+m:=by
    have:=List.length_filter_le (fun k=>L k==i) (List.range (i+m))
    simpa[members]using this
   have x1:=dP (a:=o) (b:=pp) ah
   have x2:=dP (a:=oo) (b:=pp) (by have:=(pY oo (by simp)).2;omega)
   have x3:=dP (a:=o) (b:=oo) (by have:=(pY oo (by simp)).1;omega)
   by_cases hm:m<k-i
   ·have uL:∀{e:Env} {gg:Rows} {nx:Nat},(e 14=(.int .i64 ((i+(m+1):Nat):Int)))->(∃pp:Id,e 13=.own pp 0 (members (i+(m+1)) L i).length/\gg pp=some ⟨true,1,(members (i+(m+1)) L i).map eN⟩/\st_d.next<=pp.bj/\pp.bj<nx/\(∀x:Id,x.bj<st_d.next->gg x=st_d.get x)/\st_d.next<=nx)->∃m0,m0<((k-i))-m/\∃m:Nat,m0=((k-i))-m/\m<=((k-i))/\e 14=(.int .i64 ((i+m:Nat):Int))/\(∃pp:Id,e 13=.own pp 0 (members (i+m) L i).length/\gg pp=some ⟨true,1,(members (i+m) L i).map eN⟩/\st_d.next<=pp.bj/\pp.bj<nx/\(∀x:Id,x.bj<st_d.next->gg x=st_d.get x)/\st_d.next<=nx):=fun x1 x2=>⟨_,ah,m+1,rfl,ah,x1,x2⟩
    have Iv:((i+m:Nat):Int)<(k:Int):=ah
    have Z6:=gF (f:=L) (show i+m<k by omega)
    have hw:IntKind.i64.wrap (((i+m:Nat):Int)+1)=((i+(m+1):Nat):Int):=by rw[cm ah];omega
    rw[eN]at Z6
    by_cases hq:L (i+m)=i
    ·have nA:decide ((L (i+m):Int)=(i:Int))=true:=decide_eq_true (by rw[hq])
     rw[if_pos hq]at Ps
     have e1:(members (i+m) L i).length+1<=16777216:=ah
     have gU:((members (i+m) L i).map eN).length=(members (i+m) L i).length:=by simp
     (try((repeat(revert N;apply Pn.out));refine wk (tw @f14 (tw @f0 (tw @f5 (tw @f11 (tw @f12 (tw @f13 (tw @fg (tw @xH (tw @Iv (tw @Z6 (tw @tl (tw @nA (tw @Dv (tw @EP (tw @x1 (tw @e1 @gU)))))))))))))))) ?_;(repeat(apply Pn.mk;intro N Z))))
     exact uL (sd (tw @f14 (tw @f0 (tw @f5 (tw @f11 (tw @f12 (tw @xH (tw @hw (tw @EP @x1))))))))) (⟨⟨121026003,st_f.next+1+1⟩,by rw[Ps,List.length_append];simp only[go_sem, ↓reduceIte,Nat.reduceEqDiff,Nat.reduceAdd,Nat.reduceSub,Nat.reduceLeDiff,reduceCtorEq,List.length_cons,List.length_nil],by rw[Ps,List.map_append,List.map_cons,List.map_nil];simp only[go_sem, ↓reduceIte,Nat.reduceEqDiff,Nat.reduceAdd,Nat.reduceSub,Nat.reduceLeDiff,reduceCtorEq,eN],aQ,aQ,fun x hx=>by
      have y1:=jP x hx
      have y2:=dP (a:=x) (b:=pp) ah
      simp only[go_sem, ↓reduceIte,Nat.reduceEqDiff,Nat.reduceAdd,Nat.reduceSub,Nat.reduceLeDiff,reduceCtorEq,dh (show x.bj<st_f.next by omega),y1,y2],aQ⟩)
    ·have nA:decide ((L (i+m):Int)=(i:Int))=false:=decide_eq_false fun h=>hq ah
     rw[if_neg hq,List.append_nil]at Ps
     (try((repeat(revert N;apply Pn.out));refine wk (tw @f14 (tw @f0 (tw @f5 (tw @f11 (tw @f12 (tw @f13 (tw @fg (tw @xH (tw @Iv (tw @Z6 (tw @tl (tw @nA (tw @Dv (tw @EP @x1)))))))))))))) ?_;(repeat(apply Pn.mk;intro N Z))))
     exact uL (sd (tw @f14 (tw @f0 (tw @f5 (tw @f11 (tw @f12 (tw @xH @hw))))))) (⟨pp,by rw[Ps];simp only[go_sem, ↓reduceIte,Nat.reduceEqDiff,Nat.reduceAdd,Nat.reduceSub,Nat.reduceLeDiff,reduceCtorEq,f13],by rw[Ps];simp only[go_sem, ↓reduceIte,Nat.reduceEqDiff,Nat.reduceAdd,Nat.reduceSub,Nat.reduceLeDiff,reduceCtorEq,fg],Tc,aQ,jP,aQ⟩)
   ·have hmk:i+m=k:=ah
    have Iv:¬((i+m:Nat):Int)<(k:Int):=ah
    rw[hmk]at f13 fg hmle
    have e1:rows.length+1<=16777216:=by
     have:=kQ i L
     rw[x8,List.length_map];omega
    (try((repeat(revert N;apply Pn.out));refine wk (tw @f14 (tw @f0 (tw @f5 (tw @f11 (tw @f12 (tw @f13 (tw @fg (tw @xH (tw @hgoo (tw @Iv (tw @Dv (tw @EP (tw @XA (tw @x1 (tw @x2 @e1))))))))))))))) ?_;(repeat(apply Pn.mk;intro N Z))))
    refine xj ?_ ?_ (⟨⟨121027003,st_f.next+1⟩,rows++[[.own pp 0 (members k L i).length]],ids++[pp],by rw[List.length_append];simp only[go_sem, ↓reduceIte,Nat.reduceEqDiff,Nat.reduceAdd,Nat.reduceSub,Nat.reduceLeDiff,reduceCtorEq,List.length_cons,List.length_nil],sd @Nat.zero_add,by
      rw[sm,List.map_append]
      refine(hR.frame TC fun x hx=>?_).app (.one ⟨pp,rfl,?_,rfl⟩)
      ·have h1:=pY x (by simp[hx])
       have y1:=jP x h1.2
       have y2:=dP (a:=x) (b:=pp) ah
       have y3:(x=oo)=False:=by
        simp only[eq_iff_iff,iff_false]
        rintro rfl
        exact lV hx
       simp only[go_sem, ↓reduceIte,Nat.reduceEqDiff,Nat.reduceAdd,Nat.reduceSub,Nat.reduceLeDiff,reduceCtorEq,dh (show x.bj<st_f.next by omega),y1,y2,y3]
      ·simp only[go_sem, ↓reduceIte,Nat.reduceEqDiff,Nat.reduceAdd,Nat.reduceSub,Nat.reduceLeDiff,reduceCtorEq,Dv,x2,fg],fun x hx=>by
      rcases List.mem_cons.1 hx with rfl|hx
      ·(try dsimp only);omega
      ·rcases List.mem_append.1 hx with hx|hx
       ·have:=pY x (by simp[hx]);(try dsimp only);omega
       ·rw[List.mem_singleton.1 hx];(try dsimp only);omega,aQ,fun hc=>by
      rcases List.mem_append.1 hc with hc|hc
      ·have:=(pY _ (List.mem_cons_of_mem _ hc)).2;(try dsimp only at this);omega
      ·have:=List.mem_singleton.1 hc;rw[<-this]at Iw;(try dsimp only at Iw);omega⟩)
    all_goals simp only[go_sem, ↓reduceIte,Nat.reduceEqDiff,Nat.reduceAdd,Nat.reduceSub,Nat.reduceLeDiff,reduceCtorEq,f14,f0,f5,f11,f12,xH,EP,x3]
  ·rw[if_neg he,List.append_nil]at sm
   have w7:decide ((L i:Int)=(i:Int))=false:=decide_eq_false fun h=>he ah
   rw[eN]at hC
   (try((repeat(revert N;apply Pn.out));refine wk (tw @d12 (tw @dg0 (tw @d0 (tw @d5 (tw @d11 (tw @dg (tw @hi (tw @hC (tw @tl (tw @w7 (tw @l5 @Xz))))))))))) ?_;(repeat(apply Pn.mk;intro N Z))))
   refine xj ?_ ?_ (⟨oo,rows,ids,sd @d11,sd @dg,by rw[sm];exact hR,fun x hx=>by have:=pY x hx;(try dsimp only);omega,aQ,lV⟩)
   all_goals simp only[go_sem, ↓reduceIte,Nat.reduceEqDiff,Nat.reduceAdd,Nat.reduceSub,Nat.reduceLeDiff,reduceCtorEq,d12,dg0,d0,d5]
 ·have xZ:i=k:=ah
  (try((repeat(revert N;apply Pn.out));refine wk (tw @d12 (tw @dg0 (tw @d0 (tw @d5 (tw @d11 (tw @dg @hi)))))) ?_;(repeat(apply Pn.mk;intro N Z))))
  refine uQ (.inl rfl) (by simp only[go_sem, ↓reduceIte,Nat.reduceEqDiff,Nat.reduceAdd,Nat.reduceSub,Nat.reduceLeDiff,reduceCtorEq];rfl) ?_
  rw[ug dg (by simp) (rows':=(gN k L).map Dq) (by rw[List.drop_zero,List.take_of_length_le (Nat.le_refl _)];rw[xZ]at hR;exact MI 3 hR)]
theorem zR (n:Nat):List.replicate n [AV.int .i64 0]=eO (fun _=>0) n:=by
 refine List.ext_getElem? fun i=>?_
 by_cases h:i<n
 ·rw[gF h,List.getElem?_replicate,if_pos h];rfl
 ·rw[List.getElem?_eq_none (by simp;omega),List.getElem?_eq_none (by rw[iA];omega)]
def dM (cnt:Nat) (L:Nat->Nat) (i m:Nat):Nat->Nat:=fun x=>if di L x<i then di L x else if x∈(members cnt L ((leads cnt L).getD i 0)).take m then i else 0
theorem qN (cnt:Nat) (L:Nat->Nat):dM cnt L 0 0=fun _=>0:=by funext x;simp[dM]
theorem xq (t:Int) (bs:List PB) (k:Nat) (h:k<bs.length):bx t (bs.take (k+1))=bx t (bs.take k)++if t<=(bs[k]).s then[bs[k]]else[]:=by
 unfold bx
 rw[List.take_succ_eq_append_getElem h,List.filter_append]
 congr 1
 by_cases h:t<=bs[k].s<;>simp[h]
theorem zO {t:Int} {bs:List PB} {b:PB} (h:b∈bx t bs):b∈bs:=(List.mem_filter.1 h).1
theorem pf (t:Int) (bs:List PB):(bx t bs).length<=bs.length:=List.length_filter_le _ _
theorem E9 (cnt:Nat) (hn:cnt<=1048576) (bs:List PB) (hb:∀b∈bs,b.a<cnt/\b.b<cnt) (iD:bs.length<=1048576) (t:Int):ay Tryz.prog 96 [.int .i64 cnt,.sl (bs.map aP),.int .i64 t] (.gM [.int .i64 (leads cnt (ft (bx t bs))).length,.sl ((gj (ft (bx t bs)) bs).map aP)]):=by
 refine ay.body fR rfl fun hl n0=>?_
 clear hl
 (try((repeat(revert N;apply Pn.out));refine wk @Nat.zero_add ?_;(repeat(apply Pn.mk;intro N Z))))
 refine bz (fun n env st=>∃k:Nat,n=(bs.length)-k/\k<=(bs.length)/\env 9=.int .i64 (k:Int)/\(∃o:Id,env 8=.own o 0 (bx t (bs.take k)).length/\st.get o=some ⟨true,3,(bx t (bs.take k)).map aP⟩/\o.bj<st.next)) (bs.length) ⟨0,ah,ah,sl @Nat.zero_add,⟨⟨96001000,n0+1⟩,by(simp only[go_sem, ↓reduceIte,Nat.reduceEqDiff,Nat.reduceAdd,Nat.reduceSub,Nat.reduceLeDiff,reduceCtorEq])<;>rfl,by(simp only[go_sem, ↓reduceIte,Nat.reduceEqDiff,Nat.reduceAdd,Nat.reduceSub,Nat.reduceLeDiff,reduceCtorEq])<;>rfl,aQ⟩⟩ ?_
 rintro n_a env_a st_a ⟨k,rfl,ale,a9,nh⟩ eE
 have a0:=eE 0 (by kernel_rfl);have a1:=eE 1 (by kernel_rfl);have a2:=eE 2 (by kernel_rfl)
 simp only[go_sem, ↓reduceIte,Nat.reduceEqDiff,Nat.reduceAdd,Nat.reduceSub,Nat.reduceLeDiff,reduceCtorEq]at a0 a1 a2
 clear eE
 obtain⟨o,a8,ag,vD⟩:=nh
 have tj:=dh vD
 by_cases hk:(k:Int)<(bs.length:Int)
 ·have dD:∀{e:Env} {gg:Rows} {nx:Nat},(e 9=.int .i64 (IntKind.i64.wrap ((k:Int)+1)))->(∃o:Id,e 8=.own o 0 (bx t (bs.take (k+1))).length/\gg o=some ⟨true,3,(bx t (bs.take (k+1))).map aP⟩/\o.bj<nx)->∃m0,m0<(bs.length)-k/\∃k:Nat,m0=(bs.length)-k/\k<=(bs.length)/\e 9=.int .i64 (k:Int)/\(∃o:Id,e 8=.own o 0 (bx t (bs.take k)).length/\gg o=some ⟨true,3,(bx t (bs.take k)).map aP⟩/\o.bj<nx):=fun x1 x2=>⟨_,ah,k+1,rfl,ah,(by rw[x1,aK ah]),x2⟩
  have iO:k<bs.length:=ah
  have gL:(bs.map aP)[k]? =some (aP bs[k]):=by simp[iO]
  have hs:=xq t bs k iO
  have z6:=pf t (bs.take k)
  rw[List.length_take]at z6
  by_cases hc:t<=(bs[k]).s
  ·rw[if_pos hc]at hs
   have e1:(bx t (bs.take k)).length+1<=16777216:=ah
   have gU:((bx t (bs.take k)).map aP).length=(bx t (bs.take k)).length:=by simp
   generalize bs[k]=b at *
   (try((repeat(revert N;apply Pn.out));refine wk (tw @a9 (tw @a0 (tw @a1 (tw @a2 (tw @a8 (tw @ag (tw @tj (tw @hk (tw @gL (tw @hc (tw @e1 (tw @gU @aP.eq_1)))))))))))) ?_;(repeat(apply Pn.mk;intro N Z))))
   exact dD (sd (tw @a9 (tw @a0 (tw @a1 @a2)))) (⟨⟨96006006,st_a.next+1+1⟩,by rw[hs,List.length_append];simp only[go_sem, ↓reduceIte,Nat.reduceEqDiff,Nat.reduceAdd,Nat.reduceSub,Nat.reduceLeDiff,reduceCtorEq,List.length_cons,List.length_nil],by rw[hs,List.map_append,List.map_cons,List.map_nil];simp only[go_sem, ↓reduceIte,Nat.reduceEqDiff,Nat.reduceAdd,Nat.reduceSub,Nat.reduceLeDiff,reduceCtorEq,aP],aQ⟩)
  ·rw[if_neg hc,List.append_nil]at hs
   generalize bs[k]=b at *
   (try((repeat(revert N;apply Pn.out));refine wk (tw @a9 (tw @a0 (tw @a1 (tw @a2 (tw @a8 (tw @ag (tw @tj (tw @hk (tw @gL (tw @hc @aP.eq_1)))))))))) ?_;(repeat(apply Pn.mk;intro N Z))))
   exact dD (sd (tw @a9 (tw @a0 (tw @a1 @a2)))) (⟨o,by rw[hs];simp only[go_sem, ↓reduceIte,Nat.reduceEqDiff,Nat.reduceAdd,Nat.reduceSub,Nat.reduceLeDiff,reduceCtorEq,a8],by rw[hs];simp only[go_sem, ↓reduceIte,Nat.reduceEqDiff,Nat.reduceAdd,Nat.reduceSub,Nat.reduceLeDiff,reduceCtorEq,ag],aQ⟩)
 have mM:k=bs.length:=ah
 subst mM
 rw[List.take_length]at a8 ag
 have K4:=E7 cnt hn (bx t bs) (fun b h=>hb b (zO h)) (by have:=pf t bs;omega)
 have hL:=xg (bx t bs)
 have K3:fz (eL st_a.get) 6 (.own o 0 (bx t bs).length)=some (.sl ((bx t bs).map aP)):=kM (sz:=3) (by simp[eL,ag]) rfl fun b=>Cl _ 4 b
 have hfz2:∀x,eI (eL st_a.get) 6 [.int .i64 x,.own o 0 (bx t bs).length]=some [.int .i64 x,.sl ((bx t bs).map aP)]:=fun x=>by simp only[ar,ax,aW,K3,Option.map_some]
 (try((repeat(revert N;apply Pn.out));refine wk (tw @a9 (tw @a0 (tw @a1 (tw @a2 (tw @a8 @hk))))) ?_;(repeat(apply Pn.mk;intro N Z))))
 refine .inl ⟨_,ay.x K4 (hfz2 _),?_⟩
 apply Z
 clear Z N
 generalize ft (bx t bs)=L at *
 have vp:((gN cnt L).map Dq).length=(leads cnt L).length:=by simp[gN]
 have Y0:=kQ cnt L
 have kG:(0:Int)<=(cnt:Int):=ah
 have pI:(cnt:Int)<=((16777216:Nat):Int):=ah
 have iF:List.replicate cnt [AV.int .i64 0]=eO (dM cnt L 0 0) cnt:=by rw[zR,qN]
 (try((repeat(revert N;apply Pn.out));refine wk (tw @a9 (tw @a0 (tw @a1 (tw @a2 (tw @kG (tw @pI @Int.le_refl)))))) ?_;(repeat(apply Pn.mk;intro N Z))))
 refine bz (fun n env st=>∃i:Nat,n=((leads cnt L).length)-i/\i<=((leads cnt L).length)/\env 12=.int .i64 (i:Int)/\st.get ⟨96008001,st_a.next+1+1⟩=some ⟨true,1,eO (dM cnt L i 0) cnt⟩/\(st_a.next+1+1<st.next)) ((leads cnt L).length) ⟨0,ah,ah,sl (tw @a9 (tw @a0 (tw @a1 (tw @a2 @iF)))),sl (tw @a9 (tw @a0 (tw @a1 (tw @a2 @iF)))),aQ⟩ ?_
 rintro n_c env_c st_c ⟨i,rfl,cle,qt,cg0,cI0⟩ il
 have c1:=il 1 (by kernel_rfl);have gz:=il 10 (by kernel_rfl);have pR:=il 11 (by kernel_rfl)
 simp only[go_sem, ↓reduceIte,Nat.reduceEqDiff,Nat.reduceAdd,Nat.reduceSub,Nat.reduceLeDiff,reduceCtorEq,a9,a0,a1,a2,iF]at c1 gz pR
 clear il
 by_cases hi:(i:Int)<((leads cnt L).length:Int)
 ·have fJ:∀{e:Env} {gg:Rows} {nx:Nat},(e 12=.int .i64 (IntKind.i64.wrap ((i:Int)+1)))->(gg ⟨96008001,st_a.next+1+1⟩=some ⟨true,1,eO (dM cnt L (i+1) 0) cnt⟩)->(st_a.next+1+1<nx)->∃m0,m0<((leads cnt L).length)-i/\∃i:Nat,m0=((leads cnt L).length)-i/\i<=((leads cnt L).length)/\e 12=.int .i64 (i:Int)/\gg ⟨96008001,st_a.next+1+1⟩=some ⟨true,1,eO (dM cnt L i 0) cnt⟩/\(st_a.next+1+1<nx):=fun x1 x2 x3=>⟨_,ah,i+1,rfl,ah,(by rw[x1,aK ah]),x2,x3⟩
  have fZ:i<(leads cnt L).length:=ah
  have iZ:((gN cnt L).map Dq)[i]? =some (Dq (members cnt L (leads cnt L)[i])):=by simp[gN,fZ]
  have rz:(leads cnt L).getD i 0=(leads cnt L)[i]:=by simp[List.getD_eq_getElem?_getD,fZ]
  have mO:∀m,dM cnt L i m=fun x=>if di L x<i then di L x else if x∈(members cnt L (leads cnt L)[i]).take m then i else 0:=fun m=>by unfold dM;rw[rz]
  have uv:=fun x (hx:x<cnt)=>wu hL (n:=cnt) (k:=x) (i:=i) hx fZ
  have pU:(members cnt L (leads cnt L)[i]).Nodup:=List.nodup_range.filter _
  have S7:∀x∈members cnt L (leads cnt L)[i],x<cnt:=fun x hx=>(nq.1 hx).1
  have hMc:(members cnt L (leads cnt L)[i]).length<=cnt:=by
   have:=List.length_filter_le (fun k=>L k==(leads cnt L)[i]) (List.range cnt)
   simpa[members]using this
  generalize members cnt L (leads cnt L)[i]=M at *
  have F0:(M.map eN).length=M.length:=by simp
  (try((repeat(revert N;apply Pn.out));refine wk (tw @qt (tw @cg0 (tw @c1 (tw @gz (tw @pR (tw @hi @vp)))))) ?_;(repeat(apply Pn.mk;intro N Z))))
  refine bz (fun n env st=>∃m:Nat,n=(M.length)-m/\m<=(M.length)/\env 13=.int .i64 (m:Int)/\st.get ⟨96008001,st_a.next+1+1⟩=some ⟨true,1,eO (dM cnt L i m) cnt⟩/\(st_a.next+1+1<st.next)) (M.length) ⟨0,ah,ah,sl (tw @qt (tw @cg0 (tw @c1 (tw @gz @pR)))),sl (tw @qt (tw @cg0 (tw @c1 (tw @gz @pR)))),aQ⟩ ?_
  rintro n_d env_d st_d ⟨m,rfl,dle,d13,dg0,dI0⟩ dfr
  have d1:=dfr 1 (by kernel_rfl);have d10:=dfr 10 (by kernel_rfl);have d11:=dfr 11 (by kernel_rfl);have d12:=dfr 12 (by kernel_rfl)
  simp only[go_sem, ↓reduceIte,Nat.reduceEqDiff,Nat.reduceAdd,Nat.reduceSub,Nat.reduceLeDiff,reduceCtorEq,qt,cg0,c1,gz,pR]at d1 d10 d11 d12
  clear dfr
  have tl:=iA (dM cnt L i m) cnt
  by_cases hm:(m:Int)<(M.length:Int)
  ·have xj:∀{e:Env} {gg:Rows} {nx:Nat},(e 13=.int .i64 (IntKind.i64.wrap ((m:Int)+1)))->(gg ⟨96008001,st_a.next+1+1⟩=some ⟨true,1,eO (dM cnt L i (m+1)) cnt⟩)->(st_a.next+1+1<nx)->∃m0,m0<(M.length)-m/\∃m:Nat,m0=(M.length)-m/\m<=(M.length)/\e 13=.int .i64 (m:Int)/\gg ⟨96008001,st_a.next+1+1⟩=some ⟨true,1,eO (dM cnt L i m) cnt⟩/\(st_a.next+1+1<nx):=fun x1 x2 x3=>⟨_,ah,m+1,rfl,ah,(by rw[x1,aK ah]),x2,x3⟩
   have Cx:m<M.length:=ah
   have vz:(M.map eN)[m]? =some (eN M[m]):=by simp[Cx]
   have yZ:=S7 _ (List.getElem_mem Cx)
   have Ga:(M[m]:Int)<(cnt:Int):=ah
   have IC:=gF (f:=dM cnt L i m) yZ
   have fx:(eO (dM cnt L i m) cnt).set M[m] (eN i)=eO (dM cnt L i (m+1)) cnt:=rV yZ (by
    have h1:=(uv _ yZ).1 (List.getElem_mem Cx)
    rw[mO]
    simp only[]
    rw[if_neg ah,if_pos (by rw[List.take_succ_eq_append_getElem Cx];exact List.mem_append_right _ (List.mem_singleton.2 rfl))]) fun x hx ig=>by
    rw[mO,mO]
    simp only[]
    rw[List.take_succ_eq_append_getElem Cx]
    simp only[List.mem_append,List.mem_singleton,ig,or_false]
   rw[eN]at fx IC
   generalize M[m]=xm at *
   (try((repeat(revert N;apply Pn.out));refine wk (tw @d13 (tw @dg0 (tw @d1 (tw @d10 (tw @d11 (tw @d12 (tw @hm (tw @hi (tw @iZ (tw @vp (tw @vz (tw @F0 (tw @Ga (tw @IC (tw @tl (tw @fx (tw @Dq.eq_1 @eN.eq_1))))))))))))))))) ?_;(repeat(apply Pn.mk;intro N Z))))
   refine xj ?_ ?_ aQ
   all_goals simp only[go_sem, ↓reduceIte,Nat.reduceEqDiff,Nat.reduceAdd,Nat.reduceSub,Nat.reduceLeDiff,reduceCtorEq,d13,dg0,d1,d10,d11,d12,fx]
  ·have gU:m=M.length:=ah
   subst gU
   have qb:eO (dM cnt L i M.length) cnt=eO (dM cnt L (i+1) 0) cnt:=je fun x hx=>by
    rw[mO,List.take_length]
    simp only[dM,List.take_zero,List.not_mem_nil,if_false]
    have h1:=uv x hx
    by_cases h2:di L x<i
    ·rw[if_pos h2,if_pos ah]
    ·rw[if_neg h2]
     by_cases h3:x∈M
     ·rw[if_pos h3,if_pos (by have:=h1.1 h3;omega),h1.1 h3]
     ·rw[if_neg h3,if_neg fun h4=>h3 (h1.2 ah)]
   (try((repeat(revert N;apply Pn.out));refine wk (tw @d13 (tw @dg0 (tw @d1 (tw @d10 (tw @d11 (tw @d12 (tw @hm (tw @hi (tw @iZ (tw @vp (tw @F0 @Dq.eq_1))))))))))) ?_;(repeat(apply Pn.mk;intro N Z))))
   refine fJ ?_ ?_ aQ
   all_goals simp only[go_sem, ↓reduceIte,Nat.reduceEqDiff,Nat.reduceAdd,Nat.reduceSub,Nat.reduceLeDiff,reduceCtorEq,qt,cg0,c1,gz,pR,d13,dg0,d1,d10,d11,d12,qb]
 have lU:i=(leads cnt L).length:=ah
 subst lU
 have lV:eO (dM cnt L (leads cnt L).length 0) cnt=eO (di L) cnt:=je fun x hx=>by rw[dM,if_pos (lD hL hx)]
 rw[lV]at cg0
 have tl:=iA (di L) cnt
 (try((repeat(revert N;apply Pn.out));refine wk (tw @qt (tw @cg0 (tw @c1 (tw @gz (tw @pR (tw @hi @vp)))))) ?_;(repeat(apply Pn.mk;intro N Z))))
 have YO:st_a.next+1+1<st_c.next:=cI0
 refine bz (fun n env st=>∃j:Nat,n=(bs.length)-j/\j<=(bs.length)/\env 15=.int .i64 (j:Int)/\st.get ⟨96008001,st_a.next+1+1⟩=some ⟨true,1,eO (di L) cnt⟩/\(∃p:Id,env 14=.own p 0 (gj L (bs.take j)).length/\st.get p=some ⟨true,3,(gj L (bs.take j)).map aP⟩/\st_c.next<=p.bj/\p.bj<st.next)) (bs.length) ⟨0,ah,ah,sl (tw @qt (tw @cg0 (tw @c1 (tw @gz @pR)))),sl (tw @qt (tw @cg0 (tw @c1 (tw @gz @pR)))),⟨⟨96016000,st_c.next+1⟩,by(simp only[go_sem, ↓reduceIte,Nat.reduceEqDiff,Nat.reduceAdd,Nat.reduceSub,Nat.reduceLeDiff,reduceCtorEq])<;>rfl,by(simp only[go_sem, ↓reduceIte,Nat.reduceEqDiff,Nat.reduceAdd,Nat.reduceSub,Nat.reduceLeDiff,reduceCtorEq])<;>rfl,aQ,aQ⟩⟩ ?_
 rintro n_f env_f st_f ⟨j,rfl,fle,f15,fg0,fI0⟩ ffr
 have f1:=ffr 1 (by kernel_rfl);have f10:=ffr 10 (by kernel_rfl);have f11:=ffr 11 (by kernel_rfl)
 simp only[go_sem, ↓reduceIte,Nat.reduceEqDiff,Nat.reduceAdd,Nat.reduceSub,Nat.reduceLeDiff,reduceCtorEq,qt,cg0,c1,gz,pR]at f1 f10 f11
 clear ffr
 obtain⟨p,f14,fg,Tc,Iw⟩:=fI0
 have x1:=dP (a:=⟨96008001,st_a.next+1+1⟩) (b:=p) aQ
 have Dv:=dh Iw
 have hvn:st_a.next+1+1<st_f.next:=ah
 have JV:=dh (i:=⟨96008001,st_a.next+1+1⟩) (n:=st_f.next) hvn
 have z6:=(pe L (bs.take j)).2
 rw[List.length_take]at z6
 by_cases hj:(j:Int)<(bs.length:Int)
 ·have uL:∀{e:Env} {gg:Rows} {nx:Nat},(e 15=.int .i64 (IntKind.i64.wrap ((j:Int)+1)))->(gg ⟨96008001,st_a.next+1+1⟩=some ⟨true,1,eO (di L) cnt⟩)->(∃p:Id,e 14=.own p 0 (gj L (bs.take (j+1))).length/\gg p=some ⟨true,3,(gj L (bs.take (j+1))).map aP⟩/\st_c.next<=p.bj/\p.bj<nx)->∃m0,m0<(bs.length)-j/\∃j:Nat,m0=(bs.length)-j/\j<=(bs.length)/\e 15=.int .i64 (j:Int)/\gg ⟨96008001,st_a.next+1+1⟩=some ⟨true,1,eO (di L) cnt⟩/\(∃p:Id,e 14=.own p 0 (gj L (bs.take j)).length/\gg p=some ⟨true,3,(gj L (bs.take j)).map aP⟩/\st_c.next<=p.bj/\p.bj<nx):=fun x1 x2 x3=>⟨_,ah,j+1,rfl,ah,(by rw[x1,aK ah]),x2,x3⟩
  have nk:j<bs.length:=ah
  have Cu:(bs.map aP)[j]? =some (aP bs[j]):=by simp[nk]
  have Ph:=hb _ (List.getElem_mem nk)
  have hs:=C4 L (bs.take j) bs[j]
  rw[<-List.take_succ_eq_append_getElem nk]at hs
  generalize bs[j]=b at *
  have hA:=gF (f:=di L) Ph.1
  have hB:=gF (f:=di L) Ph.2
  have iR:(b.a:Int)<(cnt:Int):=ah
  have gH:(b.b:Int)<(cnt:Int):=ah
  have YG:=E5 (di L b.a) (di L b.b)
  have YH:=E4 (di L b.a) (di L b.b)
  rw[eN]at hA hB
  by_cases he:di L b.a=di L b.b
  ·rw[if_pos he,List.append_nil]at hs
   have w7:decide ((di L b.a:Int)=(di L b.b:Int))=true:=decide_eq_true (by rw[he])
   (try((repeat(revert N;apply Pn.out));refine wk (tw @f15 (tw @fg0 (tw @f1 (tw @f10 (tw @f11 (tw @f14 (tw @fg (tw @hj (tw @Cu (tw @hA (tw @hB (tw @iR (tw @gH (tw @tl (tw @w7 (tw @x1 (tw @Dv @aP.eq_1))))))))))))))))) ?_;(repeat(apply Pn.mk;intro N Z))))
   refine uL ?_ ?_ (⟨p,by rw[hs];simp only[go_sem, ↓reduceIte,Nat.reduceEqDiff,Nat.reduceAdd,Nat.reduceSub,Nat.reduceLeDiff,reduceCtorEq,f14],by rw[hs];simp only[go_sem, ↓reduceIte,Nat.reduceEqDiff,Nat.reduceAdd,Nat.reduceSub,Nat.reduceLeDiff,reduceCtorEq,fg],Tc,aQ⟩)
   all_goals simp only[go_sem, ↓reduceIte,Nat.reduceEqDiff,Nat.reduceAdd,Nat.reduceSub,Nat.reduceLeDiff,reduceCtorEq,f15,fg0,f1,f10,f11]
  ·rw[if_neg he]at hs
   have w7:decide ((di L b.a:Int)=(di L b.b:Int))=false:=decide_eq_false fun h=>he ah
   have e1:(gj L (bs.take j)).length+1<=16777216:=ah
   have gU:((gj L (bs.take j)).map aP).length=(gj L (bs.take j)).length:=by simp
   (have zF:=tw @f15 (tw @fg0 (tw @f1 (tw @f10 (tw @f11 (tw @f14 (tw @fg (tw @hj (tw @Cu (tw @hA (tw @hB (tw @iR (tw @gH (tw @tl (tw @w7 (tw @x1 (tw @Dv (tw @JV (tw @e1 (tw @gU @aP.eq_1)))))))))))))))))));(repeat(first|((repeat(revert N;apply Pn.out));refine wk zF ?_;(repeat(apply Pn.mk;intro N Z)))|((try apply Or.inl);refine⟨_,ay.x (YG) (sd zF),?_⟩;apply Z;clear Z N)|((try apply Or.inl);refine⟨_,ay.x (YH) (sd zF),?_⟩;apply Z;clear Z N)));try clear zF)
   refine uL ?_ ?_ (⟨⟨96023014,st_f.next+1+1+1+1⟩,by rw[hs,List.length_append];simp only[go_sem, ↓reduceIte,Nat.reduceEqDiff,Nat.reduceAdd,Nat.reduceSub,Nat.reduceLeDiff,reduceCtorEq,List.length_cons,List.length_nil],by rw[hs,List.map_append,List.map_cons,List.map_nil];simp only[go_sem, ↓reduceIte,Nat.reduceEqDiff,Nat.reduceAdd,Nat.reduceSub,Nat.reduceLeDiff,reduceCtorEq,aP],aQ,aQ⟩)
   all_goals simp only[go_sem, ↓reduceIte,Nat.reduceEqDiff,Nat.reduceAdd,Nat.reduceSub,Nat.reduceLeDiff,reduceCtorEq,f15,fg0,f1,f10,f11,x1,JV]
 ·have iH:j=bs.length:=ah
  subst iH
  rw[List.take_length]at f14 fg
  (try((repeat(revert N;apply Pn.out));refine wk (tw @f15 (tw @fg0 (tw @f1 (tw @f10 (tw @f11 (tw @f14 (tw @hj @vp))))))) ?_;(repeat(apply Pn.mk;intro N Z))))
  refine km (.inl rfl) (r1:=.int .i64 ((leads cnt L).length:Int)) (sd @Nat.zero_add) (by simp only[go_sem, ↓reduceIte,Nat.reduceEqDiff,Nat.reduceAdd,Nat.reduceSub,Nat.reduceLeDiff,reduceCtorEq];rfl) ?_
  have h1:iq st_f.get 5 (.own p 0 (gj L bs).length)=some (.sl ((gj L bs).map aP)):=eP (sz:=3) fg rfl fun b=>xU _ 3 b
  simp only[eR,bc,bY,dG,h1,Option.map_some]
end Go.Proofs.YtiabgllilcfheaaGreat.V

namespace Go.Proofs.YtiabgllilcfheaaGreat.V
def HY (bs:List PB) (e v:Nat):Prop:=(dq bs e).a=v∨(dq bs e).b=v
def jQ (bs:List PB) (m v:Nat):List Nat:=(List.range m).filter fun i=>(dq bs i).a==v||(dq bs i).b==v
theorem uD {bs:List PB} {m v e:Nat}:e∈jQ bs m v↔e<m/\HY bs e v:=by simp[jQ,HY]
theorem J0 (bs:List PB) (m v:Nat):jQ bs (m+1) v=jQ bs m v++if (dq bs m).a=v∨(dq bs m).b=v then[m]else[]:=by
 unfold jQ
 rw[List.range_succ,List.filter_append]
 congr 1
 by_cases h:(dq bs m).a=v<;>by_cases h2:(dq bs m).b=v<;>simp[h,h2]
theorem uC (bs:List PB) (m v:Nat):(jQ bs m v).length<=m:=by
 have:=List.length_filter_le (fun i=>(dq bs i).a==v||(dq bs i).b==v) (List.range m)
 simpa[jQ]using this
def pq (cnt:Nat) (bs:List PB):Prop:=∀e,e<bs.length->(dq bs e).a<cnt/\(dq bs e).b<cnt/\(dq bs e).a≠(dq bs e).b
theorem qQ {cnt:Nat} {bs:List PB} (h:pq cnt bs) {e v:Nat} (he:e<bs.length):dj bs e v<cnt:=by
 have:=h e he;unfold dj;split;exact this.2.1;exact this.1
theorem MY {cnt:Nat} {bs:List PB} (h:pq cnt bs) {e v:Nat} (he:e<bs.length) (hi:HY bs e v):dj bs e v≠v:=by
 have h1:=(h e he).2.2
 unfold dj
 split
 ·rename_i ha;rw[<-ha];exact fun h=>h1 h.symm
 ·rename_i ha;rcases hi with hi|hi
  ·exact absurd hi ha
  ·rw[<-hi];exact h1
theorem BG {bs:List PB} {e v:Nat}:HY bs e (dj bs e v):=by
 unfold dj HY;split
 ·exact .inr rfl
 ·exact .inl rfl
theorem qR {cnt:Nat} {bs:List PB} (h:pq cnt bs) {e v:Nat} (he:e<bs.length) (hi:HY bs e v):dj bs e (dj bs e v)=v:=by
 have h1:=(h e he).2.2
 unfold dj
 by_cases ha:(dq bs e).a=v
 ·rw[if_pos ha,if_neg h1];exact ha
 ·rw[if_neg ha,if_pos rfl]
  rcases hi with hi|hi
  ·exact absurd hi ha
  ·exact hi
structure B6 (cnt:Nat) (bs:List PB) (f:Nat->Int) (y:Nat) (out:Nat->Int):Prop where
 lo:∀v,v<cnt->-1<=out v/\out v<=cnt
 first:out y=0
 zero:∀v,v<cnt->out v=0->v=y
 down:∀v,v<cnt->0<out v->∃e,e<bs.length/\HY bs e v/\0<gV bs f e v/\out (dj bs e v)=out v-1
 shut:∀e v,e<bs.length->HY bs e v->0<=out (dj bs e v)->0<gV bs f e v->0<=out v
structure Dk (cnt:Nat) (bs:List PB) (f:Nat->Int) (y:Nat) (out:Nat->Int) (Q:List Nat) (i:Nat):Prop where
 nd:Q.Nodup
 lt:∀x∈Q,x<cnt
 iff:∀v,v<cnt->(0<=out v↔v∈Q)
 lo:∀v,v<cnt->-1<=out v
 first:out y=0
 up:∀j (h:j<Q.length),out Q[j]<=j
 zero:∀v,v<cnt->out v=0->v=y
 down:∀v,v<cnt->0<out v->∃e,e<bs.length/\HY bs e v/\0<gV bs f e v/\out (dj bs e v)=out v-1
 shut:∀j (h:j<Q.length),j<i->∀e,e<bs.length->HY bs e Q[j]->0<gV bs f e (dj bs e Q[j])->0<=out (dj bs e Q[j])
section
variable {cnt:Nat} {bs:List PB} {f:Nat->Int} {y:Nat} {out:Nat->Int} {Q:List Nat} {i:Nat}
theorem Dk.start (hy:y<cnt):Dk cnt bs f y (fun v=>if v=y then 0 else -1) [y] 0 where
 nd:=by simp
 lt:=fun x hx=>by rw[List.mem_singleton.1 hx];exact hy
 iff:=fun v _=>by
  by_cases h:v=y<;>simp[h]
 lo:=fun v _=>by split<;>omega
 first:=if_pos rfl
 up:=fun j h=>by
  have:j=0:=by simp at h;omega
  subst this;simp
 zero:=fun v _ h=>by
  by_cases hv:v=y
  ·exact hv
  ·rw[if_neg hv]at h;omega
 down:=fun v _ h=>by
  by_cases hv:v=y
  ·rw[if_pos hv]at h;omega
  ·rw[if_neg hv]at h;omega
 shut:=fun j h hj=>by omega
theorem Dk.len (h:Dk cnt bs f y out Q i):Q.length<=cnt:=qO cnt Q h.nd h.lt
theorem Dk.visit (h:Dk cnt bs f y out Q i) (ok:pq cnt bs) (hi:i<Q.length) {e:Nat} (he:e<bs.length) (sj:HY bs e Q[i]) (ly:out (dj bs e Q[i])<0) (fE:0<gV bs f e (dj bs e Q[i])):
  Dk cnt bs f y (fun v=>if v=dj bs e Q[i]then out Q[i]+1 else out v) (Q++[dj bs e Q[i]]) i:=by
 have Rs:0<=out Q[i]:=(h.iff _ (h.lt _ (List.getElem_mem hi))).2 (List.getElem_mem hi)
 have hq:=qQ ok (v:=Q[i]) he
 have ig:=MY ok he sj
 have Xo:=qR ok he sj
 have hnin:dj bs e Q[i]∉Q:=fun hm=>by have:=(h.iff _ hq).2 hm;omega
 have mO:=h.up i hi
 generalize hw:dj bs e Q[i]=w at *
 have uF:∀v,0<=out v->(if v=w then out Q[i]+1 else out v)=out v:=fun v hv=>by
  rw[if_neg];rintro rfl;omega
 have mono:∀v,0<=out v->0<=(if v=w then out Q[i]+1 else out v):=fun v hv=>by rw[uF v hv];exact hv
 refine⟨?_,?_,?_,?_,?_,?_,?_,?_,?_⟩
 ·rw[List.nodup_append]
  exact⟨h.nd,by simp,fun a ha b hb=>by rw[List.mem_singleton.1 hb];rintro rfl;exact hnin ha⟩
 ·intro x hx
  rcases List.mem_append.1 hx with hx|hx
  ·exact h.lt x hx
  ·rw[List.mem_singleton.1 hx];exact hq
 ·intro v hv
  by_cases IA:v=w
  ·subst IA;simp;omega
  ·rw[if_neg IA,h.iff v hv];simp[IA]
 ·intro v hv
  by_cases IA:v=w
  ·rw[if_pos IA];omega
  ·rw[if_neg IA];exact h.lo v hv
 ·rw[uF y (by rw[h.first];exact Int.le_refl _)];exact h.first
 ·intro j hj
  by_cases iH:j<Q.length
  ·rw[List.getElem_append_left iH,uF _ ((h.iff _ (h.lt _ (List.getElem_mem iH))).2 (List.getElem_mem iH))]
   exact h.up j iH
  ·have Pq:j=Q.length:=by simp at hj;omega
   subst Pq
   simp
   omega
 ·intro v hv h0
  by_cases IA:v=w
  ·rw[if_pos IA]at h0;omega
  ·rw[if_neg IA]at h0;exact h.zero v hv h0
 ·intro v hv h0
  by_cases IA:v=w
  ·subst IA
   rw[if_pos rfl]
   refine⟨e,he,by rw[<-hw];exact BG,fE,?_⟩
   rw[Xo,uF _ Rs];omega
  ·rw[if_neg IA]at h0 ⊢
   obtain⟨e',h1,h2,h3,h4⟩:=h.down v hv h0
   exact⟨e',h1,h2,h3,by rw[uF _ ah];exact h4⟩
 ·intro j hj nC e' Ct Rm hr
  have iH:j<Q.length:=ah
  rw[List.getElem_append_left iH]at Rm hr ⊢
  exact mono _ (h.shut j iH nC e' Ct Rm hr)
theorem Dk.next (h:Dk cnt bs f y out Q i) (hi:i<Q.length) (hs:∀e∈jQ bs bs.length Q[i],0<gV bs f e (dj bs e Q[i])->0<=out (dj bs e Q[i])):Dk cnt bs f y out Q (i+1):=
 ⟨h.nd,h.lt,h.iff,h.lo,h.first,h.up,h.zero,h.down,fun j hj nC e he sj hr=>by
  by_cases Pq:j=i
  ·subst Pq;exact hs e (uD.2 ⟨he,sj⟩) hr
  ·exact h.shut j hj ah e he sj hr⟩
theorem Dk.done (h:Dk cnt bs f y out Q i) (ok:pq cnt bs) (hi:Q.length<=i):B6 cnt bs f y out where
 lo:=fun v hv=>⟨h.lo v hv,by
  by_cases h0:0<=out v
  ·obtain⟨j,hj,rfl⟩:=List.getElem_of_mem ((h.iff v hv).1 h0)
   have:=h.up j hj
   have:=h.len
   omega
  ·omega⟩
 first:=h.first
 zero:=h.zero
 down:=h.down
 shut:=fun e v he sj h0 hr=>by
  obtain⟨j,hj,VD⟩:=List.getElem_of_mem ((h.iff _ (qQ ok he)).1 h0)
  have h2:=h.shut j hj ah e he (by rw[VD];exact BG)
  rw[VD,qR ok he sj]at h2
  exact h2 hr
end
end Go.Proofs.YtiabgllilcfheaaGreat.V

namespace Go.Proofs.YtiabgllilcfheaaGreat.V
open Go.RowKit
attribute [local irreducible] eC wpOps gi Call
attribute [local go_sem] aM fP fa fX fW du upd cz K.av cP AV.cells AV.cell rowOf rowsOf part ld rowAt bL cu dK eb gK bP de eu fS fq dx ef db da dR dS bU bf cU bR cW cV dW eh ee cR bW dd ec bQ aL cY cH gJ bF cL bV aY dr bq dL AV.undef bJ bK dV dY dQ dU cK er ez cF ej ei cX cZ List.getD_cons_zero List.getD_cons_succ List.getD_nil List.all_cons List.all_nil Bool.and_true Bool.true_and Bool.and_self Bool.not_true Bool.not_false Option.map_some Option.map_none Option.bind_some Option.bind_none List.length_cons List.length_nil List.take_succ_cons List.take_zero List.take_nil List.drop_succ_cons List.drop_zero List.drop_nil List.head?_cons List.map_cons List.map_nil List.getElem?_cons_zero List.getElem?_cons_succ List.cons_append List.nil_append List.append_nil List.length_map List.set_cons_zero List.set_cons_succ Nat.reduceMul eq_self Int.toNat_natCast Int.natCast_nonneg and_self true_and and_true decide_true decide_false Bool.false_eq_true Nat.zero_add Nat.add_zero List.contains_cons List.contains_nil Bool.or_false Bool.false_or beq_self_eq_true Nat.reduceBEq ne_eq not_true_eq_false not_false_eq_true Id.mk.injEq false_and and_false Nat.reduceLT Int.reduceLE Int.reduceLT Int.reduceToNat Int.reduceNeg Int.reduceAdd Nat.le_refl List.length_append beq_true beq_false Bool.not_eq_eq_eq_not or_false false_or eL ar ax aW bp bZ cw aV bH aU bh cQ bI
def ja (P:Program) (f:Nat) (args:List AV) (R:AV->Prop):Prop:=∀n:Nat,Call P f args ⟨fun _=>none,n⟩ fun r0 σ'=>∃r',iq σ'.get 6 r0=some r'/\R r'
theorem Jz {P:Program} {f:Nat} {args args':List AV} {g:Rows} {n:Nat} {R:AV->Prop} (hv:eI (eL g) 6 args=some args') (h:Sound P f args' ⟨fun _=>none,n⟩ fun r0 σ'=>∃r',iq σ'.get 6 r0=some r'/\R r'):Sound P f args ⟨g,n⟩ fun r σ'=>R r/\σ'=⟨g,n⟩:=by
 intro hs D ι w vs S U A
 refine(AH (g0:=g) (K:=R) ⟨args',hv,h⟩ (fun _ _ h=>h) S U A).mono ?_
 rintro e w' ⟨r,D',u,rfl,hR,T,S',hr⟩
 exact⟨r,g,n,D',ι,u,rfl,⟨hR,rfl⟩,T,S',U,Nat.le_refl _,hr⟩
theorem ja.x {P:Program} (hm:P.follows .mixedOrders=true) {f:Nat} {args args':List AV} {R:AV->Prop} (h:ja P f args' R) {σ:az} (hv:eI (eL σ.get) 6 args=some args'):Call P f args σ fun r σ'=>R r/\σ'=σ:=
 gG (Jz hv (iE hm (h σ.next)))
theorem ja.body {P:Program} {f:Nat} {args:List AV} {R:AV->Prop} {nt na:Nat} {body:VC} {res:List pN} (hf:FZ P f=some ⟨nt,na,body,res⟩) (ha:na=args.length) (h:(∀a∈args,fI a)->∀n:Nat,eC (Call P) body (mz res fun r0 σ'=>∃r',iq σ'.get 6 r0=some r'/\R r') (cz args) ⟨fun _=>none,n⟩):ja P f args R:=fun n=>nL hf ha fun hl=>h hl n
def fc (f:Nat->Int) (n:Nat):List (List AV):=(List.range n).map fun i=>aJ (f i)
theorem eM (f:Nat->Int) (n:Nat):(fc f n).length=n:=by simp[fc]
theorem eX {f:Nat->Int} {n i:Nat} (h:i<n):(fc f n)[i]? =some (aJ (f i)):=by simp[fc,h]
theorem mE {f g:Nat->Int} {n k:Nat} {v:Int} (hk:k<n) (hv:g k=v) (h:∀i,i<n->i≠k->g i=f i):(fc f n).set k (aJ v)=fc g n:=by
 refine List.ext_getElem? fun i=>?_
 rw[List.getElem?_set]
 by_cases hi:k=i
 ·subst hi
  rw[if_pos rfl,eM,if_pos hk,eX hk,hv]
 ·rw[if_neg hi]
  by_cases fZ:i<n
  ·rw[eX fZ,eX fZ,h i fZ (fun h=>hi h.symm)]
  ·rw[List.getElem?_eq_none (by rw[eM];omega),List.getElem?_eq_none (by rw[eM];omega)]
theorem KH (f:Nat->Int) (n:Nat):fc f (n+1)=fc f n++[aJ (f n)]:=by simp[fc,List.range_succ]
theorem fzI (g:Rows) (n:Nat) (a:Int):eI g (n+1) (aJ a)=some (aJ a):=by simp[aJ,ar,ax,aW]
theorem Sr (g:Rows) (n:Nat) (a:Int):fm g (n+1) (aJ a)=some (aJ a):=by simp[aJ,bc,bY,dG]
theorem NA {g:Rows} {f:Nat->Int} {n m:Nat}:iz g (m+1) (fc f n)=some (fc f n):=by
 have:fc f n=((List.range n).map f).map aJ:=by simp[fc]
 rw[this];exact wV fun x=>Sr g m x
theorem Dc {g:Rows} {f:Nat->Int} {n m:Nat}:fj g (m+1) (fc f n)=some (fc f n):=by
 have:fc f n=((List.range n).map f).map aJ:=by simp[fc]
 rw[this];exact oH fun x=>fzI g m x
def TV (l:List Nat):AV:=if l=[]then .br else .sl (l.map eN)
def sQ (cnt:Nat) (bs:List PB) (m:Nat):List (List AV):=(List.range cnt).map fun v=>[TV (jQ bs m v)]
theorem Gm {cnt:Nat} {bs:List PB} {m v:Nat} (h:v<cnt):(sQ cnt bs m)[v]? =some [TV (jQ bs m v)]:=by simp[sQ,h]
def im (cnt:Nat) (bs:List PB) (f:Nat->Int):List AV:=[.int .i64 cnt,.sl (bs.map aP),.sl (sQ cnt bs bs.length),.sl (fc f bs.length)]
theorem xP {bs:List PB} {e:Nat} (h:e<bs.length):(bs.map aP)[e]? =some (aP (dq bs e)):=getD_map aP h
def Small (bs:List PB) (f:Nat->Int):Prop:=∀e,e<bs.length->(0<=(dq bs e).s/\(dq bs e).s<=4)/\-4<=f e/\f e<=4
theorem Nr (cnt:Nat) (bs:List PB) (f:Nat->Int) (hs:Small bs f) (e v:Nat) (he:e<bs.length):ay Tryz.prog 163 [.dF (im cnt bs f),.int .i64 v,.int .i64 e] (.gM [.int .i64 (gV bs f e v),.int .i64 (dj bs e v)]):=by
 refine ay.body fR rfl fun hl n0=>?_
 clear hl
 have hb:=xP he
 have hf:=eX (f:=f) he
 obtain⟨⟨s0,s1⟩,s2,s3⟩:=hs e he
 have w1:IntKind.i64.wrap ((dq bs e).s-f e)=(dq bs e).s-f e:=cm ah
 have w2:IntKind.i64.wrap ((dq bs e).s+f e)=(dq bs e).s+f e:=cm ah
 unfold gV dj
 generalize dq bs e=b at *
 by_cases h:b.a=v
 ·have hd:decide ((b.a:Int)=(v:Int))=true:=decide_eq_true (by rw[h])
  (try((repeat(revert N;apply Pn.out));refine wk (tw @im.eq_1 (tw @hb (tw @hf (tw @aP.eq_1 (tw @aJ.eq_1 (tw @hd (tw @w1 @w2))))))) ?_;(repeat(apply Pn.mk;intro N Z))))
  refine km (.inl rfl) (by simp only[go_sem, ↓reduceIte,Nat.reduceEqDiff,Nat.reduceAdd,Nat.reduceSub,Nat.reduceLeDiff,reduceCtorEq];rfl) (by simp only[go_sem, ↓reduceIte,Nat.reduceEqDiff,Nat.reduceAdd,Nat.reduceSub,Nat.reduceLeDiff,reduceCtorEq];rfl) ?_
  simp only[eR,bc,bY,dG,Option.map_some,if_pos h]
 ·have hd:decide ((b.a:Int)=(v:Int))=false:=decide_eq_false fun hc=>h ah
  (try((repeat(revert N;apply Pn.out));refine wk (tw @im.eq_1 (tw @hb (tw @hf (tw @aP.eq_1 (tw @aJ.eq_1 (tw @hd (tw @w1 @w2))))))) ?_;(repeat(apply Pn.mk;intro N Z))))
  refine km (.inl rfl) (by simp only[go_sem, ↓reduceIte,Nat.reduceEqDiff,Nat.reduceAdd,Nat.reduceSub,Nat.reduceLeDiff,reduceCtorEq];rfl) (by simp only[go_sem, ↓reduceIte,Nat.reduceEqDiff,Nat.reduceAdd,Nat.reduceSub,Nat.reduceLeDiff,reduceCtorEq];rfl) ?_
  simp only[eR,bc,bY,dG,Option.map_some,if_neg h]
theorem IY (cnt:Nat) (hn:cnt<=1048576) (bs:List PB) (ok:pq cnt bs) (iD:bs.length<=1048576) (f:Nat->Int) (hs:Small bs f) (y:Nat) (hy:y<cnt):
  ja Tryz.prog 146 [.dF (im cnt bs f),.int .i64 y] fun r=>∃out,r=.sl (fc out cnt)/\B6 cnt bs f y out:=by
 refine ja.body fR rfl fun hl n0=>?_
 clear hl
 (try((repeat(revert N;apply Pn.out));refine wk @im.eq_1 ?_;(repeat(apply Pn.mk;intro N Z))))
 refine bz (fun n env st=>∃k:Nat,n=(cnt)-k/\k<=(cnt)/\env 6=.int .i64 (k:Int)/\(∃o:Id,env 5=.own o 0 k/\st.get o=some ⟨true,1,fc (fun _=>-1) k⟩/\o.bj<st.next)) (cnt) ⟨0,ah,ah,sl @im.eq_1,⟨⟨146001000,n0+1⟩,by(simp only[go_sem, ↓reduceIte,Nat.reduceEqDiff,Nat.reduceAdd,Nat.reduceSub,Nat.reduceLeDiff,reduceCtorEq])<;>rfl,by(simp only[go_sem, ↓reduceIte,Nat.reduceEqDiff,Nat.reduceAdd,Nat.reduceSub,Nat.reduceLeDiff,reduceCtorEq])<;>rfl,aQ⟩⟩ ?_
 rintro n_a env_a st_a ⟨k,rfl,ale,a6,nh⟩ eE
 have a0:=eE 0 (by kernel_rfl);have a1:=eE 1 (by kernel_rfl)
 simp only[go_sem, ↓reduceIte,Nat.reduceEqDiff,Nat.reduceAdd,Nat.reduceSub,Nat.reduceLeDiff,reduceCtorEq,im]at a0 a1
 clear eE
 obtain⟨o,a5,ag,vD⟩:=nh
 have tl:=eM (fun _=>-1) k
 have tj:=dh vD
 by_cases hk:(k:Int)<(cnt:Int)
 ·have dD:∀{e:Env} {gg:Rows} {nx:Nat},(e 6=.int .i64 (IntKind.i64.wrap ((k:Int)+1)))->(∃o:Id,e 5=.own o 0 (k+1)/\gg o=some ⟨true,1,fc (fun _=>-1) (k+1)⟩/\o.bj<nx)->∃m0,m0<(cnt)-k/\∃k:Nat,m0=(cnt)-k/\k<=(cnt)/\e 6=.int .i64 (k:Int)/\(∃o:Id,e 5=.own o 0 k/\gg o=some ⟨true,1,fc (fun _=>-1) k⟩/\o.bj<nx):=fun x1 x2=>⟨_,ah,k+1,rfl,ah,(by rw[x1,aK ah]),x2⟩
  have e1:k+1<=16777216:=ah
  have sm:fc (fun _=>-1) k++[[.int .i64 (-1)]]=fc (fun _=>-1) (k+1):=(KH _ _).symm
  (try((repeat(revert N;apply Pn.out));refine wk (tw @a6 (tw @a0 (tw @a1 (tw @a5 (tw @ag (tw @tj (tw @hk (tw @tl (tw @e1 (tw @sm @im.eq_1)))))))))) ?_;(repeat(apply Pn.mk;intro N Z))))
  exact dD (sd (tw @a6 (tw @a0 (tw @a1 @im.eq_1)))) (⟨⟨146005002,st_a.next+1⟩,sd @Nat.zero_add,sd @sm,aQ⟩)
 have mM:k=cnt:=ah
 subst mM
 have Zi:(y:Int)<(k:Int):=ah
 have hym:=eX (f:=fun _=>-1) hy
 have EL:(fc (fun _=>-1) k).set y (aJ 0)=fc (fun v=>if v=y then 0 else -1) k:=mE hy (if_pos rfl) fun i _ hi=>if_neg hi
 rw[aJ]at EL hym
 (try((repeat(revert N;apply Pn.out));refine wk (tw @a6 (tw @a0 (tw @a1 (tw @a5 (tw @ag (tw @tj (tw @hk (tw @tl (tw @Zi (tw @hym (tw @EL @im.eq_1))))))))))) ?_;(repeat(apply Pn.mk;intro N Z))))
 refine bz (fun m env st=>∃(i:Nat) (out:Nat->Int) (Q:List Nat) (p:Id),m=k-i/\env 8=.int .i64 (i:Int)/\env 7=.own p 0 Q.length/\st.get p=some ⟨true,1,Q.map eN⟩/\st.get o=some ⟨true,1,fc out k⟩/\o.bj<p.bj/\p.bj<st.next/\Dk k bs f y out Q i/\i<=Q.length) k ⟨0,_,[y],⟨146007001,st_a.next+1+1⟩,ah,by(simp only[go_sem, ↓reduceIte,Nat.reduceEqDiff,Nat.reduceAdd,Nat.reduceSub,Nat.reduceLeDiff,reduceCtorEq])<;>rfl,by(simp only[go_sem, ↓reduceIte,Nat.reduceEqDiff,Nat.reduceAdd,Nat.reduceSub,Nat.reduceLeDiff,reduceCtorEq])<;>rfl,by(simp only[go_sem, ↓reduceIte,Nat.reduceEqDiff,Nat.reduceAdd,Nat.reduceSub,Nat.reduceLeDiff,reduceCtorEq])<;>rfl,sd @tj,aQ,aQ,Dk.start hy,by simp⟩ ?_
 rintro n env_b st_b ⟨i,out,Q,p,rfl,b8,b7,bgp,bgo,eS,hpn,hB,hiq⟩ fo
 have b0:=fo 0 (by kernel_rfl)
 have b5:=fo 5 (by kernel_rfl)
 simp only[go_sem, ↓reduceIte,Nat.reduceEqDiff,Nat.reduceAdd,Nat.reduceSub,Nat.reduceLeDiff,reduceCtorEq,a6,a0,a1,a5,im]at b0 b5
 clear fo
 have Pz:=hB.len
 have Zr:=eM out k
 have hqm:(Q.map eN).length=Q.length:=by simp
 have Dv:=dh hpn
 have l5:=dh (i:=o) (n:=st_b.next) ah
 by_cases hi:(i:Int)<(Q.length:Int)
 ·have fZ:i<Q.length:=ah
  have iZ:(Q.map eN)[i]? =some (eN Q[i]):=by simp[fZ]
  have Rs:=hB.lt _ (List.getElem_mem fZ)
  obtain⟨vt,Tn⟩:∃vt,vt=Q[i]:=⟨_,rfl⟩
  rw[<-Tn]at iZ Rs
  have hA:=Gm (cnt:=k) (bs:=bs) (m:=bs.length) Rs
  have PD:(vt:Int)<(k:Int):=ah
  have lU:=uC bs bs.length vt
  have hme:∀x,x<(jQ bs bs.length vt).length->(jQ bs bs.length vt).getD x 0<bs.length/\HY bs ((jQ bs bs.length vt).getD x 0) vt:=fun x hx=>by
   rw[List.getD_eq_getElem?_getD,List.getElem?_eq_getElem hx]
   exact uD.1 (List.getElem_mem hx)
  have VF:∀e∈jQ bs bs.length vt,∃x,x<(jQ bs bs.length vt).length/\(jQ bs bs.length vt).getD x 0=e:=fun e he=>by
   obtain⟨x,hx,rfl⟩:=List.getElem_of_mem he
   exact⟨x,hx,by rw[List.getD_eq_getElem?_getD,List.getElem?_eq_getElem hx];rfl⟩
  generalize hIn:jQ bs bs.length vt=I at *
  unfold TV at hA
  by_cases hI0:I=[]
  ·rw[if_pos hI0]at hA
   have hI1:I.length=0:=by rw[hI0];rfl
   (try((repeat(revert N;apply Pn.out));refine wk (tw @b0 (tw @b5 (tw @b7 (tw @b8 (tw @bgp (tw @hi (tw @iZ (tw @hqm (tw @eN.eq_1 @im.eq_1))))))))) ?_;(repeat(apply Pn.mk;intro N Z))))
   refine bz (fun n env st=>∃x:Nat,n=(I.length)-x/\x<=(I.length)/\env 10=.int .i64 (x:Int)/\(∃(jF:Nat->Int) (Q':List Nat) (p':Id),env 7=.own p' 0 Q'.length/\st.get p'=some ⟨true,1,Q'.map eN⟩/\st.get o=some ⟨true,1,fc jF k⟩/\o.bj<p'.bj/\p'.bj<st.next/\Dk k bs f y jF Q' i/\(∃h:i<Q'.length,Q'[i]=vt)/\(∀z,z<x->0<gV bs f (I.getD z 0) (dj bs (I.getD z 0) vt)->0<=jF (dj bs (I.getD z 0) vt)))) (I.length) ⟨0,ah,ah,sl (tw @b0 (tw @b5 (tw @b8 @im.eq_1))),⟨out,Q,p,sd @b7,sd @bgp,sd @bgo,eS,aQ,hB,⟨fZ,Tn.symm⟩,fun z hz=>ah⟩⟩ ?_
   rintro n_c env_c st_c ⟨x,rfl,cle,gz,cI0⟩ il
   have c0:=il 0 (by kernel_rfl);have c5:=il 5 (by kernel_rfl);have c8:=il 8 (by kernel_rfl);have c9:=il 9 (by kernel_rfl)
   simp only[go_sem, ↓reduceIte,Nat.reduceEqDiff,Nat.reduceAdd,Nat.reduceSub,Nat.reduceLeDiff,reduceCtorEq,b0,b5,b8,im]at c0 c5 c8 c9
   clear il
   obtain⟨jF,Q',p',c7,LF,AR,G3,Td,eH,⟨Am,ti⟩,OC⟩:=cI0
   have hql':=eH.len
   have TX:=eM jF k
   have Tf:(Q'.map eN).length=Q'.length:=by simp
   have CA:=dh Td
   have nT:=dh (i:=o) (n:=st_c.next) ah
   have x1:=dP G3
   have hx:¬(x:Int)<((0:Nat):Int):=ah
   have hxe:x=I.length:=ah
   have hw:IntKind.i64.wrap ((i:Int)+1)=((i+1:Nat):Int):=aK ah
   (try((repeat(revert N;apply Pn.out));refine wk (tw @gz (tw @c0 (tw @c5 (tw @c8 (tw @c9 (tw @c7 (tw @hx (tw @hA (tw @PD @im.eq_1))))))))) ?_;(repeat(apply Pn.mk;intro N Z))))
   refine⟨_,?_,i+1,jF,Q',p',rfl,sd (tw @gz (tw @c0 (tw @c5 (tw @c8 (tw @c9 @hw))))),sd @c7,sd @LF,sd @AR,G3,aQ,eH.next Am fun e he hr=>?_,ah⟩
   ·omega
   ·rw[ti,hIn]at he
    rw[ti]at hr ⊢
    obtain⟨z,hz,rfl⟩:=VF e he
    exact OC z ah hr
  ·rw[if_neg hI0]at hA
   have te:(I.map eN).length=I.length:=by simp
   (try((repeat(revert N;apply Pn.out));refine wk (tw @b0 (tw @b5 (tw @b7 (tw @b8 (tw @bgp (tw @hi (tw @iZ (tw @hqm (tw @eN.eq_1 @im.eq_1))))))))) ?_;(repeat(apply Pn.mk;intro N Z))))
   refine bz (fun n env st=>∃x:Nat,n=(I.length)-x/\x<=(I.length)/\env 10=.int .i64 (x:Int)/\(∃(jF:Nat->Int) (Q':List Nat) (p':Id),env 7=.own p' 0 Q'.length/\st.get p'=some ⟨true,1,Q'.map eN⟩/\st.get o=some ⟨true,1,fc jF k⟩/\o.bj<p'.bj/\p'.bj<st.next/\Dk k bs f y jF Q' i/\(∃h:i<Q'.length,Q'[i]=vt)/\(∀z,z<x->0<gV bs f (I.getD z 0) (dj bs (I.getD z 0) vt)->0<=jF (dj bs (I.getD z 0) vt)))) (I.length) ⟨0,ah,ah,sl (tw @b0 (tw @b5 (tw @b8 @im.eq_1))),⟨out,Q,p,sd @b7,sd @bgp,sd @bgo,eS,aQ,hB,⟨fZ,Tn.symm⟩,fun z hz=>ah⟩⟩ ?_
   rintro n_c env_c st_c ⟨x,rfl,cle,gz,cI0⟩ il
   have c0:=il 0 (by kernel_rfl);have c5:=il 5 (by kernel_rfl);have c8:=il 8 (by kernel_rfl);have c9:=il 9 (by kernel_rfl)
   simp only[go_sem, ↓reduceIte,Nat.reduceEqDiff,Nat.reduceAdd,Nat.reduceSub,Nat.reduceLeDiff,reduceCtorEq,b0,b5,b8,im]at c0 c5 c8 c9
   clear il
   obtain⟨jF,Q',p',c7,LF,AR,G3,Td,eH,⟨Am,ti⟩,OC⟩:=cI0
   have hql':=eH.len
   have TX:=eM jF k
   have Tf:(Q'.map eN).length=Q'.length:=by simp
   have CA:=dh Td
   have nT:=dh (i:=o) (n:=st_c.next) ah
   have x1:=dP G3
   by_cases hx:(x:Int)<(I.length:Int)
   ·have fJ:∀{e:Env} {gg:Rows} {nx:Nat},(e 10=.int .i64 (IntKind.i64.wrap ((x:Int)+1)))->(∃(jF:Nat->Int) (Q':List Nat) (p':Id),e 7=.own p' 0 Q'.length/\gg p'=some ⟨true,1,Q'.map eN⟩/\gg o=some ⟨true,1,fc jF k⟩/\o.bj<p'.bj/\p'.bj<nx/\Dk k bs f y jF Q' i/\(∃h:i<Q'.length,Q'[i]=vt)/\(∀z,z<(x+1)->0<gV bs f (I.getD z 0) (dj bs (I.getD z 0) vt)->0<=jF (dj bs (I.getD z 0) vt)))->∃m0,m0<(I.length)-x/\∃x:Nat,m0=(I.length)-x/\x<=(I.length)/\e 10=.int .i64 (x:Int)/\(∃(jF:Nat->Int) (Q':List Nat) (p':Id),e 7=.own p' 0 Q'.length/\gg p'=some ⟨true,1,Q'.map eN⟩/\gg o=some ⟨true,1,fc jF k⟩/\o.bj<p'.bj/\p'.bj<nx/\Dk k bs f y jF Q' i/\(∃h:i<Q'.length,Q'[i]=vt)/\(∀z,z<x->0<gV bs f (I.getD z 0) (dj bs (I.getD z 0) vt)->0<=jF (dj bs (I.getD z 0) vt))):=fun x1 x2=>⟨_,ah,x+1,rfl,ah,(by rw[x1,aK ah]),x2⟩
    have VP:x<I.length:=ah
    have Sz:(I.map eN)[x]? =some (eN (I.getD x 0)):=getD_map eN VP
    obtain⟨he,sj⟩:=hme x VP
    obtain⟨e,YQ⟩:∃e,e=I.getD x 0:=⟨_,rfl⟩
    rw[<-YQ]at Sz he sj
    have jz:=xP he
    have hq:=qQ ok (v:=vt) he
    have Xo:=qR ok he sj
    have OB:=Nr k bs f hs e (dj bs e vt) he
    have WZ:=ok e he
    have oP:IntKind.i64.wrap (((dq bs e).a:Int)+((dq bs e).b:Int))=((dq bs e).a:Int)+((dq bs e).b:Int):=cm ah
    have tk:IntKind.i64.wrap (((dq bs e).a:Int)+((dq bs e).b:Int)-(vt:Int))=(dj bs e vt:Int):=by
     rw[cm ah]
     unfold dj
     rcases sj with h1|h1
     ·rw[if_pos h1];omega
     ·rw[if_neg fun h2=>WZ.2.2 (h2.trans h1.symm)];omega
    have VK:(dj bs e vt:Int)<(k:Int):=ah
    have SS:=eX (f:=jF) hq
    have Po:=eX (f:=jF) Rs
    rw[im]at OB
    have mO:=eH.up i Am
    rw[ti]at mO
    have kH:=eH.lo vt Rs
    have hw3:IntKind.i64.wrap (jF vt+1)=jF vt+1:=cm ah
    rw[aJ]at SS Po
    generalize zY:dq bs e=b at *
    by_cases ly:jF (dj bs e vt)<0
    ·by_cases fE:0<gV bs f e (dj bs e vt)
     ·have hV:=eH.visit ok Am (e:=e) he (by rw[ti];exact sj) (by rw[ti];exact ly) (by rw[ti];exact fE)
      rw[ti]at hV
      have fx:(fc jF k).set (dj bs e vt) (aJ (jF vt+1))=fc (fun v=>if v=dj bs e vt then jF vt+1 else jF v) k:=mE hq (if_pos rfl) fun v _ hv=>if_neg hv
      rw[aJ]at fx
      have e1:Q'.length+1<=16777216:=ah
      (have zF:=tw @gz (tw @c0 (tw @c5 (tw @c8 (tw @c9 (tw @c7 (tw @LF (tw @AR (tw @hx (tw @hA (tw @te (tw @Sz (tw @PD (tw @jz (tw @oP (tw @tk (tw @VK (tw @SS (tw @Po (tw @ly (tw @fE (tw @hw3 (tw @fx (tw @Tf (tw @TX (tw @CA (tw @nT (tw @x1 (tw @e1 (tw @eN.eq_1 (tw @aP.eq_1 @im.eq_1))))))))))))))))))))))))))))));(repeat(first|((repeat(revert N;apply Pn.out));refine wk zF ?_;(repeat(apply Pn.mk;intro N Z)))|((try apply Or.inl);refine⟨_,ay.x (OB) (sd zF),?_⟩;apply Z;clear Z N)));try clear zF)
      exact fJ (sd (tw @gz (tw @c0 (tw @c5 (tw @c8 @c9))))) (⟨_,Q'++[dj bs e vt],⟨146020003,st_c.next+1+1+1+1+1+1⟩,by rw[List.length_append];simp only[go_sem, ↓reduceIte,Nat.reduceEqDiff,Nat.reduceAdd,Nat.reduceSub,Nat.reduceLeDiff,reduceCtorEq,List.length_cons,List.length_nil],by rw[List.map_append,List.map_cons,List.map_nil];simp only[go_sem, ↓reduceIte,Nat.reduceEqDiff,Nat.reduceAdd,Nat.reduceSub,Nat.reduceLeDiff,reduceCtorEq,eN],sd (tw @nT @x1),aQ,aQ,hV,⟨by simp;omega,by rw[List.getElem_append_left Am];exact ti⟩,fun z hz hr=>by
       by_cases XI:z=x
       ·subst XI
        rw[<-YQ,if_pos rfl]
        have:=(eH.iff vt Rs).2 (by rw[<-ti];exact List.getElem_mem Am)
        omega
       ·have:=OC z ah hr
        split
        ·have:=(eH.iff vt Rs).2 (by rw[<-ti];exact List.getElem_mem Am)
         omega
        ·exact this⟩)
     ·(have zF:=tw @gz (tw @c0 (tw @c5 (tw @c8 (tw @c9 (tw @c7 (tw @LF (tw @AR (tw @hx (tw @hA (tw @te (tw @Sz (tw @PD (tw @jz (tw @oP (tw @tk (tw @VK (tw @SS (tw @ly (tw @fE (tw @TX (tw @CA (tw @nT (tw @x1 (tw @eN.eq_1 (tw @aP.eq_1 @im.eq_1)))))))))))))))))))))))));(repeat(first|((repeat(revert N;apply Pn.out));refine wk zF ?_;(repeat(apply Pn.mk;intro N Z)))|((try apply Or.inl);refine⟨_,ay.x (OB) (sd zF),?_⟩;apply Z;clear Z N)));try clear zF)
      exact fJ (sd (tw @gz (tw @c0 (tw @c5 (tw @c8 @c9))))) (⟨jF,Q',p',sd @c7,sd (tw @LF @CA),sd (tw @AR @nT),G3,aQ,eH,⟨Am,ti⟩,fun z hz hr=>by
       by_cases XI:z=x
       ·subst XI;rw[<-YQ]at hr;exact absurd hr fE
       ·exact OC z ah hr⟩)
    ·(have zF:=tw @gz (tw @c0 (tw @c5 (tw @c8 (tw @c9 (tw @c7 (tw @LF (tw @AR (tw @hx (tw @hA (tw @te (tw @Sz (tw @PD (tw @jz (tw @oP (tw @tk (tw @VK (tw @SS (tw @ly (tw @TX (tw @CA (tw @nT (tw @x1 (tw @eN.eq_1 (tw @aP.eq_1 @im.eq_1))))))))))))))))))))))));(repeat(first|((repeat(revert N;apply Pn.out));refine wk zF ?_;(repeat(apply Pn.mk;intro N Z)))|((try apply Or.inl);refine⟨_,ay.x (OB) (sd zF),?_⟩;apply Z;clear Z N)));try clear zF)
     exact fJ (sd (tw @gz (tw @c0 (tw @c5 (tw @c8 @c9))))) (⟨jF,Q',p',sd @c7,sd (tw @LF @CA),sd (tw @AR @nT),G3,aQ,eH,⟨Am,ti⟩,fun z hz hr=>by
      by_cases XI:z=x
      ·subst XI;rw[<-YQ];omega
      ·exact OC z ah hr⟩)
   ·have hxe:x=I.length:=ah
    have hw:IntKind.i64.wrap ((i:Int)+1)=((i+1:Nat):Int):=aK ah
    (try((repeat(revert N;apply Pn.out));refine wk (tw @gz (tw @c0 (tw @c5 (tw @c8 (tw @c9 (tw @c7 (tw @hx (tw @hA (tw @te (tw @PD @im.eq_1)))))))))) ?_;(repeat(apply Pn.mk;intro N Z))))
    refine⟨_,?_,i+1,jF,Q',p',rfl,sd (tw @gz (tw @c0 (tw @c5 (tw @c8 (tw @c9 @hw))))),sd @c7,sd @LF,sd @AR,G3,aQ,eH.next Am fun e he hr=>?_,ah⟩
    ·omega
    ·rw[ti,hIn]at he
     rw[ti]at hr ⊢
     obtain⟨z,hz,rfl⟩:=VF e he
     exact OC z ah hr
 ·(try((repeat(revert N;apply Pn.out));refine wk (tw @b0 (tw @b5 (tw @b7 (tw @b8 (tw @hi @im.eq_1))))) ?_;(repeat(apply Pn.mk;intro N Z))))
  have ur:iq st_b.get 6 (.own o 0 k)=some (.sl (fc out k)):=ug bgo (by rw[Zr];omega) (by rw[List.drop_zero,List.take_of_length_le (by rw[Zr];omega)];exact NA)
  exact⟨_,rfl,_,by simp only[go_sem, ↓reduceIte,Nat.reduceEqDiff,Nat.reduceAdd,Nat.reduceSub,Nat.reduceLeDiff,reduceCtorEq,fw];exact ur,out,rfl,hB.done ok ah⟩
end Go.Proofs.YtiabgllilcfheaaGreat.V
