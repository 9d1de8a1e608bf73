/-
  Facts of the table that the turned walks need. Printed by a program of ours.
-/
import Derived.Test.YtgdjcmehlhebdaaGreatDoorEQ
import Derived.Test.YtgdjcmehlhebdaaGreatDoorProg
namespace Go.Proofs.YtgdjcmehlhebdaaGreatDoor
open Go.E
set_option linter.unusedVariables false
set_option maxRecDepth 4000
theorem Tryz.cells3 : (Tryz.prog.info? 3).map (·.size) = some 1 := by kernel_rfl
theorem Tryz.cells5 : (Tryz.prog.info? 5).map (·.size) = some 1 := by kernel_rfl
theorem Tryz.cells22 : (Tryz.prog.info? 22).map (·.size) = some 1 := by kernel_rfl
theorem Tryz.cells33 : (Tryz.prog.info? 33).map (·.size) = some 1 := by kernel_rfl
theorem Tryz.cells40 : (Tryz.prog.info? 40).map (·.size) = some 1 := by kernel_rfl
theorem Tryz.cells49 : (Tryz.prog.info? 49).map (·.size) = some 32 := by kernel_rfl
theorem Tryz.cells51 : (Tryz.prog.info? 51).map (·.size) = some 1 := by kernel_rfl
theorem Tryz.cells56 : (Tryz.prog.info? 56).map (·.size) = some 1 := by kernel_rfl
theorem Tryz.cells58 : (Tryz.prog.info? 58).map (·.size) = some 4 := by kernel_rfl
theorem Tryz.cells111 : (Tryz.prog.info? 111).map (·.size) = some 1 := by kernel_rfl
theorem Tryz.cells112 : (Tryz.prog.info? 112).map (·.size) = some 1 := by kernel_rfl
theorem Tryz.cells114 : (Tryz.prog.info? 114).map (·.size) = some 2 := by kernel_rfl
theorem Tryz.cells115 : (Tryz.prog.info? 115).map (·.size) = some 2 := by kernel_rfl
theorem Tryz.cells136 : (Tryz.prog.info? 136).map (·.size) = some 49 := by kernel_rfl
theorem Tryz.cells140 : (Tryz.prog.info? 140).map (·.size) = some 1056 := by kernel_rfl
theorem Tryz.cells155 : (Tryz.prog.info? 155).map (·.size) = some 1 := by kernel_rfl
theorem Tryz.cells182 : (Tryz.prog.info? 182).map (·.size) = some 2 := by kernel_rfl
theorem Tryz.cells194 : (Tryz.prog.info? 194).map (·.size) = some 3 := by kernel_rfl
theorem Tryz.cells198 : (Tryz.prog.info? 198).map (·.size) = some 33 := by kernel_rfl
theorem Tryz.cells223 : (Tryz.prog.info? 223).map (·.size) = some 1 := by kernel_rfl
theorem Tryz.cells224 : (Tryz.prog.info? 224).map (·.size) = some 8 := by kernel_rfl
theorem Tryz.cells241 : (Tryz.prog.info? 241).map (·.size) = some 1 := by kernel_rfl
theorem Tryz.cells249 : (Tryz.prog.info? 249).map (·.size) = some 2 := by kernel_rfl
theorem Tryz.cells289 : (Tryz.prog.info? 289).map (·.size) = some 64 := by kernel_rfl
theorem Tryz.cells295 : (Tryz.prog.info? 295).map (·.size) = some 1 := by kernel_rfl
theorem Tryz.cells302 : (Tryz.prog.info? 302).map (·.size) = some 64 := by kernel_rfl
theorem Tryz.one3 : oneT Tryz.prog 3 = true := by kernel_rfl
theorem Tryz.one5 : oneT Tryz.prog 5 = true := by kernel_rfl
theorem Tryz.one22 : oneT Tryz.prog 22 = true := by kernel_rfl
theorem Tryz.one33 : oneT Tryz.prog 33 = true := by kernel_rfl
theorem Tryz.one40 : oneT Tryz.prog 40 = true := by kernel_rfl
theorem Tryz.one51 : oneT Tryz.prog 51 = true := by kernel_rfl
theorem Tryz.one56 : oneT Tryz.prog 56 = true := by kernel_rfl
theorem Tryz.one111 : oneT Tryz.prog 111 = true := by kernel_rfl
theorem Tryz.one112 : oneT Tryz.prog 112 = true := by kernel_rfl
theorem Tryz.one155 : oneT Tryz.prog 155 = true := by kernel_rfl
theorem Tryz.one223 : oneT Tryz.prog 223 = true := by kernel_rfl
theorem Tryz.one241 : oneT Tryz.prog 241 = true := by kernel_rfl
theorem Tryz.row49 : rowT Tryz.prog 49 = true := by kernel_rfl
theorem Tryz.row58 : rowT Tryz.prog 58 = true := by kernel_rfl
theorem Tryz.row114 : rowT Tryz.prog 114 = true := by kernel_rfl
theorem Tryz.row115 : rowT Tryz.prog 115 = true := by kernel_rfl
theorem Tryz.row136 : rowT Tryz.prog 136 = true := by kernel_rfl
theorem Tryz.row140 : rowT Tryz.prog 140 = true := by kernel_rfl
theorem Tryz.row182 : rowT Tryz.prog 182 = true := by kernel_rfl
theorem Tryz.row194 : rowT Tryz.prog 194 = true := by kernel_rfl
theorem Tryz.row198 : rowT Tryz.prog 198 = true := by kernel_rfl
theorem Tryz.row224 : rowT Tryz.prog 224 = true := by kernel_rfl
theorem Tryz.row249 : rowT Tryz.prog 249 = true := by kernel_rfl
theorem Tryz.row289 : rowT Tryz.prog 289 = true := by kernel_rfl
theorem Tryz.row302 : rowT Tryz.prog 302 = true := by kernel_rfl
theorem Tryz.plain223 : Tryz.prog.plainKey 223 = true := by kernel_rfl
theorem Tryz.zero3 : zeroOf Tryz.prog 3 = some [.int .i64 0] := by kernel_rfl
theorem Tryz.zero33 : zeroOf Tryz.prog 33 = some [.slice none 0 0] := by kernel_rfl
theorem Tryz.zero49 : zeroOf Tryz.prog 49 = some (List.replicate 32 (.int .u8 0)) := by kernel_rfl
theorem Tryz.zero51 : zeroOf Tryz.prog 51 = some [.nilIface] := by kernel_rfl
theorem Tryz.zero114 : zeroOf Tryz.prog 114 = some ([.slice none 0 0] ++ [.slice none 0 0]) := by kernel_rfl
theorem Tryz.zero140 : zeroOf Tryz.prog 140 = some (List.replicate 1056 (.int .u8 0)) := by kernel_rfl
theorem Tryz.zero182 : zeroOf Tryz.prog 182 = some ([.slice none 0 0] ++ [.slice none 0 0]) := by kernel_rfl
theorem Tryz.zero194 : zeroOf Tryz.prog 194 = some ([.slice none 0 0] ++ [.slice none 0 0] ++ [.slice none 0 0]) := by kernel_rfl
theorem Tryz.zero198 : zeroOf Tryz.prog 198 = some ((List.replicate 32 (.int .u8 0)) ++ [.slice none 0 0]) := by kernel_rfl
theorem Tryz.zero224 : zeroOf Tryz.prog 224 = some (List.replicate 8 (.int .u32 0)) := by kernel_rfl
theorem Tryz.zero243 : zeroOf Tryz.prog 243 = some ([.int .i64 0] ++ [.map none] ++ (List.replicate 1056 (.int .u8 0))) := by kernel_rfl
theorem Tryz.zero302 : zeroOf Tryz.prog 302 = some (List.replicate 64 (.int .u32 0)) := by kernel_rfl
theorem Tryz.ent21 : Enters Tryz.prog 21 := ⟨_, Tryz.func21, by kernel_rfl, rfl⟩
theorem Tryz.ent27 : Enters Tryz.prog 27 := ⟨_, Tryz.func27, by kernel_rfl, rfl⟩
theorem Tryz.ent35 : Enters Tryz.prog 35 := ⟨_, Tryz.func35, by kernel_rfl, rfl⟩
theorem Tryz.ent39 : Enters Tryz.prog 39 := ⟨_, Tryz.func39, by kernel_rfl, rfl⟩
theorem Tryz.ent41 : Enters Tryz.prog 41 := ⟨_, Tryz.func41, by kernel_rfl, rfl⟩
theorem Tryz.ent44 : Enters Tryz.prog 44 := ⟨_, Tryz.func44, by kernel_rfl, rfl⟩
theorem Tryz.ent45 : Enters Tryz.prog 45 := ⟨_, Tryz.func45, by kernel_rfl, rfl⟩
theorem Tryz.ent49 : Enters Tryz.prog 49 := ⟨_, Tryz.func49, by kernel_rfl, rfl⟩
theorem Tryz.ent50 : Enters Tryz.prog 50 := ⟨_, Tryz.func50, by kernel_rfl, rfl⟩
theorem Tryz.ent51 : Enters Tryz.prog 51 := ⟨_, Tryz.func51, by kernel_rfl, rfl⟩
theorem Tryz.ent52 : Enters Tryz.prog 52 := ⟨_, Tryz.func52, by kernel_rfl, rfl⟩
theorem Tryz.ent55 : Enters Tryz.prog 55 := ⟨_, Tryz.func55, by kernel_rfl, rfl⟩
theorem Tryz.ent57 : Enters Tryz.prog 57 := ⟨_, Tryz.func57, by kernel_rfl, rfl⟩
theorem Tryz.ent62 : Enters Tryz.prog 62 := ⟨_, Tryz.func62, by kernel_rfl, rfl⟩
theorem Tryz.ent67 : Enters Tryz.prog 67 := ⟨_, Tryz.func67, by kernel_rfl, rfl⟩
theorem Tryz.ent80 : Enters Tryz.prog 80 := ⟨_, Tryz.func80, by kernel_rfl, rfl⟩
theorem Tryz.ent82 : Enters Tryz.prog 82 := ⟨_, Tryz.func82, by kernel_rfl, rfl⟩
theorem Tryz.ent83 : Enters Tryz.prog 83 := ⟨_, Tryz.func83, by kernel_rfl, rfl⟩
theorem Tryz.ent84 : Enters Tryz.prog 84 := ⟨_, Tryz.func84, by kernel_rfl, rfl⟩
theorem Tryz.ent93 : Enters Tryz.prog 93 := ⟨_, Tryz.func93, by kernel_rfl, rfl⟩
theorem Tryz.ent94 : Enters Tryz.prog 94 := ⟨_, Tryz.func94, by kernel_rfl, rfl⟩
theorem Tryz.ent95 : Enters Tryz.prog 95 := ⟨_, Tryz.func95, by kernel_rfl, rfl⟩
theorem Tryz.ent96 : Enters Tryz.prog 96 := ⟨_, Tryz.func96, by kernel_rfl, rfl⟩
theorem Tryz.ent99 : Enters Tryz.prog 99 := ⟨_, Tryz.func99, by kernel_rfl, rfl⟩
theorem Tryz.ent103 : Enters Tryz.prog 103 := ⟨_, Tryz.func103, by kernel_rfl, rfl⟩
theorem Tryz.ent110 : Enters Tryz.prog 110 := ⟨_, Tryz.func110, by kernel_rfl, rfl⟩
theorem Tryz.ent111 : Enters Tryz.prog 111 := ⟨_, Tryz.func111, by kernel_rfl, rfl⟩
theorem Tryz.ent113 : Enters Tryz.prog 113 := ⟨_, Tryz.func113, by kernel_rfl, rfl⟩
theorem Tryz.ent114 : Enters Tryz.prog 114 := ⟨_, Tryz.func114, by kernel_rfl, rfl⟩
theorem Tryz.ent115 : Enters Tryz.prog 115 := ⟨_, Tryz.func115, by kernel_rfl, rfl⟩
theorem Tryz.ent117 : Enters Tryz.prog 117 := ⟨_, Tryz.func117, by kernel_rfl, rfl⟩
theorem Tryz.ent118 : Enters Tryz.prog 118 := ⟨_, Tryz.func118, by kernel_rfl, rfl⟩
theorem Tryz.ent120 : Enters Tryz.prog 120 := ⟨_, Tryz.func120, by kernel_rfl, rfl⟩
theorem Tryz.ent121 : Enters Tryz.prog 121 := ⟨_, Tryz.func121, by kernel_rfl, rfl⟩
theorem Tryz.ent126 : Enters Tryz.prog 126 := ⟨_, Tryz.func126, by kernel_rfl, rfl⟩
theorem Tryz.ent135 : Enters Tryz.prog 135 := ⟨_, Tryz.func135, by kernel_rfl, rfl⟩
theorem Tryz.ent138 : Enters Tryz.prog 138 := ⟨_, Tryz.func138, by kernel_rfl, rfl⟩
theorem Tryz.ent139 : Enters Tryz.prog 139 := ⟨_, Tryz.func139, by kernel_rfl, rfl⟩
theorem Tryz.ent140 : Enters Tryz.prog 140 := ⟨_, Tryz.func140, by kernel_rfl, rfl⟩
theorem Tryz.ent141 : Enters Tryz.prog 141 := ⟨_, Tryz.func141, by kernel_rfl, rfl⟩
theorem Tryz.ent142 : Enters Tryz.prog 142 := ⟨_, Tryz.func142, by kernel_rfl, rfl⟩
theorem Tryz.ent143 : Enters Tryz.prog 143 := ⟨_, Tryz.func143, by kernel_rfl, rfl⟩
theorem Tryz.ent144 : Enters Tryz.prog 144 := ⟨_, Tryz.func144, by kernel_rfl, rfl⟩
theorem Tryz.ent150 : Enters Tryz.prog 150 := ⟨_, Tryz.func150, by kernel_rfl, rfl⟩
theorem Tryz.ent151 : Enters Tryz.prog 151 := ⟨_, Tryz.func151, by kernel_rfl, rfl⟩
theorem Tryz.ent152 : Enters Tryz.prog 152 := ⟨_, Tryz.func152, by kernel_rfl, rfl⟩
theorem Tryz.ent153 : Enters Tryz.prog 153 := ⟨_, Tryz.func153, by kernel_rfl, rfl⟩
theorem Tryz.ent154 : Enters Tryz.prog 154 := ⟨_, Tryz.func154, by kernel_rfl, rfl⟩
theorem Tryz.ent155 : Enters Tryz.prog 155 := ⟨_, Tryz.func155, by kernel_rfl, rfl⟩
theorem Tryz.ent156 : Enters Tryz.prog 156 := ⟨_, Tryz.func156, by kernel_rfl, rfl⟩
theorem Tryz.ent158 : Enters Tryz.prog 158 := ⟨_, Tryz.func158, by kernel_rfl, rfl⟩
theorem Tryz.ent159 : Enters Tryz.prog 159 := ⟨_, Tryz.func159, by kernel_rfl, rfl⟩
theorem Tryz.ent160 : Enters Tryz.prog 160 := ⟨_, Tryz.func160, by kernel_rfl, rfl⟩
theorem Tryz.ent166 : Enters Tryz.prog 166 := ⟨_, Tryz.func166, by kernel_rfl, rfl⟩
theorem Tryz.ent170 : Enters Tryz.prog 170 := ⟨_, Tryz.func170, by kernel_rfl, rfl⟩
theorem Tryz.ent171 : Enters Tryz.prog 171 := ⟨_, Tryz.func171, by kernel_rfl, rfl⟩
theorem Tryz.ent172 : Enters Tryz.prog 172 := ⟨_, Tryz.func172, by kernel_rfl, rfl⟩
theorem Tryz.ent173 : Enters Tryz.prog 173 := ⟨_, Tryz.func173, by kernel_rfl, rfl⟩
theorem Tryz.ent176 : Enters Tryz.prog 176 := ⟨_, Tryz.func176, by kernel_rfl, rfl⟩
theorem Tryz.ent177 : Enters Tryz.prog 177 := ⟨_, Tryz.func177, by kernel_rfl, rfl⟩
theorem Tryz.ent178 : Enters Tryz.prog 178 := ⟨_, Tryz.func178, by kernel_rfl, rfl⟩
theorem Tryz.ent180 : Enters Tryz.prog 180 := ⟨_, Tryz.func180, by kernel_rfl, rfl⟩
theorem Tryz.ent181 : Enters Tryz.prog 181 := ⟨_, Tryz.func181, by kernel_rfl, rfl⟩
theorem Tryz.ent183 : Enters Tryz.prog 183 := ⟨_, Tryz.func183, by kernel_rfl, rfl⟩
theorem Tryz.ent187 : Enters Tryz.prog 187 := ⟨_, Tryz.func187, by kernel_rfl, rfl⟩
theorem Tryz.ent188 : Enters Tryz.prog 188 := ⟨_, Tryz.func188, by kernel_rfl, rfl⟩
theorem Tryz.ent191 : Enters Tryz.prog 191 := ⟨_, Tryz.func191, by kernel_rfl, rfl⟩
theorem Tryz.ent193 : Enters Tryz.prog 193 := ⟨_, Tryz.func193, by kernel_rfl, rfl⟩
theorem Tryz.ent196 : Enters Tryz.prog 196 := ⟨_, Tryz.func196, by kernel_rfl, rfl⟩
theorem Tryz.ent197 : Enters Tryz.prog 197 := ⟨_, Tryz.func197, by kernel_rfl, rfl⟩
theorem Tryz.ent198 : Enters Tryz.prog 198 := ⟨_, Tryz.func198, by kernel_rfl, rfl⟩
theorem Tryz.ent199 : Enters Tryz.prog 199 := ⟨_, Tryz.func199, by kernel_rfl, rfl⟩
theorem Tryz.ent200 : Enters Tryz.prog 200 := ⟨_, Tryz.func200, by kernel_rfl, rfl⟩
theorem Tryz.ent201 : Enters Tryz.prog 201 := ⟨_, Tryz.func201, by kernel_rfl, rfl⟩
theorem Tryz.ent204 : Enters Tryz.prog 204 := ⟨_, Tryz.func204, by kernel_rfl, rfl⟩
theorem Tryz.ent205 : Enters Tryz.prog 205 := ⟨_, Tryz.func205, by kernel_rfl, rfl⟩
theorem Tryz.ent206 : Enters Tryz.prog 206 := ⟨_, Tryz.func206, by kernel_rfl, rfl⟩
theorem Tryz.ent211 : Enters Tryz.prog 211 := ⟨_, Tryz.func211, by kernel_rfl, rfl⟩
theorem Tryz.ent212 : Enters Tryz.prog 212 := ⟨_, Tryz.func212, by kernel_rfl, rfl⟩
theorem Tryz.ent213 : Enters Tryz.prog 213 := ⟨_, Tryz.func213, by kernel_rfl, rfl⟩
theorem Tryz.ent214 : Enters Tryz.prog 214 := ⟨_, Tryz.func214, by kernel_rfl, rfl⟩
theorem Tryz.elem5 : elemT Tryz.prog 5 1 1 := elemT_of (by kernel_rfl)
theorem Tryz.elem40 : elemT Tryz.prog 40 1 8 := elemT_of (by kernel_rfl)
theorem Tryz.elem49 : elemT Tryz.prog 49 32 32 := elemT_of (by kernel_rfl)
theorem Tryz.elem112 : elemT Tryz.prog 112 1 24 := elemT_of (by kernel_rfl)
theorem Tryz.elem114 : elemT Tryz.prog 114 2 48 := elemT_of (by kernel_rfl)
theorem Tryz.elem115 : elemT Tryz.prog 115 2 48 := elemT_of (by kernel_rfl)
theorem Tryz.mixed : Tryz.prog.follows .mixedOrders = true := by kernel_rfl
end Go.Proofs.YtgdjcmehlhebdaaGreatDoor
