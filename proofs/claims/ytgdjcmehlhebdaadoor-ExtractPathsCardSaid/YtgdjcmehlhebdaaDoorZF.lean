/-
  Facts of the table that the turned walks need. Printed by a program of ours.
-/
import Derived.Test.YtgdjcmehlhebdaaDoorEQ
import Derived.Test.YtgdjcmehlhebdaaDoorProg
namespace Go.Proofs.YtgdjcmehlhebdaaDoor
open Go.E
set_option linter.unusedVariables false
set_option maxRecDepth 4000
theorem Tryd.cells3 : (Tryd.prog.info? 3).map (·.size) = some 1 := by kernel_rfl
theorem Tryd.cells5 : (Tryd.prog.info? 5).map (·.size) = some 1 := by kernel_rfl
theorem Tryd.cells22 : (Tryd.prog.info? 22).map (·.size) = some 1 := by kernel_rfl
theorem Tryd.cells24 : (Tryd.prog.info? 24).map (·.size) = some 32 := by kernel_rfl
theorem Tryd.cells25 : (Tryd.prog.info? 25).map (·.size) = some 1 := by kernel_rfl
theorem Tryd.cells27 : (Tryd.prog.info? 27).map (·.size) = some 33 := by kernel_rfl
theorem Tryd.cells36 : (Tryd.prog.info? 36).map (·.size) = some 1 := by kernel_rfl
theorem Tryd.cells64 : (Tryd.prog.info? 64).map (·.size) = some 1 := by kernel_rfl
theorem Tryd.cells71 : (Tryd.prog.info? 71).map (·.size) = some 1 := by kernel_rfl
theorem Tryd.cells102 : (Tryd.prog.info? 102).map (·.size) = some 3 := by kernel_rfl
theorem Tryd.cells119 : (Tryd.prog.info? 119).map (·.size) = some 1 := by kernel_rfl
theorem Tryd.cells120 : (Tryd.prog.info? 120).map (·.size) = some 8 := by kernel_rfl
theorem Tryd.cells134 : (Tryd.prog.info? 134).map (·.size) = some 1 := by kernel_rfl
theorem Tryd.cells135 : (Tryd.prog.info? 135).map (·.size) = some 1056 := by kernel_rfl
theorem Tryd.cells151 : (Tryd.prog.info? 151).map (·.size) = some 64 := by kernel_rfl
theorem Tryd.cells154 : (Tryd.prog.info? 154).map (·.size) = some 1 := by kernel_rfl
theorem Tryd.cells160 : (Tryd.prog.info? 160).map (·.size) = some 64 := by kernel_rfl
theorem Tryd.cells181 : (Tryd.prog.info? 181).map (·.size) = some 2 := by kernel_rfl
theorem Tryd.one3 : oneT Tryd.prog 3 = true := by kernel_rfl
theorem Tryd.one5 : oneT Tryd.prog 5 = true := by kernel_rfl
theorem Tryd.one22 : oneT Tryd.prog 22 = true := by kernel_rfl
theorem Tryd.one25 : oneT Tryd.prog 25 = true := by kernel_rfl
theorem Tryd.one36 : oneT Tryd.prog 36 = true := by kernel_rfl
theorem Tryd.one64 : oneT Tryd.prog 64 = true := by kernel_rfl
theorem Tryd.one71 : oneT Tryd.prog 71 = true := by kernel_rfl
theorem Tryd.one94 : oneT Tryd.prog 94 = true := by kernel_rfl
theorem Tryd.one119 : oneT Tryd.prog 119 = true := by kernel_rfl
theorem Tryd.one134 : oneT Tryd.prog 134 = true := by kernel_rfl
theorem Tryd.row24 : rowT Tryd.prog 24 = true := by kernel_rfl
theorem Tryd.row27 : rowT Tryd.prog 27 = true := by kernel_rfl
theorem Tryd.row102 : rowT Tryd.prog 102 = true := by kernel_rfl
theorem Tryd.row120 : rowT Tryd.prog 120 = true := by kernel_rfl
theorem Tryd.row135 : rowT Tryd.prog 135 = true := by kernel_rfl
theorem Tryd.row151 : rowT Tryd.prog 151 = true := by kernel_rfl
theorem Tryd.row160 : rowT Tryd.prog 160 = true := by kernel_rfl
theorem Tryd.row181 : rowT Tryd.prog 181 = true := by kernel_rfl
theorem Tryd.plain119 : Tryd.prog.plainKey 119 = true := by kernel_rfl
theorem Tryd.zero3 : zeroOf Tryd.prog 3 = some [.int .i64 0] := by kernel_rfl
theorem Tryd.zero24 : zeroOf Tryd.prog 24 = some (List.replicate 32 (.int .u8 0)) := by kernel_rfl
theorem Tryd.zero25 : zeroOf Tryd.prog 25 = some [.slice none 0 0] := by kernel_rfl
theorem Tryd.zero27 : zeroOf Tryd.prog 27 = some ((List.replicate 32 (.int .u8 0)) ++ [.slice none 0 0]) := by kernel_rfl
theorem Tryd.zero36 : zeroOf Tryd.prog 36 = some [.nilIface] := by kernel_rfl
theorem Tryd.zero102 : zeroOf Tryd.prog 102 = some ([.slice none 0 0] ++ [.slice none 0 0] ++ [.slice none 0 0]) := by kernel_rfl
theorem Tryd.zero120 : zeroOf Tryd.prog 120 = some (List.replicate 8 (.int .u32 0)) := by kernel_rfl
theorem Tryd.zero135 : zeroOf Tryd.prog 135 = some (List.replicate 1056 (.int .u8 0)) := by kernel_rfl
theorem Tryd.zero138 : zeroOf Tryd.prog 138 = some ([.int .i64 0] ++ [.map none] ++ (List.replicate 1056 (.int .u8 0))) := by kernel_rfl
theorem Tryd.zero160 : zeroOf Tryd.prog 160 = some (List.replicate 64 (.int .u32 0)) := by kernel_rfl
theorem Tryd.ent30 : Enters Tryd.prog 30 := ⟨_, Tryd.func30, by kernel_rfl, rfl⟩
theorem Tryd.ent31 : Enters Tryd.prog 31 := ⟨_, Tryd.func31, by kernel_rfl, rfl⟩
theorem Tryd.ent36 : Enters Tryd.prog 36 := ⟨_, Tryd.func36, by kernel_rfl, rfl⟩
theorem Tryd.ent41 : Enters Tryd.prog 41 := ⟨_, Tryd.func41, by kernel_rfl, rfl⟩
theorem Tryd.ent47 : Enters Tryd.prog 47 := ⟨_, Tryd.func47, by kernel_rfl, rfl⟩
theorem Tryd.ent50 : Enters Tryd.prog 50 := ⟨_, Tryd.func50, by kernel_rfl, rfl⟩
theorem Tryd.ent51 : Enters Tryd.prog 51 := ⟨_, Tryd.func51, by kernel_rfl, rfl⟩
theorem Tryd.ent52 : Enters Tryd.prog 52 := ⟨_, Tryd.func52, by kernel_rfl, rfl⟩
theorem Tryd.ent53 : Enters Tryd.prog 53 := ⟨_, Tryd.func53, by kernel_rfl, rfl⟩
theorem Tryd.ent54 : Enters Tryd.prog 54 := ⟨_, Tryd.func54, by kernel_rfl, rfl⟩
theorem Tryd.ent58 : Enters Tryd.prog 58 := ⟨_, Tryd.func58, by kernel_rfl, rfl⟩
theorem Tryd.ent59 : Enters Tryd.prog 59 := ⟨_, Tryd.func59, by kernel_rfl, rfl⟩
theorem Tryd.ent60 : Enters Tryd.prog 60 := ⟨_, Tryd.func60, by kernel_rfl, rfl⟩
theorem Tryd.ent61 : Enters Tryd.prog 61 := ⟨_, Tryd.func61, by kernel_rfl, rfl⟩
theorem Tryd.ent65 : Enters Tryd.prog 65 := ⟨_, Tryd.func65, by kernel_rfl, rfl⟩
theorem Tryd.ent66 : Enters Tryd.prog 66 := ⟨_, Tryd.func66, by kernel_rfl, rfl⟩
theorem Tryd.ent67 : Enters Tryd.prog 67 := ⟨_, Tryd.func67, by kernel_rfl, rfl⟩
theorem Tryd.ent68 : Enters Tryd.prog 68 := ⟨_, Tryd.func68, by kernel_rfl, rfl⟩
theorem Tryd.ent69 : Enters Tryd.prog 69 := ⟨_, Tryd.func69, by kernel_rfl, rfl⟩
theorem Tryd.ent70 : Enters Tryd.prog 70 := ⟨_, Tryd.func70, by kernel_rfl, rfl⟩
theorem Tryd.ent71 : Enters Tryd.prog 71 := ⟨_, Tryd.func71, by kernel_rfl, rfl⟩
theorem Tryd.ent72 : Enters Tryd.prog 72 := ⟨_, Tryd.func72, by kernel_rfl, rfl⟩
theorem Tryd.ent73 : Enters Tryd.prog 73 := ⟨_, Tryd.func73, by kernel_rfl, rfl⟩
theorem Tryd.ent74 : Enters Tryd.prog 74 := ⟨_, Tryd.func74, by kernel_rfl, rfl⟩
theorem Tryd.ent75 : Enters Tryd.prog 75 := ⟨_, Tryd.func75, by kernel_rfl, rfl⟩
theorem Tryd.ent76 : Enters Tryd.prog 76 := ⟨_, Tryd.func76, by kernel_rfl, rfl⟩
theorem Tryd.ent78 : Enters Tryd.prog 78 := ⟨_, Tryd.func78, by kernel_rfl, rfl⟩
theorem Tryd.ent79 : Enters Tryd.prog 79 := ⟨_, Tryd.func79, by kernel_rfl, rfl⟩
theorem Tryd.ent80 : Enters Tryd.prog 80 := ⟨_, Tryd.func80, by kernel_rfl, rfl⟩
theorem Tryd.ent81 : Enters Tryd.prog 81 := ⟨_, Tryd.func81, by kernel_rfl, rfl⟩
theorem Tryd.ent82 : Enters Tryd.prog 82 := ⟨_, Tryd.func82, by kernel_rfl, rfl⟩
theorem Tryd.ent86 : Enters Tryd.prog 86 := ⟨_, Tryd.func86, by kernel_rfl, rfl⟩
theorem Tryd.ent87 : Enters Tryd.prog 87 := ⟨_, Tryd.func87, by kernel_rfl, rfl⟩
theorem Tryd.ent88 : Enters Tryd.prog 88 := ⟨_, Tryd.func88, by kernel_rfl, rfl⟩
theorem Tryd.ent89 : Enters Tryd.prog 89 := ⟨_, Tryd.func89, by kernel_rfl, rfl⟩
theorem Tryd.ent90 : Enters Tryd.prog 90 := ⟨_, Tryd.func90, by kernel_rfl, rfl⟩
theorem Tryd.ent91 : Enters Tryd.prog 91 := ⟨_, Tryd.func91, by kernel_rfl, rfl⟩
theorem Tryd.ent92 : Enters Tryd.prog 92 := ⟨_, Tryd.func92, by kernel_rfl, rfl⟩
theorem Tryd.ent93 : Enters Tryd.prog 93 := ⟨_, Tryd.func93, by kernel_rfl, rfl⟩
theorem Tryd.ent94 : Enters Tryd.prog 94 := ⟨_, Tryd.func94, by kernel_rfl, rfl⟩
theorem Tryd.ent95 : Enters Tryd.prog 95 := ⟨_, Tryd.func95, by kernel_rfl, rfl⟩
theorem Tryd.ent97 : Enters Tryd.prog 97 := ⟨_, Tryd.func97, by kernel_rfl, rfl⟩
theorem Tryd.ent98 : Enters Tryd.prog 98 := ⟨_, Tryd.func98, by kernel_rfl, rfl⟩
theorem Tryd.ent100 : Enters Tryd.prog 100 := ⟨_, Tryd.func100, by kernel_rfl, rfl⟩
theorem Tryd.ent101 : Enters Tryd.prog 101 := ⟨_, Tryd.func101, by kernel_rfl, rfl⟩
theorem Tryd.elem5 : elemT Tryd.prog 5 1 1 := elemT_of (by kernel_rfl)
theorem Tryd.elem22 : elemT Tryd.prog 22 1 8 := elemT_of (by kernel_rfl)
theorem Tryd.elem24 : elemT Tryd.prog 24 32 32 := elemT_of (by kernel_rfl)
theorem Tryd.elem64 : elemT Tryd.prog 64 1 24 := elemT_of (by kernel_rfl)
theorem Tryd.mixed : Tryd.prog.follows .mixedOrders = true := by kernel_rfl
end Go.Proofs.YtgdjcmehlhebdaaDoor
