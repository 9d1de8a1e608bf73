/-
  Facts of the program's table that the later walks use. Printed by a program of ours.
-/
import Derived.Test.YtlneklemjfefpaaDoorT2
import Derived.Test.YtlneklemjfefpaaDoorP2
import Derived.Test.YtlneklemjfefpaaDoorMO
namespace Go.Proofs.YtlneklemjfefpaaDoor
open Go.E
set_option linter.unusedVariables false
set_option maxRecDepth 4000
theorem Tryd.cells4 : (Tryd.prog.info? 4).map (·.size) = some 1 := by kernel_rfl
theorem Tryd.one4 : oneT Tryd.prog 4 = true := by kernel_rfl
theorem Tryd.cells35 : (Tryd.prog.info? 35).map (·.size) = some 1 := by kernel_rfl
theorem Tryd.one35 : oneT Tryd.prog 35 = true := by kernel_rfl
theorem Tryd.cells40 : (Tryd.prog.info? 40).map (·.size) = some 34 := by kernel_rfl
theorem Tryd.row40 : rowT Tryd.prog 40 = true := by kernel_rfl
theorem Tryd.cells44 : (Tryd.prog.info? 44).map (·.size) = some 1 := by kernel_rfl
theorem Tryd.one44 : oneT Tryd.prog 44 = true := by kernel_rfl
theorem Tryd.cells50 : (Tryd.prog.info? 50).map (·.size) = some 1 := by kernel_rfl
theorem Tryd.one50 : oneT Tryd.prog 50 = true := by kernel_rfl
theorem Tryd.cells52 : (Tryd.prog.info? 52).map (·.size) = some 3 := by kernel_rfl
theorem Tryd.row52 : rowT Tryd.prog 52 = true := by kernel_rfl
theorem Tryd.cells64 : (Tryd.prog.info? 64).map (·.size) = some 33 := by kernel_rfl
theorem Tryd.row64 : rowT Tryd.prog 64 = true := by kernel_rfl
theorem Tryd.cells65 : (Tryd.prog.info? 65).map (·.size) = some 2 := by kernel_rfl
theorem Tryd.row65 : rowT Tryd.prog 65 = true := by kernel_rfl
theorem Tryd.cells71 : (Tryd.prog.info? 71).map (·.size) = some 1 := by kernel_rfl
theorem Tryd.one71 : oneT Tryd.prog 71 = true := by kernel_rfl
theorem Tryd.cells77 : (Tryd.prog.info? 77).map (·.size) = some 2 := by kernel_rfl
theorem Tryd.row77 : rowT Tryd.prog 77 = true := by kernel_rfl
theorem Tryd.cells88 : (Tryd.prog.info? 88).map (·.size) = some 3 := by kernel_rfl
theorem Tryd.row88 : rowT Tryd.prog 88 = true := by kernel_rfl
theorem Tryd.cells91 : (Tryd.prog.info? 91).map (·.size) = some 1 := by kernel_rfl
theorem Tryd.one91 : oneT Tryd.prog 91 = true := by kernel_rfl
theorem Tryd.cells163 : (Tryd.prog.info? 163).map (·.size) = some 33 := by kernel_rfl
theorem Tryd.row163 : rowT Tryd.prog 163 = true := by kernel_rfl
theorem Tryd.cells166 : (Tryd.prog.info? 166).map (·.size) = some 1 := by kernel_rfl
theorem Tryd.one166 : oneT Tryd.prog 166 = true := by kernel_rfl
theorem Tryd.cells171 : (Tryd.prog.info? 171).map (·.size) = some 2 := by kernel_rfl
theorem Tryd.row171 : rowT Tryd.prog 171 = true := by kernel_rfl
theorem Tryd.cells182 : (Tryd.prog.info? 182).map (·.size) = some 2 := by kernel_rfl
theorem Tryd.row182 : rowT Tryd.prog 182 = true := by kernel_rfl
theorem Tryd.cells206 : (Tryd.prog.info? 206).map (·.size) = some 3 := by kernel_rfl
theorem Tryd.row206 : rowT Tryd.prog 206 = true := by kernel_rfl
theorem Tryd.zero3 : zeroOf Tryd.prog 3 = some [.int .i64 0] := by kernel_rfl
theorem Tryd.zero4 : zeroOf Tryd.prog 4 = some [.bool false] := by kernel_rfl
theorem Tryd.zero27 : zeroOf Tryd.prog 27 = some [.nilIface] := by kernel_rfl
theorem Tryd.zero35 : zeroOf Tryd.prog 35 = some [.pointer none] := by kernel_rfl
theorem Tryd.zero40 : zeroOf Tryd.prog 40 = some ([.int .u64 0] ++ (List.replicate 32 (.int .u8 0)) ++ [.bool false]) := by kernel_rfl
theorem Tryd.zero44 : zeroOf Tryd.prog 44 = some [.slice none 0 0] := by kernel_rfl
theorem Tryd.zero52 : zeroOf Tryd.prog 52 = some ([.int .i64 0] ++ [.slice none 0 0] ++ [.slice none 0 0]) := by kernel_rfl
theorem Tryd.zero64 : zeroOf Tryd.prog 64 = some ((List.replicate 32 (.int .u8 0)) ++ [.slice none 0 0]) := by kernel_rfl
theorem Tryd.zero77 : zeroOf Tryd.prog 77 = some ([.slice none 0 0] ++ [.slice none 0 0]) := by kernel_rfl
theorem Tryd.zero88 : zeroOf Tryd.prog 88 = some ([.slice none 0 0] ++ [.slice none 0 0] ++ [.slice none 0 0]) := by kernel_rfl
theorem Tryd.zero163 : zeroOf Tryd.prog 163 = some ([.int .u64 0] ++ (List.replicate 32 (.int .u8 0))) := by kernel_rfl
theorem Tryd.zero171 : zeroOf Tryd.prog 171 = some ([.int .i64 0] ++ [.int .u64 0]) := by kernel_rfl
theorem Tryd.zero182 : zeroOf Tryd.prog 182 = some ([.int .i64 0] ++ [.int .u64 0]) := by kernel_rfl
theorem Tryd.zero206 : zeroOf Tryd.prog 206 = some ([.slice none 0 0] ++ [.slice none 0 0] ++ [.slice none 0 0]) := by kernel_rfl
theorem Tryd.ent25 : Enters Tryd.prog 25 := ⟨_, Tryd.func25, by kernel_rfl, rfl⟩
theorem Tryd.ent26 : Enters Tryd.prog 26 := ⟨_, Tryd.func26, by kernel_rfl, rfl⟩
theorem Tryd.ent27 : Enters Tryd.prog 27 := ⟨_, Tryd.func27, by kernel_rfl, rfl⟩
theorem Tryd.ent28 : Enters Tryd.prog 28 := ⟨_, Tryd.func28, by kernel_rfl, rfl⟩
theorem Tryd.ent29 : Enters Tryd.prog 29 := ⟨_, Tryd.func29, by kernel_rfl, rfl⟩
theorem Tryd.ent30 : Enters Tryd.prog 30 := ⟨_, Tryd.func30, by kernel_rfl, rfl⟩
theorem Tryd.ent32 : Enters Tryd.prog 32 := ⟨_, Tryd.func32, by kernel_rfl, rfl⟩
theorem Tryd.ent34 : Enters Tryd.prog 34 := ⟨_, Tryd.func34, by kernel_rfl, rfl⟩
theorem Tryd.ent35 : Enters Tryd.prog 35 := ⟨_, Tryd.func35, by kernel_rfl, rfl⟩
theorem Tryd.ent36 : Enters Tryd.prog 36 := ⟨_, Tryd.func36, by kernel_rfl, rfl⟩
theorem Tryd.ent37 : Enters Tryd.prog 37 := ⟨_, Tryd.func37, by kernel_rfl, rfl⟩
theorem Tryd.ent38 : Enters Tryd.prog 38 := ⟨_, Tryd.func38, by kernel_rfl, rfl⟩
theorem Tryd.ent39 : Enters Tryd.prog 39 := ⟨_, Tryd.func39, by kernel_rfl, rfl⟩
theorem Tryd.ent40 : Enters Tryd.prog 40 := ⟨_, Tryd.func40, by kernel_rfl, rfl⟩
theorem Tryd.ent41 : Enters Tryd.prog 41 := ⟨_, Tryd.func41, by kernel_rfl, rfl⟩
theorem Tryd.ent42 : Enters Tryd.prog 42 := ⟨_, Tryd.func42, by kernel_rfl, rfl⟩
theorem Tryd.ent43 : Enters Tryd.prog 43 := ⟨_, Tryd.func43, by kernel_rfl, rfl⟩
theorem Tryd.ent44 : Enters Tryd.prog 44 := ⟨_, Tryd.func44, by kernel_rfl, rfl⟩
theorem Tryd.ent45 : Enters Tryd.prog 45 := ⟨_, Tryd.func45, by kernel_rfl, rfl⟩
theorem Tryd.ent46 : Enters Tryd.prog 46 := ⟨_, Tryd.func46, by kernel_rfl, rfl⟩
theorem Tryd.ent47 : Enters Tryd.prog 47 := ⟨_, Tryd.func47, by kernel_rfl, rfl⟩
theorem Tryd.ent48 : Enters Tryd.prog 48 := ⟨_, Tryd.func48, by kernel_rfl, rfl⟩
theorem Tryd.ent49 : Enters Tryd.prog 49 := ⟨_, Tryd.func49, by kernel_rfl, rfl⟩
theorem Tryd.ent50 : Enters Tryd.prog 50 := ⟨_, Tryd.func50, by kernel_rfl, rfl⟩
theorem Tryd.ent51 : Enters Tryd.prog 51 := ⟨_, Tryd.func51, by kernel_rfl, rfl⟩
theorem Tryd.ent63 : Enters Tryd.prog 63 := ⟨_, Tryd.func63, by kernel_rfl, rfl⟩
theorem Tryd.ent64 : Enters Tryd.prog 64 := ⟨_, Tryd.func64, by kernel_rfl, rfl⟩
theorem Tryd.ent66 : Enters Tryd.prog 66 := ⟨_, Tryd.func66, by kernel_rfl, rfl⟩
theorem Tryd.ent67 : Enters Tryd.prog 67 := ⟨_, Tryd.func67, by kernel_rfl, rfl⟩
theorem Tryd.ent68 : Enters Tryd.prog 68 := ⟨_, Tryd.func68, by kernel_rfl, rfl⟩
theorem Tryd.ent69 : Enters Tryd.prog 69 := ⟨_, Tryd.func69, by kernel_rfl, rfl⟩
theorem Tryd.ent70 : Enters Tryd.prog 70 := ⟨_, Tryd.func70, by kernel_rfl, rfl⟩
theorem Tryd.ent71 : Enters Tryd.prog 71 := ⟨_, Tryd.func71, by kernel_rfl, rfl⟩
theorem Tryd.ent72 : Enters Tryd.prog 72 := ⟨_, Tryd.func72, by kernel_rfl, rfl⟩
theorem Tryd.ent76 : Enters Tryd.prog 76 := ⟨_, Tryd.func76, by kernel_rfl, rfl⟩
theorem Tryd.ent78 : Enters Tryd.prog 78 := ⟨_, Tryd.func78, by kernel_rfl, rfl⟩
theorem Tryd.ent79 : Enters Tryd.prog 79 := ⟨_, Tryd.func79, by kernel_rfl, rfl⟩
theorem Tryd.ent82 : Enters Tryd.prog 82 := ⟨_, Tryd.func82, by kernel_rfl, rfl⟩
theorem Tryd.ent84 : Enters Tryd.prog 84 := ⟨_, Tryd.func84, by kernel_rfl, rfl⟩
theorem Tryd.ent85 : Enters Tryd.prog 85 := ⟨_, Tryd.func85, by kernel_rfl, rfl⟩
theorem Tryd.ent97 : Enters Tryd.prog 97 := ⟨_, Tryd.func97, by kernel_rfl, rfl⟩
theorem Tryd.ent98 : Enters Tryd.prog 98 := ⟨_, Tryd.func98, by kernel_rfl, rfl⟩
theorem Tryd.ent99 : Enters Tryd.prog 99 := ⟨_, Tryd.func99, by kernel_rfl, rfl⟩
theorem Tryd.ent100 : Enters Tryd.prog 100 := ⟨_, Tryd.func100, by kernel_rfl, rfl⟩
theorem Tryd.ent101 : Enters Tryd.prog 101 := ⟨_, Tryd.func101, by kernel_rfl, rfl⟩
theorem Tryd.ent102 : Enters Tryd.prog 102 := ⟨_, Tryd.func102, by kernel_rfl, rfl⟩
theorem Tryd.ent103 : Enters Tryd.prog 103 := ⟨_, Tryd.func103, by kernel_rfl, rfl⟩
theorem Tryd.ent104 : Enters Tryd.prog 104 := ⟨_, Tryd.func104, by kernel_rfl, rfl⟩
theorem Tryd.ent105 : Enters Tryd.prog 105 := ⟨_, Tryd.func105, by kernel_rfl, rfl⟩
theorem Tryd.ent106 : Enters Tryd.prog 106 := ⟨_, Tryd.func106, by kernel_rfl, rfl⟩
theorem Tryd.ent110 : Enters Tryd.prog 110 := ⟨_, Tryd.func110, by kernel_rfl, rfl⟩
theorem Tryd.ent111 : Enters Tryd.prog 111 := ⟨_, Tryd.func111, by kernel_rfl, rfl⟩
theorem Tryd.ent112 : Enters Tryd.prog 112 := ⟨_, Tryd.func112, by kernel_rfl, rfl⟩
theorem Tryd.ent113 : Enters Tryd.prog 113 := ⟨_, Tryd.func113, by kernel_rfl, rfl⟩
theorem Tryd.ent119 : Enters Tryd.prog 119 := ⟨_, Tryd.func119, by kernel_rfl, rfl⟩
theorem Tryd.ent121 : Enters Tryd.prog 121 := ⟨_, Tryd.func121, by kernel_rfl, rfl⟩
theorem Tryd.ent130 : Enters Tryd.prog 130 := ⟨_, Tryd.func130, by kernel_rfl, rfl⟩
theorem Tryd.ent131 : Enters Tryd.prog 131 := ⟨_, Tryd.func131, by kernel_rfl, rfl⟩
theorem Tryd.ent135 : Enters Tryd.prog 135 := ⟨_, Tryd.func135, by kernel_rfl, rfl⟩
theorem Tryd.ent149 : Enters Tryd.prog 149 := ⟨_, Tryd.func149, by kernel_rfl, rfl⟩
theorem Tryd.ent153 : Enters Tryd.prog 153 := ⟨_, Tryd.func153, by kernel_rfl, rfl⟩
theorem Tryd.ent154 : Enters Tryd.prog 154 := ⟨_, Tryd.func154, by kernel_rfl, rfl⟩
def H3s : H32 := ⟨[3, 0, 0, 0, 0, 0, 0, 0, 0, 0, 0, 0, 0, 0, 0, 0, 0, 0, 0, 0, 0, 0, 0, 0, 0, 0, 0, 0, 0, 0, 0, 0], rfl⟩
theorem Tryd.elem24 : elemT Tryd.prog 24 1 8 := elemT_of (by kernel_rfl)
theorem map_step {α : Type} (F : α → H32) (d : α) {s : List α} {k : Nat} (h : k < s.length) : hcs ((s.take k).map F) ++ hvl (F (s.getD k d)) = hcs ((s.take (k + 1)).map F) := by
  have e : s.take (k + 1) = s.take k ++ [s.getD k d] := by
    rw [List.take_succ_eq_append_getElem h]; simp [List.getD, h]
  rw [e, List.map_append, hcs_append, List.map_singleton, hcs_cons, hcs_nil, List.append_nil]

end Go.Proofs.YtlneklemjfefpaaDoor
