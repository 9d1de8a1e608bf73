/-
  Facts of the table that the walks need. Printed by a program of ours.
-/
import Derived.Test.YtaoicbjgkghnnaaEQ
import Derived.Test.YtaoicbjgkghnnaaProg
namespace Go.Proofs.Ytaoicbjgkghnnaa
open Go.E
set_option linter.unusedVariables false
set_option maxRecDepth 4000
theorem Try.cells3 : (Try.prog.info? 3).map (·.size) = some 1 := by kernel_rfl
theorem Try.cells5 : (Try.prog.info? 5).map (·.size) = some 1 := by kernel_rfl
theorem Try.cells22 : (Try.prog.info? 22).map (·.size) = some 1 := by kernel_rfl
theorem Try.cells23 : (Try.prog.info? 23).map (·.size) = some 1 := by kernel_rfl
theorem Try.cells24 : (Try.prog.info? 24).map (·.size) = some 1 := by kernel_rfl
theorem Try.cells26 : (Try.prog.info? 26).map (·.size) = some 5 := by kernel_rfl
theorem Try.cells58 : (Try.prog.info? 58).map (·.size) = some 32 := by kernel_rfl
theorem Try.cells71 : (Try.prog.info? 71).map (·.size) = some 1 := by kernel_rfl
theorem Try.cells114 : (Try.prog.info? 114).map (·.size) = some 1 := by kernel_rfl
theorem Try.one3 : oneT Try.prog 3 = true := by kernel_rfl
theorem Try.one22 : oneT Try.prog 22 = true := by kernel_rfl
theorem Try.one23 : oneT Try.prog 23 = true := by kernel_rfl
theorem Try.one24 : oneT Try.prog 24 = true := by kernel_rfl
theorem Try.one38 : oneT Try.prog 38 = true := by kernel_rfl
theorem Try.one71 : oneT Try.prog 71 = true := by kernel_rfl
theorem Try.one114 : oneT Try.prog 114 = true := by kernel_rfl
theorem Try.row26 : rowT Try.prog 26 = true := by kernel_rfl
theorem Try.row58 : rowT Try.prog 58 = true := by kernel_rfl
theorem Try.zero3 : zeroOf Try.prog 3 = some [.int .i64 0] := by kernel_rfl
theorem Try.zero26 : zeroOf Try.prog 26 = some ([.int .i64 0] ++ [.slice none 0 0] ++ [.slice none 0 0] ++ [.int .u64 0] ++ [.int .i64 0]) := by kernel_rfl
theorem Try.zero58 : zeroOf Try.prog 58 = some (List.replicate 32 (.int .u8 0)) := by kernel_rfl
theorem Try.zero114 : zeroOf Try.prog 114 = some [.int .u64 0] := by kernel_rfl
theorem Try.ent8 : Enters Try.prog 8 := ⟨_, Try.func8, by kernel_rfl, rfl⟩
theorem Try.ent9 : Enters Try.prog 9 := ⟨_, Try.func9, by kernel_rfl, rfl⟩
theorem Try.ent11 : Enters Try.prog 11 := ⟨_, Try.func11, by kernel_rfl, rfl⟩
theorem Try.ent14 : Enters Try.prog 14 := ⟨_, Try.func14, by kernel_rfl, rfl⟩
theorem Try.ent22 : Enters Try.prog 22 := ⟨_, Try.func22, by kernel_rfl, rfl⟩
theorem Try.ent23 : Enters Try.prog 23 := ⟨_, Try.func23, by kernel_rfl, rfl⟩
theorem Try.ent24 : Enters Try.prog 24 := ⟨_, Try.func24, by kernel_rfl, rfl⟩
theorem Try.ent25 : Enters Try.prog 25 := ⟨_, Try.func25, by kernel_rfl, rfl⟩
theorem Try.ent28 : Enters Try.prog 28 := ⟨_, Try.func28, by kernel_rfl, rfl⟩
theorem Try.ent29 : Enters Try.prog 29 := ⟨_, Try.func29, by kernel_rfl, rfl⟩
theorem Try.ent30 : Enters Try.prog 30 := ⟨_, Try.func30, by kernel_rfl, rfl⟩
theorem Try.ent36 : Enters Try.prog 36 := ⟨_, Try.func36, by kernel_rfl, rfl⟩
theorem Try.ent37 : Enters Try.prog 37 := ⟨_, Try.func37, by kernel_rfl, rfl⟩
theorem Try.ent38 : Enters Try.prog 38 := ⟨_, Try.func38, by kernel_rfl, rfl⟩
theorem Try.ent39 : Enters Try.prog 39 := ⟨_, Try.func39, by kernel_rfl, rfl⟩
theorem Try.ent41 : Enters Try.prog 41 := ⟨_, Try.func41, by kernel_rfl, rfl⟩
theorem Try.ent42 : Enters Try.prog 42 := ⟨_, Try.func42, by kernel_rfl, rfl⟩
theorem Try.ent47 : Enters Try.prog 47 := ⟨_, Try.func47, by kernel_rfl, rfl⟩
theorem Try.ent48 : Enters Try.prog 48 := ⟨_, Try.func48, by kernel_rfl, rfl⟩
theorem Try.ent49 : Enters Try.prog 49 := ⟨_, Try.func49, by kernel_rfl, rfl⟩
theorem Try.ent50 : Enters Try.prog 50 := ⟨_, Try.func50, by kernel_rfl, rfl⟩
theorem Try.ent51 : Enters Try.prog 51 := ⟨_, Try.func51, by kernel_rfl, rfl⟩
theorem Try.ent52 : Enters Try.prog 52 := ⟨_, Try.func52, by kernel_rfl, rfl⟩
theorem Try.ent53 : Enters Try.prog 53 := ⟨_, Try.func53, by kernel_rfl, rfl⟩
theorem Try.ent54 : Enters Try.prog 54 := ⟨_, Try.func54, by kernel_rfl, rfl⟩
theorem Try.ent55 : Enters Try.prog 55 := ⟨_, Try.func55, by kernel_rfl, rfl⟩
theorem Try.ent56 : Enters Try.prog 56 := ⟨_, Try.func56, by kernel_rfl, rfl⟩
theorem Try.ent57 : Enters Try.prog 57 := ⟨_, Try.func57, by kernel_rfl, rfl⟩
theorem Try.ent58 : Enters Try.prog 58 := ⟨_, Try.func58, by kernel_rfl, rfl⟩
theorem Try.ent59 : Enters Try.prog 59 := ⟨_, Try.func59, by kernel_rfl, rfl⟩
theorem Try.ent60 : Enters Try.prog 60 := ⟨_, Try.func60, by kernel_rfl, rfl⟩
theorem Try.ent61 : Enters Try.prog 61 := ⟨_, Try.func61, by kernel_rfl, rfl⟩
theorem Try.ent63 : Enters Try.prog 63 := ⟨_, Try.func63, by kernel_rfl, rfl⟩
theorem Try.ent64 : Enters Try.prog 64 := ⟨_, Try.func64, by kernel_rfl, rfl⟩
theorem Try.ent65 : Enters Try.prog 65 := ⟨_, Try.func65, by kernel_rfl, rfl⟩
theorem Try.ent66 : Enters Try.prog 66 := ⟨_, Try.func66, by kernel_rfl, rfl⟩
theorem Try.ent67 : Enters Try.prog 67 := ⟨_, Try.func67, by kernel_rfl, rfl⟩
theorem Try.ent68 : Enters Try.prog 68 := ⟨_, Try.func68, by kernel_rfl, rfl⟩
theorem Try.ent69 : Enters Try.prog 69 := ⟨_, Try.func69, by kernel_rfl, rfl⟩
theorem Try.ent70 : Enters Try.prog 70 := ⟨_, Try.func70, by kernel_rfl, rfl⟩
theorem Try.elem24 : elemT Try.prog 24 1 8 := elemT_of (by kernel_rfl)
theorem Try.elem58 : elemT Try.prog 58 32 32 := elemT_of (by kernel_rfl)
theorem Try.mixed : Try.prog.follows .mixedOrders = true := by kernel_rfl
end Go.Proofs.Ytaoicbjgkghnnaa
