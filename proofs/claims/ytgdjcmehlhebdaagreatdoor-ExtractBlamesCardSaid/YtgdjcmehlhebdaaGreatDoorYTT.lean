/- What types are, found by trying. -/
import Derived.Test.YtgdjcmehlhebdaaGreatDoorTR
import Derived.Test.YtgdjcmehlhebdaaGreatDoorProg
import Derived.KernelRfl
set_option maxHeartbeats 25600000
namespace Go.Proofs.YtgdjcmehlhebdaaGreatDoor
open _root_.Go.Proofs.Tryz
open Go.E
set_option maxRecDepth 4000
theorem uT {t : TypeId} {d : TypeDesc} (h : prog.underlying t = some d := by first | with_reducible exact underlying3 | with_reducible exact underlying4 | with_reducible exact underlying5 | with_reducible exact underlying9 | with_reducible exact underlying22 | with_reducible exact underlying23 | with_reducible exact underlying26 | with_reducible exact underlying31 | with_reducible exact underlying33 | with_reducible exact underlying40 | with_reducible exact underlying43 | with_reducible exact underlying46 | with_reducible exact underlying49 | with_reducible exact underlying51 | with_reducible exact underlying55 | with_reducible exact underlying56 | with_reducible exact underlying58 | with_reducible exact underlying59 | with_reducible exact underlying63 | with_reducible exact underlying65 | with_reducible exact underlying67 | with_reducible exact underlying69 | with_reducible exact underlying73 | with_reducible exact underlying89 | with_reducible exact underlying93 | with_reducible exact underlying111 | with_reducible exact underlying112 | with_reducible exact underlying114 | with_reducible exact underlying136 | with_reducible exact underlying138 | with_reducible exact underlying140 | with_reducible exact underlying155 | with_reducible exact underlying158 | with_reducible exact underlying160 | with_reducible exact underlying182 | with_reducible exact underlying194 | with_reducible exact underlying198 | with_reducible exact underlying223 | with_reducible exact underlying224 | with_reducible exact underlying226 | with_reducible exact underlying229 | with_reducible exact underlying241 | with_reducible exact underlying243 | with_reducible exact underlying249 | with_reducible exact underlying289 | with_reducible exact underlying293 | with_reducible exact underlying295 | with_reducible exact underlying297 | with_reducible exact underlying302 | with_reducible exact underlying304 | with_reducible exact underlying331 | with_reducible exact underlying353 | (simp only [List.getElem_toArray, List.getElem_cons_zero]; first | with_reducible exact underlying158 | with_reducible exact underlying241)) : prog.underlying t = some d := h
theorem ce3 : (prog.info? 3).map (·.size) = some 1 := by kernel_rfl
theorem ce4 : (prog.info? 4).map (·.size) = some 1 := by kernel_rfl
theorem ce5 : (prog.info? 5).map (·.size) = some 1 := by kernel_rfl
theorem ce22 : (prog.info? 22).map (·.size) = some 1 := by kernel_rfl
theorem ce23 : (prog.info? 23).map (·.size) = some 1 := by kernel_rfl
theorem ce33 : (prog.info? 33).map (·.size) = some 1 := by kernel_rfl
theorem ce40 : (prog.info? 40).map (·.size) = some 1 := by kernel_rfl
theorem ce43 : (prog.info? 43).map (·.size) = some 2 := by kernel_rfl
theorem ce46 : (prog.info? 46).map (·.size) = some 3 := by kernel_rfl
theorem ce49 : (prog.info? 49).map (·.size) = some 32 := by kernel_rfl
theorem ce51 : (prog.info? 51).map (·.size) = some 1 := by kernel_rfl
theorem ce56 : (prog.info? 56).map (·.size) = some 1 := by kernel_rfl
theorem ce58 : (prog.info? 58).map (·.size) = some 4 := by kernel_rfl
theorem ce59 : (prog.info? 59).map (·.size) = some 16 := by kernel_rfl
theorem ce63 : (prog.info? 63).map (·.size) = some 28 := by kernel_rfl
theorem ce65 : (prog.info? 65).map (·.size) = some 29 := by kernel_rfl
theorem ce67 : (prog.info? 67).map (·.size) = some 61 := by kernel_rfl
theorem ce89 : (prog.info? 89).map (·.size) = some 32 := by kernel_rfl
theorem ce91 : (prog.info? 91).map (·.size) = some 49 := by kernel_rfl
theorem ce111 : (prog.info? 111).map (·.size) = some 1 := by kernel_rfl
theorem ce112 : (prog.info? 112).map (·.size) = some 1 := by kernel_rfl
theorem ce114 : (prog.info? 114).map (·.size) = some 2 := by kernel_rfl
theorem ce136 : (prog.info? 136).map (·.size) = some 49 := by kernel_rfl
theorem ce138 : (prog.info? 138).map (·.size) = some 50 := by kernel_rfl
theorem ce140 : (prog.info? 140).map (·.size) = some 1056 := by kernel_rfl
theorem ce155 : (prog.info? 155).map (·.size) = some 1 := by kernel_rfl
theorem ce158 : (prog.info? 158).map (·.size) = some 1 := by kernel_rfl
theorem ce182 : (prog.info? 182).map (·.size) = some 2 := by kernel_rfl
theorem ce194 : (prog.info? 194).map (·.size) = some 3 := by kernel_rfl
theorem ce198 : (prog.info? 198).map (·.size) = some 33 := by kernel_rfl
theorem ce223 : (prog.info? 223).map (·.size) = some 1 := by kernel_rfl
theorem ce224 : (prog.info? 224).map (·.size) = some 8 := by kernel_rfl
theorem ce241 : (prog.info? 241).map (·.size) = some 1 := by kernel_rfl
theorem ce249 : (prog.info? 249).map (·.size) = some 2 := by kernel_rfl
theorem ce289 : (prog.info? 289).map (·.size) = some 64 := by kernel_rfl
theorem ce295 : (prog.info? 295).map (·.size) = some 1 := by kernel_rfl
theorem ce302 : (prog.info? 302).map (·.size) = some 64 := by kernel_rfl
theorem ce353 : (prog.info? 353).map (·.size) = some 1 := by kernel_rfl
theorem cT {t n : Nat} (h : (prog.info? t).map (·.size) = some n := by first | with_reducible exact ce3 | with_reducible exact ce4 | with_reducible exact ce5 | with_reducible exact ce22 | with_reducible exact ce23 | with_reducible exact ce33 | with_reducible exact ce40 | with_reducible exact ce43 | with_reducible exact ce46 | with_reducible exact ce49 | with_reducible exact ce51 | with_reducible exact ce56 | with_reducible exact ce58 | with_reducible exact ce59 | with_reducible exact ce63 | with_reducible exact ce65 | with_reducible exact ce67 | with_reducible exact ce89 | with_reducible exact ce91 | with_reducible exact ce111 | with_reducible exact ce112 | with_reducible exact ce114 | with_reducible exact ce136 | with_reducible exact ce138 | with_reducible exact ce140 | with_reducible exact ce155 | with_reducible exact ce158 | with_reducible exact ce182 | with_reducible exact ce194 | with_reducible exact ce198 | with_reducible exact ce223 | with_reducible exact ce224 | with_reducible exact ce241 | with_reducible exact ce249 | with_reducible exact ce289 | with_reducible exact ce295 | with_reducible exact ce302 | with_reducible exact ce353) : (prog.info? t).map (·.size) = some n := h
theorem ze3 : zaW prog 3 = some [.int .i64 0] := by kernel_rfl
theorem ze33 : zaW prog 33 = some [.slice none 0 0] := by kernel_rfl
theorem ze43 : zaW prog 43 = some ([.slice none 0 0] ++ [.slice none 0 0]) := by kernel_rfl
theorem ze46 : zaW prog 46 = some ([.slice none 0 0] ++ ([.slice none 0 0] ++ [.slice none 0 0])) := by kernel_rfl
theorem ze49 : zaW prog 49 = some (List.replicate 32 (.int .u8 0)) := by kernel_rfl
theorem ze51 : zaW prog 51 = some [.nilIface] := by kernel_rfl
theorem ze58 : zaW prog 58 = some ([.int .i64 0] ++ [.slice none 0 0] ++ [.slice none 0 0] ++ [.int .u64 0]) := by kernel_rfl
theorem ze63 : zaW prog 63 = some ([.int .u64 0] ++ [.int .i64 0] ++ [.slice none 0 0] ++ [.int .u64 0] ++ [.int .i64 0] ++ ([.int .u64 0] ++ [.int .u64 0] ++ ([.int .i64 0] ++ [.slice none 0 0] ++ [.slice none 0 0] ++ [.int .u64 0]) ++ (List.replicate 16 (.int .u8 0))) ++ [.int .u64 0]) := by kernel_rfl
theorem ze91 : zaW prog 91 = some ([.int .u64 0] ++ (List.replicate 32 (.int .u8 0)) ++ (List.replicate 16 (.int .u8 0))) := by kernel_rfl
theorem ze93 : zaW prog 93 = some ([.bool false] ++ ([.int .u64 0] ++ (List.replicate 32 (.int .u8 0)) ++ (List.replicate 16 (.int .u8 0)))) := by kernel_rfl
theorem ze114 : zaW prog 114 = some ([.slice none 0 0] ++ [.slice none 0 0]) := by kernel_rfl
theorem ze136 : zaW prog 136 = some ([.int .u64 0] ++ (List.replicate 32 (.int .u8 0)) ++ (List.replicate 16 (.int .u8 0))) := by kernel_rfl
theorem ze138 : zaW prog 138 = some ([.bool false] ++ ([.int .u64 0] ++ (List.replicate 32 (.int .u8 0)) ++ (List.replicate 16 (.int .u8 0)))) := by kernel_rfl
theorem ze140 : zaW prog 140 = some (List.replicate 1056 (.int .u8 0)) := by kernel_rfl
theorem ze155 : zaW prog 155 = some [.pointer none] := by kernel_rfl
theorem ze182 : zaW prog 182 = some ([.slice none 0 0] ++ [.slice none 0 0]) := by kernel_rfl
theorem ze194 : zaW prog 194 = some ([.slice none 0 0] ++ [.slice none 0 0] ++ [.slice none 0 0]) := by kernel_rfl
theorem ze198 : zaW prog 198 = some ((List.replicate 32 (.int .u8 0)) ++ [.slice none 0 0]) := by kernel_rfl
theorem ze224 : zaW prog 224 = some (List.replicate 8 (.int .u32 0)) := by kernel_rfl
theorem ze243 : zaW prog 243 = some ([.int .i64 0] ++ [.map none] ++ (List.replicate 1056 (.int .u8 0))) := by kernel_rfl
theorem ze249 : zaW prog 249 = some ([.int .i64 0] ++ [.int .u64 0]) := by kernel_rfl
theorem ze302 : zaW prog 302 = some (List.replicate 64 (.int .u32 0)) := by kernel_rfl
theorem ze353 : zaW prog 353 = some [.int .u64 0] := by kernel_rfl
theorem zT {t : TypeId} {z : List Value} (h : zaW prog t = some z := by first | with_reducible exact ze3 | with_reducible exact ze33 | with_reducible exact ze43 | with_reducible exact ze46 | with_reducible exact ze49 | with_reducible exact ze51 | with_reducible exact ze58 | with_reducible exact ze63 | with_reducible exact ze91 | with_reducible exact ze93 | with_reducible exact ze114 | with_reducible exact ze136 | with_reducible exact ze138 | with_reducible exact ze140 | with_reducible exact ze155 | with_reducible exact ze182 | with_reducible exact ze194 | with_reducible exact ze198 | with_reducible exact ze224 | with_reducible exact ze243 | with_reducible exact ze249 | with_reducible exact ze302 | with_reducible exact ze353) : zaW prog t = some z := h
theorem oT {t : TypeId} (h : oneT prog t = true := by decide +kernel) : oneT prog t = true := h
theorem rT {t : TypeId} (h : rowT prog t = true := by decide +kernel) : rowT prog t = true := h
theorem mx : prog.follows .mixedOrders = true := by kernel_rfl
theorem dw {C : Ctx} {Q : EQ} {env : Env} {L : List Assn} {ops : Array Oper} {id : Nat} (E : List Nat × List Nat) (h : AWl C ops Q E [] [] env L) (hm : C.P.follows .mixedOrders = true := by exact mx) : TC C (.region id ops true) Q env L := S.draw E hm (Sub.nil _) h
theorem dr {C : Ctx} {Q : EQ} {env : Env} {L : List Assn} {ops : Array Oper} {id : Nat} (E : List Nat × List Nat) (h : AWl C ops Q E L [] env L) (hm : C.P.follows .mixedOrders = true := by exact mx) : TC C (.region id ops true) Q env L := S.draw E hm (Sub.refl _) h
end Go.Proofs.YtgdjcmehlhebdaaGreatDoor
