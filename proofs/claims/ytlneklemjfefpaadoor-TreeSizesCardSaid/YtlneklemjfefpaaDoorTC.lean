/-
  Walks: what the functions of the packages octets and node compute. Printed by a program of ours.
-/
import Derived.Test.YtlneklemjfefpaaDoorTB
import Derived.Test.YtlneklemjfefpaaDoorTR
namespace Go.Proofs.YtlneklemjfefpaaDoor
open Go.E
set_option linter.unusedVariables false
set_option maxRecDepth 4000
theorem Tryd.cells27 : (Tryd.prog.info? 27).map (·.size) = some 1 := by kernel_rfl
theorem Tryd.one27 : oneT Tryd.prog 27 = true := by kernel_rfl
theorem Tryd.cells142 : (Tryd.prog.info? 142).map (·.size) = some 1056 := by kernel_rfl
theorem Tryd.row142 : rowT Tryd.prog 142 = true := by kernel_rfl
theorem Tryd.cells197 : (Tryd.prog.info? 197).map (·.size) = some 1 := by kernel_rfl
theorem Tryd.zero142 : zeroOf Tryd.prog 142 = some (List.replicate 1056 (.int .u8 0)) := by kernel_rfl
theorem Tryd.ent31 : Enters Tryd.prog 31 := ⟨_, Tryd.func31, by kernel_rfl, rfl⟩
theorem Tryd.ent91 : Enters Tryd.prog 91 := ⟨_, Tryd.func91, by kernel_rfl, rfl⟩
theorem Tryd.ent95 : Enters Tryd.prog 95 := ⟨_, Tryd.func95, by kernel_rfl, rfl⟩
theorem Tryd.ent96 : Enters Tryd.prog 96 := ⟨_, Tryd.func96, by kernel_rfl, rfl⟩
theorem Tryd.ent109 : Enters Tryd.prog 109 := ⟨_, Tryd.func109, by kernel_rfl, rfl⟩
theorem Tryd.ent125 : Enters Tryd.prog 125 := ⟨_, Tryd.func125, by kernel_rfl, rfl⟩
theorem Tryd.ent126 : Enters Tryd.prog 126 := ⟨_, Tryd.func126, by kernel_rfl, rfl⟩
theorem Tryd.ent127 : Enters Tryd.prog 127 := ⟨_, Tryd.func127, by kernel_rfl, rfl⟩
theorem Tryd.ent128 : Enters Tryd.prog 128 := ⟨_, Tryd.func128, by kernel_rfl, rfl⟩
theorem Tryd.ent129 : Enters Tryd.prog 129 := ⟨_, Tryd.func129, by kernel_rfl, rfl⟩
theorem Tryd.ent145 : Enters Tryd.prog 145 := ⟨_, Tryd.func145, by kernel_rfl, rfl⟩
theorem Tryd.ent147 : Enters Tryd.prog 147 := ⟨_, Tryd.func147, by kernel_rfl, rfl⟩
theorem Tryd.elem23 : elemT Tryd.prog 23 32 32 := elemT_of (by kernel_rfl)
set_option maxHeartbeats 400000 in
theorem sized_walk (s : Nat) (w0 : World) :
    Calls Tryd.prog 145 #[.int .i64 (s : Int)] w0 (Post w0 [] fun v L => v = .bool (decide (s = 1 ∨ s = 2 ∨ s = 4 ∨ s = 8)) ∧ L = []) := by
  refine Calls.of (L := []) (n := 17) (rs := [.tmp 2]) Tryd.func145 rfl rfl rfl (Nat.le_of_ble_eq_true rfl) (Sat.nil _) ?_
  refine TC.seq ?_
  refine TC.region ?_
  refine S.q rfl rfl (Qt.assign (by conv => lhs; whnf)) ?_
  refine S.nil ?_
  refine TC.seq ?_
  refine TC.region ?_
  refine S.q rfl rfl (Qt.move (by conv => lhs; whnf)) ?_
  refine S.dec rfl rfl (Qt.eq (b := 1) rfl rfl) (fun h4 => ?_) (fun h4 => ?_)
  · refine S.q rfl rfl (Qt.move (by conv => lhs; whnf)) ?_
    refine S.pass rfl rfl ?_
    refine S.pass rfl rfl ?_
    refine S.q rfl rfl (Qt.pick_t rfl (by conv => lhs; whnf)) ?_
    refine S.q rfl rfl (Qt.move (by conv => lhs; whnf)) ?_
    refine S.pass rfl rfl ?_
    refine S.pass rfl rfl ?_
    refine S.q rfl rfl (Qt.pick_t rfl (by conv => lhs; whnf)) ?_
    refine S.q rfl rfl (Qt.move (by conv => lhs; whnf)) ?_
    refine S.pass rfl rfl ?_
    refine S.pass rfl rfl ?_
    refine S.q rfl rfl (Qt.pick_t rfl (by conv => lhs; whnf)) ?_
    refine S.q rfl rfl (Qt.assign (by conv => lhs; whnf)) ?_
    refine S.nil ?_
    refine TC.ret ?_
    refine finQ.ret (RVs.tmp (by conv => lhs; whnf) RVs.nil) (Sub.nil _) ?_
    exact ⟨by simp [pack, *], rfl⟩
  · refine S.q rfl rfl (Qt.move (by conv => lhs; whnf)) ?_
    refine S.qg rfl rfl rfl (Qt.move (by conv => lhs; whnf)) ?_
    refine S.decg rfl rfl rfl (Qt.eq (b := 2) rfl rfl) (fun h7 => ?_) (fun h7 => ?_)
    · refine S.q rfl rfl (Qt.pick_f rfl (by conv => lhs; whnf)) ?_
      refine S.q rfl rfl (Qt.move (by conv => lhs; whnf)) ?_
      refine S.pass rfl rfl ?_
      refine S.pass rfl rfl ?_
      refine S.q rfl rfl (Qt.pick_t rfl (by conv => lhs; whnf)) ?_
      refine S.q rfl rfl (Qt.move (by conv => lhs; whnf)) ?_
      refine S.pass rfl rfl ?_
      refine S.pass rfl rfl ?_
      refine S.q rfl rfl (Qt.pick_t rfl (by conv => lhs; whnf)) ?_
      refine S.q rfl rfl (Qt.assign (by conv => lhs; whnf)) ?_
      refine S.nil ?_
      refine TC.ret ?_
      refine finQ.ret (RVs.tmp (by conv => lhs; whnf) RVs.nil) (Sub.nil _) ?_
      exact ⟨by simp [pack, *], rfl⟩
    · refine S.q rfl rfl (Qt.pick_f rfl (by conv => lhs; whnf)) ?_
      refine S.q rfl rfl (Qt.move (by conv => lhs; whnf)) ?_
      refine S.qg rfl rfl rfl (Qt.move (by conv => lhs; whnf)) ?_
      refine S.decg rfl rfl rfl (Qt.eq (b := 4) rfl rfl) (fun h11 => ?_) (fun h11 => ?_)
      · refine S.q rfl rfl (Qt.pick_f rfl (by conv => lhs; whnf)) ?_
        refine S.q rfl rfl (Qt.move (by conv => lhs; whnf)) ?_
        refine S.pass rfl rfl ?_
        refine S.pass rfl rfl ?_
        refine S.q rfl rfl (Qt.pick_t rfl (by conv => lhs; whnf)) ?_
        refine S.q rfl rfl (Qt.assign (by conv => lhs; whnf)) ?_
        refine S.nil ?_
        refine TC.ret ?_
        refine finQ.ret (RVs.tmp (by conv => lhs; whnf) RVs.nil) (Sub.nil _) ?_
        exact ⟨by simp [pack, *], rfl⟩
      · refine S.q rfl rfl (Qt.pick_f rfl (by conv => lhs; whnf)) ?_
        refine S.q rfl rfl (Qt.move (by conv => lhs; whnf)) ?_
        refine S.qg rfl rfl rfl (Qt.move (by conv => lhs; whnf)) ?_
        refine S.decg rfl rfl rfl (Qt.eq (b := 8) rfl rfl) (fun h15 => ?_) (fun h15 => ?_)
        · refine S.q rfl rfl (Qt.pick_f rfl (by conv => lhs; whnf)) ?_
          refine S.q rfl rfl (Qt.assign (by conv => lhs; whnf)) ?_
          refine S.nil ?_
          refine TC.ret ?_
          refine finQ.ret (RVs.tmp (by conv => lhs; whnf) RVs.nil) (Sub.nil _) ?_
          exact ⟨by simp [pack, *], rfl⟩
        · refine S.q rfl rfl (Qt.pick_f rfl (by conv => lhs; whnf)) ?_
          refine S.q rfl rfl (Qt.assign (by conv => lhs; whnf)) ?_
          refine S.nil ?_
          refine TC.ret ?_
          refine finQ.ret (RVs.tmp (by conv => lhs; whnf) RVs.nil) (Sub.nil _) ?_
          exact ⟨by simp [pack, *], rfl⟩
theorem sized_T (s : Nat) (h : s = 1 ∨ s = 2 ∨ s = 4 ∨ s = 8) (w0 : World) : Calls Tryd.prog 145 #[.int .i64 (s : Int)] w0 (Ret w0 (.bool true)) :=
  Calls.ret ((sized_walk s w0).mono fun e w ⟨v, L, h1, h2, h3, h4⟩ => ⟨v, L, h1, h2, by rw [h3, decide_eq_true h], h4⟩)

set_option maxHeartbeats 400000 in
theorem num_walk (wb : Nat) (A : Option Addr) (c : Nat) (bs : List UInt8) (n s : Nat) (hs : s = 1 ∨ s = 2 ∨ s = 4 ∨ s = 8) (hn : n < 2 ^ (8 * s)) (hn64 : n < 18446744073709551616) (hb : bs.length ≤ 70368744177664) (w0 : World) (hL : Sat w0 [Blk wb 199 [.nilIface, .slice A bs.length c], OwnA 5 1 A bs.length c (bytesL bs)]) :
    Calls Tryd.prog 127 #[.pointer (some ⟨wb, 0, none⟩), .int .u64 (n : Int), .int .i64 (s : Int)] w0 (Post w0 (fps [Blk wb 199 [.nilIface, .slice A bs.length c], OwnA 5 1 A bs.length c (bytesL bs)]) fun v L => ∃ O d, v = .pointer (some ⟨wb, 0, none⟩) ∧ L = [Blk wb 199 [.nilIface, .slice O (bs ++ numB n s).length d], OwnA 5 1 O (bs ++ numB n s).length d (bytesL (bs ++ numB n s))]) := by
  refine Calls.of (L := [Blk wb 199 [.nilIface, .slice A bs.length c], OwnA 5 1 A bs.length c (bytesL bs)]) (n := 51) (rs := [.tmp 6]) Tryd.func127 rfl rfl rfl (Nat.le_of_ble_eq_true rfl) (hL) ?_
  refine TC.seq ?_
  refine TC.region ?_
  refine S.q rfl rfl (Qt.assign (by conv => lhs; whnf)) ?_
  refine S.nil ?_
  refine TC.seq ?_
  refine TC.seq ?_
  refine TC.region ?_
  refine S.q rfl rfl (Qt.move (by conv => lhs; whnf)) ?_
  refine S.q rfl rfl (Qt.eqp_some Tryd.underlying195 rfl) ?_
  refine S.nil ?_
  refine S.if_f rfl ?_
  refine TC.skip ?_
  refine TC.seq ?_
  refine TC.seq ?_
  refine TC.region ?_
  refine S.q rfl rfl (Qt.move (by conv => lhs; whnf)) ?_
  refine S.opS rfl rfl (OpV.con0 Tryd.ent145 rfl (fun w hw => sized_T s hs w) ?_)
  refine S.q rfl rfl (Qt.not_t rfl) ?_
  refine S.q rfl rfl (Qt.move (by conv => lhs; whnf)) ?_
  refine S.qg rfl rfl rfl (Qt.move (by conv => lhs; whnf)) ?_
  refine S.decg rfl rfl rfl (Qt.lt (b := 8) rfl rfl) (fun h15 => ?_) (fun h15 => ?_)
  · refine S.qg rfl rfl rfl (Qt.move (by conv => lhs; whnf)) ?_
    refine S.qg rfl rfl rfl (Qt.move (by conv => lhs; whnf)) ?_
    refine S.qg rfl rfl rfl (Qt.move (by conv => lhs; whnf)) ?_
    refine S.qg rfl rfl rfl (Qt.mul (a := 8) rfl rfl (by simp only [kmax]; omega)) ?_
    refine S.qg rfl rfl rfl (Qt.shrN rfl rfl (by simp only [kmax]; omega)) ?_
    refine S.qg rfl rfl rfl (Qt.dF (Qt.ne (b := 0) rfl rfl) (by rw [Nat.div_eq_of_lt hn]; exact fun h => h rfl)) ?_
    refine S.qg rfl rfl rfl (Qt.pick_t rfl (by conv => lhs; whnf)) ?_
    refine S.q rfl rfl (Qt.pick_f rfl (by conv => lhs; whnf)) ?_
    refine S.nil ?_
    refine S.if_f rfl ?_
    refine TC.skip ?_
    refine TC.seq ?_
    refine TC.seq ?_
    refine TC.region ?_
    refine S.q rfl rfl (Qt.move (by conv => lhs; whnf)) ?_
    refine S.q rfl rfl (Qt.subi rfl rfl (IntWalk.i64_in _ (by omega))) ?_
    refine S.q rfl rfl (Qt.assign (by conv => lhs; whnf)) ?_
    refine S.nil ?_
    refine TC.block ?_
    refine TC.loop (γ := Nat × Option Addr × Nat) [32, 33, 36, 37, 38, 39, 40, 41, 42, 43, 44, 45, 46, 47, 48, 49, 34, 35, 7] (fun g => [(7, .int .i64 ((s : Int) - 1 - (g.1 : Int)))]) (fun g => [Blk wb 199 [.nilIface, .slice g.2.1 (bs ++ (numB n s).take g.1).length g.2.2], OwnA 5 1 g.2.1 (bs ++ (numB n s).take g.1).length g.2.2 (bytesL (bs ++ (numB n s).take g.1))]) (fun g => g.1 ≤ s) (fun g => s - g.1) ((0, A, c))
      (Nat.zero_le _) ⟨Out.refl _ _, (List.forall_mem_cons.2 ⟨(by show Value.int .i64 ((s : Int) - 1) = Value.int .i64 ((s : Int) - 1 - ((0 : Nat) : Int)); congr 1; omega), (fun _ h => nomatch h)⟩)⟩ ((by dsimp only; rw [List.take_zero, List.append_nil]; exact Sub.refl _)) ?_
    rintro ⟨i, O, d⟩ u hi
    dsimp only at hi
    have hlen : (bs ++ (numB n s).take i).length ≤ bs.length + 8 := by rw [List.length_append, List.length_take, numB_length]; omega
    have hlen2 : (bs ++ (numB n s).take (i, O, d).fst).length ≤ bs.length + 8 := hlen
    refine TC.seq ?_
    refine TC.seq ?_
    refine TC.region ?_
    refine S.q rfl rfl (Qt.move (by conv => lhs; whnf)) ?_
    refine S.dec rfl rfl (Qt.gei rfl rfl) (fun h33 => ?_) (fun h33 => ?_)
    · refine S.nil ?_
      refine S.if_t rfl ?_
      refine TC.skip ?_
      refine TC.seq ?_
      refine TC.block ?_
      refine S.draw ([11, 14], [10]) Tryd.mixed (Sub.nil _) ?_
      refine D.q (k := 0) rfl (by kernel_rfl) (by kernel_rfl) rfl rfl (Qt.move (by conv => lhs; whnf)) ?_
      refine D.qX (k := 1) rfl (by kernel_rfl) (by kernel_rfl) (by kernel_rfl) rfl rfl (Qt.move (by conv => lhs; whnf)) ?_
      refine D.qX (k := 2) rfl (by kernel_rfl) (by kernel_rfl) (by kernel_rfl) rfl rfl (Qt.nilCheck rfl) ?_
      refine D.qX (k := 3) rfl (by kernel_rfl) (by kernel_rfl) (by kernel_rfl) rfl rfl (Qt.field Tryd.underlying199 rfl Tryd.cells101 rfl) ?_
      refine D.qX (k := 4) rfl (by kernel_rfl) (by kernel_rfl) (by kernel_rfl) rfl rfl (Qt.load rfl (Ld.one (Has.at 0 rfl) Tryd.one101 (rfl))) ?_
      refine D.qX (k := 5) rfl (by kernel_rfl) (by kernel_rfl) (by kernel_rfl) rfl rfl (Qt.move (by conv => lhs; whnf)) ?_
      refine D.qX (k := 6) rfl (by kernel_rfl) (by kernel_rfl) (by kernel_rfl) rfl rfl (Qt.as (Qt.move rfl) (congrArg (Value.int .i64) (show ((s : Int) - 1 - (i : Int)) = ((s - 1 - i : Nat) : Int) by omega))) ?_
      refine D.qX (k := 7) rfl (by kernel_rfl) (by kernel_rfl) (by kernel_rfl) rfl rfl (Qt.mul (a := 8) rfl rfl (by simp only [kmax]; omega)) ?_
      refine D.qX (k := 8) rfl (by kernel_rfl) (by kernel_rfl) (by kernel_rfl) rfl rfl (Qt.shrN rfl rfl (by simp only [kmax]; omega)) ?_
      refine D.qX (k := 9) rfl (by kernel_rfl) (by kernel_rfl) (by kernel_rfl) rfl rfl (Qt.toByte Tryd.underlying24 Tryd.underlying5 rfl) ?_
      refine D.nS (k := 10) (Sub.nil _) rfl (by kernel_rfl) (by kernel_rfl) rfl rfl (OpV.slice1 (bytes := 1) (v := .int .u8 (((UInt8.ofNat (n / 2 ^ (8 * (s - 1 - i)))).toNat : Nat) : Int)) Tryd.underlying101 Tryd.elem5 (by decide) rfl rfl (fun g46 => ⟨Sub.drop _ (Sub.keep _ (Sub.keep _ (Sub.nil []))), ?_⟩))
      refine D.opS (k := 11) (Sub.nil _) rfl (by kernel_rfl) (by kernel_rfl) rfl rfl (OpV.app2 (bytes := 1) (news := bytesL [UInt8.ofNat (n / 2 ^ (8 * (s - 1 - i)))]) Tryd.underlying101 Tryd.elem5 rfl rfl (Has.blk (Has.at 0 rfl)) (rfl) (bytesL_one _) (by simp only [maxLen]; omega) (by omega) (fun O2 d2 => ⟨Sub.nil _, ?_⟩))
      refine D.qX (k := 12) rfl (by kernel_rfl) (by kernel_rfl) (by kernel_rfl) rfl rfl (Qt.nilCheck rfl) ?_
      refine D.qX (k := 13) rfl (by kernel_rfl) (by kernel_rfl) (by kernel_rfl) rfl rfl (Qt.field Tryd.underlying199 rfl Tryd.cells101 rfl) ?_
      refine D.opN (k := 14) (Sub.nil _) rfl (by kernel_rfl) (by kernel_rfl) rfl (OpV.storeC1 rfl (by conv => lhs; whnf) Tryd.cells101 rfl rfl (Nat.le_of_ble_eq_true rfl) ⟨Sub.nil _, ?_⟩)
      refine D.done (Sub.nil _) (by kernel_rfl) ?_
      refine TC.region ?_
      refine S.q rfl rfl (Qt.move (by conv => lhs; whnf)) ?_
      refine S.q rfl rfl (Qt.subi rfl rfl (IntWalk.i64_in _ (by omega))) ?_
      refine S.q rfl rfl (Qt.assign (by conv => lhs; whnf)) ?_
      refine S.nil ?_
      refine ⟨(i + 1, O2, d2), ?_, ?_, ⟨?_, (List.forall_mem_cons.2 ⟨(by show Value.int .i64 ((s : Int) - 1 - (i : Int) - 1) = Value.int .i64 ((s : Int) - 1 - ((i + 1 : Nat) : Int)); congr 1; omega), (fun _ h => nomatch h)⟩)⟩, (by dsimp only; rw [num_len bs n (by omega), ← num_step bs n (by omega)]; exact Sub.drop _ (Sub.refl _))⟩
      · show _ ≤ _; dsimp only; omega
      · show _ < _; dsimp only; omega
      repeat (first | exact Out.refl _ _ | refine Out.put rfl ?_ | refine Out.puts rfl ?_ | refine Out.scr ?_ | refine Out.scr' rfl ?_)
    · refine S.nil ?_
      refine S.if_f rfl ?_
      refine TC.exit ?_
      refine TC.seq ?_
      refine TC.region ?_
      refine S.q rfl rfl (Qt.move (by conv => lhs; whnf)) ?_
      refine S.q rfl rfl (Qt.assign (by conv => lhs; whnf)) ?_
      refine S.nil ?_
      refine TC.ret ?_
      refine finQ.ret (RVs.tmp (by conv => lhs; whnf) RVs.nil) (Sub.refl _) ?_
      have e : (numB n s).take i = numB n s := by rw [show i = s by omega, numB_all]
      exact ⟨O, d, rfl, by simp only [e]⟩
  · refine S.qg rfl rfl rfl (Qt.move (by conv => lhs; whnf)) ?_
    refine S.pass rfl rfl ?_
    refine S.pass rfl rfl ?_
    refine S.pass rfl rfl ?_
    refine S.pass rfl rfl ?_
    refine S.pass rfl rfl ?_
    refine S.qg rfl rfl rfl (Qt.pick_f rfl (by conv => lhs; whnf)) ?_
    refine S.q rfl rfl (Qt.pick_f rfl (by conv => lhs; whnf)) ?_
    refine S.nil ?_
    refine S.if_f rfl ?_
    refine TC.skip ?_
    refine TC.seq ?_
    refine TC.seq ?_
    refine TC.region ?_
    refine S.q rfl rfl (Qt.move (by conv => lhs; whnf)) ?_
    refine S.q rfl rfl (Qt.subi rfl rfl (IntWalk.i64_in _ (by omega))) ?_
    refine S.q rfl rfl (Qt.assign (by conv => lhs; whnf)) ?_
    refine S.nil ?_
    refine TC.block ?_
    refine TC.loop (γ := Nat × Option Addr × Nat) [32, 33, 36, 37, 38, 39, 40, 41, 42, 43, 44, 45, 46, 47, 48, 49, 34, 35, 7] (fun g => [(7, .int .i64 ((s : Int) - 1 - (g.1 : Int)))]) (fun g => [Blk wb 199 [.nilIface, .slice g.2.1 (bs ++ (numB n s).take g.1).length g.2.2], OwnA 5 1 g.2.1 (bs ++ (numB n s).take g.1).length g.2.2 (bytesL (bs ++ (numB n s).take g.1))]) (fun g => g.1 ≤ s) (fun g => s - g.1) ((0, A, c))
      (Nat.zero_le _) ⟨Out.refl _ _, (List.forall_mem_cons.2 ⟨(by show Value.int .i64 ((s : Int) - 1) = Value.int .i64 ((s : Int) - 1 - ((0 : Nat) : Int)); congr 1; omega), (fun _ h => nomatch h)⟩)⟩ ((by dsimp only; rw [List.take_zero, List.append_nil]; exact Sub.refl _)) ?_
    rintro ⟨i, O, d⟩ u hi
    dsimp only at hi
    have hlen : (bs ++ (numB n s).take i).length ≤ bs.length + 8 := by rw [List.length_append, List.length_take, numB_length]; omega
    have hlen2 : (bs ++ (numB n s).take (i, O, d).fst).length ≤ bs.length + 8 := hlen
    refine TC.seq ?_
    refine TC.seq ?_
    refine TC.region ?_
    refine S.q rfl rfl (Qt.move (by conv => lhs; whnf)) ?_
    refine S.dec rfl rfl (Qt.gei rfl rfl) (fun h33 => ?_) (fun h33 => ?_)
    · refine S.nil ?_
      refine S.if_t rfl ?_
      refine TC.skip ?_
      refine TC.seq ?_
      refine TC.block ?_
      refine S.draw ([11, 14], [10]) Tryd.mixed (Sub.nil _) ?_
      refine D.q (k := 0) rfl (by kernel_rfl) (by kernel_rfl) rfl rfl (Qt.move (by conv => lhs; whnf)) ?_
      refine D.qX (k := 1) rfl (by kernel_rfl) (by kernel_rfl) (by kernel_rfl) rfl rfl (Qt.move (by conv => lhs; whnf)) ?_
      refine D.qX (k := 2) rfl (by kernel_rfl) (by kernel_rfl) (by kernel_rfl) rfl rfl (Qt.nilCheck rfl) ?_
      refine D.qX (k := 3) rfl (by kernel_rfl) (by kernel_rfl) (by kernel_rfl) rfl rfl (Qt.field Tryd.underlying199 rfl Tryd.cells101 rfl) ?_
      refine D.qX (k := 4) rfl (by kernel_rfl) (by kernel_rfl) (by kernel_rfl) rfl rfl (Qt.load rfl (Ld.one (Has.at 0 rfl) Tryd.one101 (rfl))) ?_
      refine D.qX (k := 5) rfl (by kernel_rfl) (by kernel_rfl) (by kernel_rfl) rfl rfl (Qt.move (by conv => lhs; whnf)) ?_
      refine D.qX (k := 6) rfl (by kernel_rfl) (by kernel_rfl) (by kernel_rfl) rfl rfl (Qt.as (Qt.move rfl) (congrArg (Value.int .i64) (show ((s : Int) - 1 - (i : Int)) = ((s - 1 - i : Nat) : Int) by omega))) ?_
      refine D.qX (k := 7) rfl (by kernel_rfl) (by kernel_rfl) (by kernel_rfl) rfl rfl (Qt.mul (a := 8) rfl rfl (by simp only [kmax]; omega)) ?_
      refine D.qX (k := 8) rfl (by kernel_rfl) (by kernel_rfl) (by kernel_rfl) rfl rfl (Qt.shrN rfl rfl (by simp only [kmax]; omega)) ?_
      refine D.qX (k := 9) rfl (by kernel_rfl) (by kernel_rfl) (by kernel_rfl) rfl rfl (Qt.toByte Tryd.underlying24 Tryd.underlying5 rfl) ?_
      refine D.nS (k := 10) (Sub.nil _) rfl (by kernel_rfl) (by kernel_rfl) rfl rfl (OpV.slice1 (bytes := 1) (v := .int .u8 (((UInt8.ofNat (n / 2 ^ (8 * (s - 1 - i)))).toNat : Nat) : Int)) Tryd.underlying101 Tryd.elem5 (by decide) rfl rfl (fun g46 => ⟨Sub.drop _ (Sub.keep _ (Sub.keep _ (Sub.nil []))), ?_⟩))
      refine D.opS (k := 11) (Sub.nil _) rfl (by kernel_rfl) (by kernel_rfl) rfl rfl (OpV.app2 (bytes := 1) (news := bytesL [UInt8.ofNat (n / 2 ^ (8 * (s - 1 - i)))]) Tryd.underlying101 Tryd.elem5 rfl rfl (Has.blk (Has.at 0 rfl)) (rfl) (bytesL_one _) (by simp only [maxLen]; omega) (by omega) (fun O2 d2 => ⟨Sub.nil _, ?_⟩))
      refine D.qX (k := 12) rfl (by kernel_rfl) (by kernel_rfl) (by kernel_rfl) rfl rfl (Qt.nilCheck rfl) ?_
      refine D.qX (k := 13) rfl (by kernel_rfl) (by kernel_rfl) (by kernel_rfl) rfl rfl (Qt.field Tryd.underlying199 rfl Tryd.cells101 rfl) ?_
      refine D.opN (k := 14) (Sub.nil _) rfl (by kernel_rfl) (by kernel_rfl) rfl (OpV.storeC1 rfl (by conv => lhs; whnf) Tryd.cells101 rfl rfl (Nat.le_of_ble_eq_true rfl) ⟨Sub.nil _, ?_⟩)
      refine D.done (Sub.nil _) (by kernel_rfl) ?_
      refine TC.region ?_
      refine S.q rfl rfl (Qt.move (by conv => lhs; whnf)) ?_
      refine S.q rfl rfl (Qt.subi rfl rfl (IntWalk.i64_in _ (by omega))) ?_
      refine S.q rfl rfl (Qt.assign (by conv => lhs; whnf)) ?_
      refine S.nil ?_
      refine ⟨(i + 1, O2, d2), ?_, ?_, ⟨?_, (List.forall_mem_cons.2 ⟨(by show Value.int .i64 ((s : Int) - 1 - (i : Int) - 1) = Value.int .i64 ((s : Int) - 1 - ((i + 1 : Nat) : Int)); congr 1; omega), (fun _ h => nomatch h)⟩)⟩, (by dsimp only; rw [num_len bs n (by omega), ← num_step bs n (by omega)]; exact Sub.drop _ (Sub.refl _))⟩
      · show _ ≤ _; dsimp only; omega
      · show _ < _; dsimp only; omega
      repeat (first | exact Out.refl _ _ | refine Out.put rfl ?_ | refine Out.puts rfl ?_ | refine Out.scr ?_ | refine Out.scr' rfl ?_)
    · refine S.nil ?_
      refine S.if_f rfl ?_
      refine TC.exit ?_
      refine TC.seq ?_
      refine TC.region ?_
      refine S.q rfl rfl (Qt.move (by conv => lhs; whnf)) ?_
      refine S.q rfl rfl (Qt.assign (by conv => lhs; whnf)) ?_
      refine S.nil ?_
      refine TC.ret ?_
      refine finQ.ret (RVs.tmp (by conv => lhs; whnf) RVs.nil) (Sub.refl _) ?_
      have e : (numB n s).take i = numB n s := by rw [show i = s by omega, numB_all]
      exact ⟨O, d, rfl, by simp only [e]⟩
set_option maxHeartbeats 400000 in
theorem raw_walk (wb : Nat) (A : Option Addr) (c : Nat) (bs : List UInt8) (B : Option Addr) (d : Nat) (ns : List UInt8) (hb : bs.length ≤ 70368744177664) (hn : ns.length ≤ 70368744177664) (w0 : World) (hL : Sat w0 [Blk wb 199 [.nilIface, .slice A bs.length c], OwnA 5 1 A bs.length c (bytesL bs)]) (hR : Ro w0 (fps [Blk wb 199 [.nilIface, .slice A bs.length c], OwnA 5 1 A bs.length c (bytesL bs)]) (SlA B (bytesL ns))) :
    Calls Tryd.prog 147 #[.pointer (some ⟨wb, 0, none⟩), .slice B ns.length d] w0 (Post w0 (fps [Blk wb 199 [.nilIface, .slice A bs.length c], OwnA 5 1 A bs.length c (bytesL bs)]) fun v L => ∃ O d, v = .pointer (some ⟨wb, 0, none⟩) ∧ L = [Blk wb 199 [.nilIface, .slice O (bs ++ ns).length d], OwnA 5 1 O (bs ++ ns).length d (bytesL (bs ++ ns))]) := by
  refine Calls.of (L := [Blk wb 199 [.nilIface, .slice A bs.length c], OwnA 5 1 A bs.length c (bytesL bs)]) (n := 17) (rs := [.tmp 4]) Tryd.func147 rfl rfl rfl (Nat.le_of_ble_eq_true rfl) (hL) ?_
  refine TC.seq ?_
  refine TC.region ?_
  refine S.q rfl rfl (Qt.assign (by conv => lhs; whnf)) ?_
  refine S.nil ?_
  refine TC.seq ?_
  refine TC.seq ?_
  refine TC.region ?_
  refine S.q rfl rfl (Qt.move (by conv => lhs; whnf)) ?_
  refine S.q rfl rfl (Qt.eqp_some Tryd.underlying195 rfl) ?_
  refine S.nil ?_
  refine S.if_f rfl ?_
  refine TC.skip ?_
  refine TC.seq ?_
  refine TC.region ?_
  refine S.q rfl rfl (Qt.move (by conv => lhs; whnf)) ?_
  refine S.q rfl rfl (Qt.move (by conv => lhs; whnf)) ?_
  refine S.q rfl rfl (Qt.nilCheck rfl) ?_
  refine S.q rfl rfl (Qt.field Tryd.underlying199 rfl Tryd.cells101 rfl) ?_
  refine S.q rfl rfl (Qt.load rfl (Ld.one (Has.at 0 rfl) Tryd.one101 (rfl))) ?_
  refine S.q rfl rfl (Qt.move (by conv => lhs; whnf)) ?_
  refine S.opS rfl rfl (OpV.app1 (bytes := 1) (news := bytesL ns) Tryd.underlying101 Tryd.elem5 rfl rfl (Has.ro hR) (by rw [bytesL_length]; omega) (bytesL_one _) (by simp only [maxLen]; omega) (by omega) (fun O2 d2 => ?_))
  refine S.q rfl rfl (Qt.nilCheck rfl) ?_
  refine S.q rfl rfl (Qt.field Tryd.underlying199 rfl Tryd.cells101 rfl) ?_
  refine S.opN rfl (OpV.storeC0 rfl (by conv => lhs; whnf) Tryd.cells101 rfl rfl (Nat.le_of_ble_eq_true rfl) ?_)
  refine S.nil ?_
  refine TC.seq ?_
  refine TC.region ?_
  refine S.q rfl rfl (Qt.move (by conv => lhs; whnf)) ?_
  refine S.q rfl rfl (Qt.assign (by conv => lhs; whnf)) ?_
  refine S.nil ?_
  refine TC.ret ?_
  refine finQ.ret (RVs.tmp (by conv => lhs; whnf) RVs.nil) (Sub.refl _) ?_
  exact ⟨O2, d2, rfl, by rw [List.length_append, bytesL_append]; rfl⟩
set_option maxHeartbeats 400000 in
theorem whash_walk (wb : Nat) (A : Option Addr) (c : Nat) (bs : List UInt8) (h : H32) (hb : bs.length ≤ 70368744177664) (w0 : World) (hL : Sat w0 [Blk wb 199 [.nilIface, .slice A bs.length c], OwnA 5 1 A bs.length c (bytesL bs)]) :
    Calls Tryd.prog 128 #[.pointer (some ⟨wb, 0, none⟩), hv h] w0 (Post w0 (fps [Blk wb 199 [.nilIface, .slice A bs.length c], OwnA 5 1 A bs.length c (bytesL bs)]) fun v L => ∃ O d, v = .pointer (some ⟨wb, 0, none⟩) ∧ L = [Blk wb 199 [.nilIface, .slice O (bs ++ h.1).length d], OwnA 5 1 O (bs ++ h.1).length d (bytesL (bs ++ h.1))]) := by
  refine Calls.of (L := [Blk wb 199 [.nilIface, .slice A bs.length c], OwnA 5 1 A bs.length c (bytesL bs)]) (n := 8) (rs := [.tmp 4]) Tryd.func128 rfl rfl rfl (Nat.le_of_ble_eq_true rfl) (hL) ?_
  refine TC.seq ?_
  refine TC.region ?_
  refine S.opS rfl rfl (OpV.box (v := hv h) rfl (fun b3 => ?_))
  refine S.q rfl rfl (Qt.assign (by conv => lhs; whnf)) ?_
  refine S.nil ?_
  refine TC.seq ?_
  refine TC.region ?_
  refine S.q rfl rfl (Qt.move (by conv => lhs; whnf)) ?_
  refine S.q rfl rfl (Qt.as (v' := .slice (some ⟨b3, 0, none⟩) h.1.length 32) (Qt.sliceB_all Tryd.underlying23 Tryd.cells5 rfl) (by rw [h.2])) ?_
  refine S.opS rfl rfl (OpV.con (Pre := [Blk wb 199 [.nilIface, .slice A bs.length c], OwnA 5 1 A bs.length c (bytesL bs)]) (R := _) Tryd.ent147 rfl ((List.perm_middle (l₁ := [_])).trans (List.Perm.cons _ (List.perm_middle (l₁ := [_])))) (fun w hw => raw_walk wb A c bs (some ⟨b3, 0, none⟩) 32 h.1 hb (by rw [h.2]; decide) w hw.sat.left (Ro.blk (Ro.of_rest (A := Blk b3 23 (hvl h)) hw (List.mem_cons_self ..)))) ?_)
  rintro v L' ⟨O2, d2, rfl, rfl⟩
  refine S.q rfl rfl (Qt.assign (by conv => lhs; whnf)) ?_
  refine S.nil ?_
  refine TC.ret ?_
  refine finQ.ret (RVs.tmp (by conv => lhs; whnf) RVs.nil) (Sub.keep _ (Sub.keep _ (Sub.nil _))) ?_
  exact ⟨O2, d2, rfl, rfl⟩
set_option maxHeartbeats 400000 in
theorem done_walk (wb : Nat) (A : Option Addr) (c : Nat) (bs : List UInt8) (hb : bs.length ≤ 70368744177664) (w0 : World) (hW : Ro w0 [] (Blk wb 199 [.nilIface, .slice A bs.length c])) (hO : Ro w0 [] (SlA A (bytesL bs))) :
    Calls Tryd.prog 129 #[.pointer (some ⟨wb, 0, none⟩)] w0 (Post w0 [] fun v L => ∃ O d, v = .tuple #[.slice O bs.length d, .nilIface] ∧ L = [OwnA 5 1 O bs.length d (bytesL bs)]) := by
  refine Calls.of (L := []) (n := 25) (rs := [.tmp 2, .tmp 3]) Tryd.func129 rfl rfl rfl (Nat.le_of_ble_eq_true rfl) (Sat.nil _) ?_
  refine TC.seq ?_
  refine TC.region ?_
  refine S.q rfl rfl (Qt.assign (by conv => lhs; whnf)) ?_
  refine S.q rfl rfl (Qt.assign (by conv => lhs; whnf)) ?_
  refine S.nil ?_
  refine TC.seq ?_
  refine TC.block ?_
  refine TC.seq ?_
  refine TC.region ?_
  refine S.q rfl rfl (Qt.move (by conv => lhs; whnf)) ?_
  refine S.q rfl rfl (Qt.eqp_some Tryd.underlying195 rfl) ?_
  refine S.q rfl rfl (Qt.assign (by conv => lhs; whnf)) ?_
  refine S.nil ?_
  refine S.if_f rfl ?_
  refine TC.seq ?_
  refine TC.region ?_
  refine S.q rfl rfl (Qt.move (by conv => lhs; whnf)) ?_
  refine S.q rfl rfl (Qt.nilCheck rfl) ?_
  refine S.q rfl rfl (Qt.field Tryd.underlying199 rfl Tryd.cells197 rfl) ?_
  refine S.q rfl rfl (Qt.field Tryd.underlying197 rfl Tryd.cells27 rfl) ?_
  refine S.q rfl rfl (Qt.load rfl (Ld.one (Has.ro hW) Tryd.one27 rfl)) ?_
  refine S.q rfl rfl (Qt.nenil_nil Tryd.underlying27 rfl) ?_
  refine S.q rfl rfl (Qt.assign (by conv => lhs; whnf)) ?_
  refine S.nil ?_
  refine S.if_f rfl ?_
  refine TC.skip ?_
  refine TC.seq ?_
  refine TC.region ?_
  refine S.q rfl rfl (Qt.move (by conv => lhs; whnf)) ?_
  refine S.q rfl rfl (Qt.nilCheck rfl) ?_
  refine S.q rfl rfl (Qt.field Tryd.underlying199 rfl Tryd.cells101 rfl) ?_
  refine S.q rfl rfl (Qt.load rfl (Ld.one (Has.ro hW) Tryd.one101 rfl)) ?_
  refine S.opS rfl rfl (OpV.con (Pre := []) (R := _) Tryd.ent148 rfl (List.Perm.refl _) (fun w hw => clone_walk A c bs w (Rd.ro hO w hw) hb) ?_)
  rintro v L' ⟨O, d, rfl, rfl⟩
  refine S.q rfl rfl (Qt.assign (by conv => lhs; whnf)) ?_
  refine S.q rfl rfl (Qt.assign (by conv => lhs; whnf)) ?_
  refine S.nil ?_
  refine TC.ret ?_
  refine finQ.ret (RVs.tmp (by conv => lhs; whnf) (RVs.tmp (by conv => lhs; whnf) RVs.nil)) (Sub.refl _) ?_
  exact ⟨O, d, rfl, rfl⟩
set_option maxHeartbeats 400000 in
theorem jointext_walk (h : Nat) (h1 : 1 ≤ h) (h2 : h ≤ 32) (l r : H32) (w0 : World) :
    Calls Tryd.prog 96 #[.int .i64 (h : Int), hv l, hv r] w0 (Post w0 [] fun v L => ∃ O d, v = .tuple #[.slice O (joinT h l r).length d, .nilIface] ∧ L = [OwnA 5 1 O (joinT h l r).length d (bytesL (joinT h l r))]) := by
  refine Calls.of (L := []) (n := 30) (rs := [.tmp 6, .tmp 7]) Tryd.func96 rfl rfl rfl (Nat.le_of_ble_eq_true rfl) (Sat.nil _) ?_
  refine TC.ownNil 5 1 ?_
  refine TC.seq ?_
  refine TC.region ?_
  refine S.opS rfl rfl (OpV.box (v := hv l) rfl (fun b4 => ?_))
  refine S.opS rfl rfl (OpV.box (v := hv r) rfl (fun b5 => ?_))
  refine S.q rfl rfl (Qt.assign (by conv => lhs; whnf)) ?_
  refine S.q rfl rfl (Qt.assign (by conv => lhs; whnf)) ?_
  refine S.nil ?_
  refine TC.seq ?_
  refine TC.seq ?_
  refine TC.region ?_
  refine S.q rfl rfl (Qt.move (by conv => lhs; whnf)) ?_
  refine S.q rfl rfl (Qt.dF (Qt.lt (b := 1) rfl rfl) (by omega)) ?_
  refine S.q rfl rfl (Qt.move (by conv => lhs; whnf)) ?_
  refine S.qg rfl rfl rfl (Qt.move (by conv => lhs; whnf)) ?_
  refine S.qg rfl rfl rfl (Qt.dF (Qt.gt (b := 32) rfl rfl) (by omega)) ?_
  refine S.q rfl rfl (Qt.pick_f rfl (by conv => lhs; whnf)) ?_
  refine S.nil ?_
  refine S.if_f rfl ?_
  refine TC.skip ?_
  refine TC.seq ?_
  refine TC.region ?_
  refine S.q rfl rfl (Qt.build (v := .agg #[.nilIface, .slice none 0 0]) rfl (fun _ => by kernel_rfl)) ?_
  refine S.opS rfl rfl (OpV.box (by conv => lhs; whnf) (fun b17 => ?_))
  refine S.q rfl rfl (Qt.assign (by conv => lhs; whnf)) ?_
  refine S.nil ?_
  refine TC.seq ?_
  refine S.draw ([1, 4, 6, 8], [9]) Tryd.mixed (Sub.drop _ (Sub.keep _ (Sub.keep _ (Sub.drop _ (Sub.nil []))))) ?_
  refine D.qX (k := 0) rfl (by kernel_rfl) (by kernel_rfl) (by kernel_rfl) rfl rfl (Qt.move (by conv => lhs; whnf)) ?_
  refine D.q (k := 2) rfl (by kernel_rfl) (by kernel_rfl) rfl rfl (Qt.move (by conv => lhs; whnf)) ?_
  refine D.q (k := 3) rfl (by kernel_rfl) (by kernel_rfl) rfl rfl (Qt.convert Tryd.underlying3 Tryd.underlying24 rfl (by simp only [kmax]; omega)) ?_
  refine D.q (k := 5) rfl (by kernel_rfl) (by kernel_rfl) rfl rfl (Qt.load rfl (Ld.hash1 (x := l) (Has.at 1 rfl) Tryd.row23 Tryd.cells23)) ?_
  refine D.q (k := 7) rfl (by kernel_rfl) (by kernel_rfl) rfl rfl (Qt.load rfl (Ld.hash1 (x := r) (Has.at 0 rfl) Tryd.row23 Tryd.cells23)) ?_
  refine D.opS (k := 1) (Sub.drop _ (Sub.keep _ (Sub.keep _ (Sub.drop _ (Sub.nil []))))) rfl (by kernel_rfl) (by kernel_rfl) rfl rfl (OpV.con (Pre := [Blk b17 199 [.nilIface, .slice none ([] : List UInt8).length 0], OwnA 5 1 none ([] : List UInt8).length 0 (bytesL ([] : List UInt8))]) (R := _) Tryd.ent127 rfl (List.Perm.cons _ (List.perm_middle (l₁ := [_, _]))) (fun w hw => num_walk b17 none 0 [] 2 1 (.inl rfl) (by decide) (by decide) (by decide) w hw.sat.left) ?_)
  rintro v L' ⟨O1, d1, rfl, rfl⟩
  refine ⟨Sub.drop _ (Sub.drop _ (Sub.keep _ (Sub.keep _ (Sub.nil [])))), ?_⟩
  refine D.opS (k := 4) (Sub.drop _ (Sub.drop _ (Sub.keep _ (Sub.keep _ (Sub.nil []))))) rfl (by kernel_rfl) (by kernel_rfl) rfl rfl (OpV.con (Pre := [Blk b17 199 [.nilIface, .slice O1 (([] : List UInt8) ++ numB 2 1).length d1], OwnA 5 1 O1 (([] : List UInt8) ++ numB 2 1).length d1 (bytesL (([] : List UInt8) ++ numB 2 1))]) (R := _) Tryd.ent127 rfl (List.Perm.refl _) (fun w hw => num_walk b17 O1 d1 _ h 1 (.inl rfl) (by show h < 256; omega) (by omega) (by simp [numB_length, l.2, r.2]) w hw.sat.left) ?_)
  rintro v L' ⟨O2, d2, rfl, rfl⟩
  refine ⟨Sub.drop _ (Sub.drop _ (Sub.keep _ (Sub.keep _ (Sub.nil [])))), ?_⟩
  refine D.opS (k := 6) (Sub.drop _ (Sub.drop _ (Sub.keep _ (Sub.keep _ (Sub.nil []))))) rfl (by kernel_rfl) (by kernel_rfl) rfl rfl (OpV.con (Pre := [Blk b17 199 [.nilIface, .slice O2 ((([] : List UInt8) ++ numB 2 1) ++ numB h 1).length d2], OwnA 5 1 O2 ((([] : List UInt8) ++ numB 2 1) ++ numB h 1).length d2 (bytesL ((([] : List UInt8) ++ numB 2 1) ++ numB h 1))]) (R := _) Tryd.ent128 rfl (List.Perm.refl _) (fun w hw => whash_walk b17 O2 d2 _ l (by simp [numB_length, l.2, r.2]) w hw.sat.left) ?_)
  rintro v L' ⟨O3, d3, rfl, rfl⟩
  refine ⟨Sub.drop _ (Sub.drop _ (Sub.keep _ (Sub.keep _ (Sub.nil [])))), ?_⟩
  refine D.opS (k := 8) (Sub.drop _ (Sub.drop _ (Sub.keep _ (Sub.keep _ (Sub.nil []))))) rfl (by kernel_rfl) (by kernel_rfl) rfl rfl (OpV.con (Pre := [Blk b17 199 [.nilIface, .slice O3 (((([] : List UInt8) ++ numB 2 1) ++ numB h 1) ++ l.1).length d3], OwnA 5 1 O3 (((([] : List UInt8) ++ numB 2 1) ++ numB h 1) ++ l.1).length d3 (bytesL (((([] : List UInt8) ++ numB 2 1) ++ numB h 1) ++ l.1))]) (R := _) Tryd.ent128 rfl (List.Perm.refl _) (fun w hw => whash_walk b17 O3 d3 _ r (by simp [numB_length, l.2, r.2]) w hw.sat.left) ?_)
  rintro v L' ⟨O4, d4, rfl, rfl⟩
  refine ⟨Sub.drop _ (Sub.drop _ (Sub.keep _ (Sub.keep _ (Sub.nil [])))), ?_⟩
  refine D.nS (k := 9) (Sub.drop _ (Sub.drop _ (Sub.keep _ (Sub.keep _ (Sub.nil []))))) rfl (by kernel_rfl) (by kernel_rfl) rfl rfl (OpV.con (Pre := []) (R := _) Tryd.ent129 rfl (List.Perm.refl _) (fun w hw => done_walk b17 O4 d4 _ (by simp [numB_length, l.2, r.2]) w (Rd.at 0 rfl w hw) (Rd.own (Rd.at 1 rfl) w hw)) ?_)
  rintro v L' ⟨O5, d5, rfl, rfl⟩
  refine ⟨Sub.drop _ (Sub.keep _ (Sub.keep _ (Sub.keep _ (Sub.keep _ (Sub.nil []))))), ?_⟩
  refine D.qX (k := 10) rfl (by kernel_rfl) (by kernel_rfl) (by kernel_rfl) rfl rfl (Qt.extract rfl rfl) ?_
  refine D.qX (k := 11) rfl (by kernel_rfl) (by kernel_rfl) (by kernel_rfl) rfl rfl (Qt.extract rfl rfl) ?_
  refine D.qX (k := 12) rfl (by kernel_rfl) (by kernel_rfl) (by kernel_rfl) rfl rfl (Qt.assign (by conv => lhs; whnf)) ?_
  refine D.qX (k := 13) rfl (by kernel_rfl) (by kernel_rfl) (by kernel_rfl) rfl rfl (Qt.assign (by conv => lhs; whnf)) ?_
  refine D.done (Sub.drop _ (Sub.drop _ (Sub.drop _ (Sub.keep _ (Sub.keep _ (Sub.nil [])))))) (by kernel_rfl) ?_
  refine TC.ret ?_
  refine finQ.ret (RVs.tmp (by conv => lhs; whnf) (RVs.tmp (by conv => lhs; whnf) RVs.nil)) (Sub.keep _ (Sub.nil _)) ?_
  have e : ((((([] : List UInt8) ++ numB 2 1) ++ numB h 1) ++ l.1) ++ r.1) = joinT h l r := by rw [numB_one, numB_one, joinT]; rfl
  rw [e]
  exact ⟨O5, d5, rfl, rfl⟩
set_option maxHeartbeats 400000 in
theorem hashed_walk (A : Option Addr) (c : Nat) (b : List UInt8) (w0 : World) (hR : Ro w0 [] (SlA A (bytesL b))) (hl : b.length ≤ 70368744177664) (hT : Tabs 2 0 w0 []) :
    Calls Tryd.prog 95 #[.slice A b.length c, .nilIface] w0 (Post w0 [] fun v L => v = .tuple #[hv (shaH b), .nilIface] ∧ L = []) := by
  refine Calls.of (L := []) (n := 12) (rs := [.cell 4 23, .tmp 5]) Tryd.func95 rfl rfl rfl (Nat.le_of_ble_eq_true rfl) (Sat.nil _) ?_
  refine TC.seq ?_
  refine TC.region ?_
  refine S.opS rfl rfl (OpV.alloc Tryd.zero23 (fun b4 => ?_))
  refine S.q rfl rfl (Qt.assign (by conv => lhs; whnf)) ?_
  refine S.nil ?_
  refine TC.seq ?_
  refine TC.seq ?_
  refine TC.region ?_
  refine S.q rfl rfl (Qt.move (by conv => lhs; whnf)) ?_
  refine S.q rfl rfl (Qt.nenil_nil Tryd.underlying27 rfl) ?_
  refine S.nil ?_
  refine S.if_f rfl ?_
  refine TC.skip ?_
  refine TC.seq ?_
  refine TC.region ?_
  refine S.q rfl rfl (Qt.move (by conv => lhs; whnf)) ?_
  refine S.opS rfl rfl (OpV.con0 Tryd.ent109 rfl (fun w hw => Calls.ret (sum_walk A c b w (Rd.ro hR w hw) hl (hT.at hw))) ?_)
  refine S.opN rfl (OpV.storeV0 (v := hv (shaH b)) rfl rfl (hv_size Tryd.cells23) (hv_all _) (hv_len _) ?_)
  refine S.q rfl rfl (Qt.assign (by conv => lhs; whnf)) ?_
  refine S.nil ?_
  refine TC.ret ?_
  refine finQ.ret (RVs.cell rfl (Ld.all (Has.at 0 rfl) Tryd.row23 (hv_size Tryd.cells23)) (RVs.tmp (by conv => lhs; whnf) RVs.nil)) (Sub.nil _) ?_
  exact ⟨rfl, rfl⟩
set_option maxHeartbeats 400000 in
theorem join_walk (h : Nat) (h1 : 1 ≤ h) (h2 : h ≤ 32) (l r : H32) (w0 : World) (hT : Tabs 2 0 w0 []) :
    Calls Tryd.prog 31 #[.int .i64 (h : Int), hv l, hv r] w0 (Post w0 [] fun v L => v = .tuple #[hv (joinH h l r), .nilIface] ∧ L = []) := by
  refine Calls.of (L := []) (n := 17) (rs := [.cell 6 23, .tmp 7]) Tryd.func31 rfl rfl rfl (Nat.le_of_ble_eq_true rfl) (Sat.nil _) ?_
  refine TC.seq ?_
  refine TC.region ?_
  refine S.opS rfl rfl (OpV.box (v := hv l) rfl (fun b4 => ?_))
  refine S.opS rfl rfl (OpV.box (v := hv r) rfl (fun b5 => ?_))
  refine S.opS rfl rfl (OpV.alloc Tryd.zero23 (fun b6 => ?_))
  refine S.q rfl rfl (Qt.assign (by conv => lhs; whnf)) ?_
  refine S.nil ?_
  refine TC.seq ?_
  refine TC.region ?_
  refine S.q rfl rfl (Qt.move (by conv => lhs; whnf)) ?_
  refine S.q rfl rfl (Qt.load rfl (Ld.hash1 (x := l) (Has.at 2 rfl) Tryd.row23 Tryd.cells23)) ?_
  refine S.q rfl rfl (Qt.load rfl (Ld.hash1 (x := r) (Has.at 1 rfl) Tryd.row23 Tryd.cells23)) ?_
  refine S.opS rfl rfl (OpV.con (Pre := []) (R := _) Tryd.ent96 rfl (List.Perm.refl _) (fun w hw => jointext_walk h h1 h2 l r w) ?_)
  rintro v L' ⟨O, d, rfl, rfl⟩
  refine S.q rfl rfl (Qt.extract rfl rfl) ?_
  refine S.q rfl rfl (Qt.extract rfl rfl) ?_
  refine S.opS rfl rfl (OpV.con0 Tryd.ent95 rfl (fun w hw => Calls.ret (hashed_walk O d (joinT h l r) w (Rd.own (Rd.at 0 rfl) w hw) (by rw [joinT_length]; decide) (hT.at hw))) ?_)
  refine S.q rfl rfl (Qt.extract rfl rfl) ?_
  refine S.q rfl rfl (Qt.extract rfl rfl) ?_
  refine S.opN rfl (OpV.storeV1 (v := hv (joinH h l r)) rfl rfl (hv_size Tryd.cells23) (hv_all _) (hv_len _) ?_)
  refine S.q rfl rfl (Qt.assign (by conv => lhs; whnf)) ?_
  refine S.nil ?_
  refine TC.ret ?_
  refine finQ.ret (RVs.cell rfl (Ld.all (Has.at 1 rfl) Tryd.row23 (hv_size Tryd.cells23)) (RVs.tmp (by conv => lhs; whnf) RVs.nil)) (Sub.nil _) ?_
  exact ⟨rfl, rfl⟩
theorem join_R (h : Nat) (h1 : 1 ≤ h) (h2 : h ≤ 32) (l r : H32) (w0 : World) (hT : Tabs 2 0 w0 []) : Calls Tryd.prog 31 #[.int .i64 (h : Int), hv l, hv r] w0 (Ret w0 (.tuple #[hv (joinH h l r), .nilIface])) := Calls.ret (join_walk h h1 h2 l r w0 hT)

set_option maxHeartbeats 400000 in
theorem empties_walk0 (E : Nat → H32) (hE0 : E 0 = shaH [0]) (hE : ∀ h, E (h + 1) = joinH (h + 1) (E h) (E h)) (w0 : World) (hT : Tabs 2 0 w0 []) :
    Calls Tryd.prog 88 #[] w0 (Post w0 [] fun v L => v = .agg (hcs (emptL E)).toArray ∧ L = []) := by
  refine Calls.of (L := []) (n := 31) (rs := [.cell 0 142]) Tryd.func88 rfl rfl rfl (Nat.le_of_ble_eq_true rfl) (Sat.nil _) ?_
  refine TC.seq ?_
  refine TC.region ?_
  refine S.opS rfl rfl (OpV.alloc Tryd.zero142 (fun b0 => ?_))
  refine S.nil ?_
  refine TC.seq ?_
  refine TC.region ?_
  refine S.opS rfl rfl (OpV.slice1 (bytes := 1) (v := .int .u8 (((0 : UInt8).toNat : Nat) : Int)) Tryd.underlying101 Tryd.elem5 (by decide) rfl rfl (fun g5 => ?_))
  refine S.opS rfl rfl (OpV.con0 Tryd.ent109 rfl (fun w hw => (by rw [hE0]; exact Calls.ret (sum_walk (some ⟨g5, 0, none⟩) 1 [0] w (Rd.bytesAll (bl := [0]) (Rd.at 0 rfl) w hw) (by decide) (hT.at hw)) : Calls Tryd.prog 109 #[.slice (some ⟨g5, 0, none⟩) 1 1] w (Ret w (hv (E 0))))) ?_)
  refine S.q rfl rfl (Qt.as (v' := .agg (hcs (emptA E 1)).toArray) (Qt.buildArr (vs := [hv (E 0)]) Tryd.underlying142 Tryd.cells23 Tryd.zero142 rfl (by intro v hv; rw [List.mem_singleton.1 hv]; exact hv_len _) (by rw [List.flatMap_singleton, hv_len, List.length_replicate]; decide)) (by rw [emptA_one, List.flatMap_singleton, vl_hv, hvl_length, List.drop_replicate])) ?_
  refine S.opS rfl rfl (OpV.alloc Tryd.zero142 (fun b1 => ?_))
  refine S.opN rfl (OpV.storeV0 (v := .agg (hcs (emptA E 1)).toArray) rfl rfl (by rw [vl_agg, hcs_length, emptA_length E (by omega)]; exact Tryd.cells142) (hcs_all _) (by rw [vl_agg, hcs_length, emptA_length E (by omega), List.length_replicate]) ?_)
  refine S.nil ?_
  refine TC.seq ?_
  refine TC.seq ?_
  refine TC.region ?_
  refine S.q rfl rfl (Qt.assign (by conv => lhs; whnf)) ?_
  refine S.nil ?_
  refine TC.block ?_
  refine TC.loop (γ := Nat) [8, 9, 13, 14, 15, 16, 17, 18, 19, 20, 21, 22, 12, 23, 24, 3, 4, 25, 26, 27, 28, 29, 10, 11, 2] (fun k => [(2, .int .i64 (k : Int))]) (fun k => [Blk b1 142 (hcs (emptA E k)), Blk b0 142 (List.replicate 1056 (.int .u8 0))]) (fun k => 1 ≤ k ∧ k ≤ 33) (fun k => 33 - k) (1)
    ⟨Nat.le_refl _, by omega⟩ ⟨Out.refl _ _, (List.forall_mem_cons.2 ⟨rfl, (fun _ h => nomatch h)⟩)⟩ ((Sub.keep _ (Sub.drop _ (Sub.refl _)))) ?_
  rintro k u ⟨hk1, hk⟩
  refine TC.seq ?_
  refine TC.seq ?_
  refine TC.region ?_
  refine S.q rfl rfl (Qt.move (by conv => lhs; whnf)) ?_
  refine S.dec rfl rfl (Qt.lt (b := 33) rfl rfl) (fun h9 => ?_) (fun h9 => ?_)
  · refine S.nil ?_
    refine S.if_t rfl ?_
    refine TC.skip ?_
    refine TC.seq ?_
    refine TC.block ?_
    refine TC.seq ?_
    refine S.draw ([14], [13]) Tryd.mixed (Sub.nil _) ?_
    refine D.qX (k := 0) rfl (by kernel_rfl) (by kernel_rfl) (by kernel_rfl) rfl rfl (Qt.move (by conv => lhs; whnf)) ?_
    refine D.qX (k := 1) rfl (by kernel_rfl) (by kernel_rfl) (by kernel_rfl) rfl rfl (Qt.move (by conv => lhs; whnf)) ?_
    refine D.qX (k := 2) rfl (by kernel_rfl) (by kernel_rfl) (by kernel_rfl) rfl rfl (Qt.sub (b := 1) rfl rfl (by omega) (by simp only [kmax]; omega)) ?_
    refine D.qX (k := 3) rfl (by kernel_rfl) (by kernel_rfl) (by kernel_rfl) rfl rfl (Qt.indexB Tryd.underlying142 Tryd.cells23 rfl rfl (by omega)) ?_
    refine D.qX (k := 4) rfl (by kernel_rfl) (by kernel_rfl) (by kernel_rfl) rfl rfl (Qt.as (Qt.load rfl (Ld.hashB (Has.at 0 rfl) (k - 1) Tryd.row23 Tryd.cells23 (by rw [emptA_length E (by omega)]; omega) (by omega))) (by rw [emptA_get E (by omega)])) ?_
    refine D.qX (k := 5) rfl (by kernel_rfl) (by kernel_rfl) (by kernel_rfl) rfl rfl (Qt.move (by conv => lhs; whnf)) ?_
    refine D.qX (k := 6) rfl (by kernel_rfl) (by kernel_rfl) (by kernel_rfl) rfl rfl (Qt.sub (b := 1) rfl rfl (by omega) (by simp only [kmax]; omega)) ?_
    refine D.qX (k := 7) rfl (by kernel_rfl) (by kernel_rfl) (by kernel_rfl) rfl rfl (Qt.indexB Tryd.underlying142 Tryd.cells23 rfl rfl (by omega)) ?_
    refine D.qX (k := 8) rfl (by kernel_rfl) (by kernel_rfl) (by kernel_rfl) rfl rfl (Qt.as (Qt.load rfl (Ld.hashB (Has.at 0 rfl) (k - 1) Tryd.row23 Tryd.cells23 (by rw [emptA_length E (by omega)]; omega) (by omega))) (by rw [emptA_get E (by omega)])) ?_
    have hEk : E k = joinH k (E (k - 1)) (E (k - 1)) := by have := hE (k - 1); rwa [show k - 1 + 1 = k by omega] at this
    refine D.cX (k := 9) rfl (by kernel_rfl) (by kernel_rfl) (by kernel_rfl) rfl rfl (CalU.con0 Tryd.ent31 rfl (fun w hw => (by rw [hEk]; exact join_R k (by omega) (by omega) (E (k - 1)) (E (k - 1)) w (hT.at hw) : Calls Tryd.prog 31 #[.int .i64 (k : Int), hv (E (k - 1)), hv (E (k - 1))] w (Ret w (.tuple #[hv (E k), .nilIface]))))) ?_
    refine D.qX (k := 10) rfl (by kernel_rfl) (by kernel_rfl) (by kernel_rfl) rfl rfl (Qt.move (by conv => lhs; whnf)) ?_
    refine D.qX (k := 11) rfl (by kernel_rfl) (by kernel_rfl) (by kernel_rfl) rfl rfl (Qt.extract rfl rfl) ?_
    refine D.q (k := 12) rfl (by kernel_rfl) (by kernel_rfl) rfl rfl (Qt.extract rfl rfl) ?_
    refine D.nS (k := 13) (Sub.nil _) rfl (by kernel_rfl) (by kernel_rfl) rfl rfl (OpV.alloc Tryd.zero23 (fun b3 => ⟨Sub.drop _ (Sub.refl _), ?_⟩))
    refine D.opN (k := 14) (Sub.nil _) rfl (by kernel_rfl) (by kernel_rfl) rfl (OpV.storeV0 (v := hv (E k)) rfl rfl (hv_size Tryd.cells23) (hv_all _) (hv_len _) ⟨Sub.nil _, ?_⟩)
    refine D.qX (k := 15) rfl (by kernel_rfl) (by kernel_rfl) (by kernel_rfl) rfl rfl (Qt.assign (by conv => lhs; whnf)) ?_
    refine D.done (Sub.nil _) (by kernel_rfl) ?_
    refine TC.seq ?_
    refine TC.seq ?_
    refine TC.region ?_
    refine S.q rfl rfl (Qt.move (by conv => lhs; whnf)) ?_
    refine S.q rfl rfl (Qt.nenil_nil Tryd.underlying27 rfl) ?_
    refine S.nil ?_
    refine S.if_f rfl ?_
    refine TC.skip ?_
    refine TC.region ?_
    refine S.q rfl rfl (Qt.move (by conv => lhs; whnf)) ?_
    refine S.q rfl rfl (Qt.load rfl (Ld.hash1 (x := E k) (Has.at 0 rfl) Tryd.row23 Tryd.cells23)) ?_
    refine S.q rfl rfl (Qt.indexB Tryd.underlying142 Tryd.cells23 rfl rfl (by omega)) ?_
    refine S.opN rfl (OpV.storeR1 (v := hv (E k)) rfl rfl (hv_size Tryd.cells23) (hv_all _) (by rw [hv_len, hcs_length, emptA_length E (by omega)]; omega) (by rw [Nat.zero_add, hcs_set _ _ _ (by rw [emptA_length E (by omega)]; omega), emptA_set E (by omega)]) ?_)
    refine S.nil ?_
    refine TC.region ?_
    refine S.q rfl rfl (Qt.move (by conv => lhs; whnf)) ?_
    refine S.q rfl rfl (Qt.add (b := 1) rfl rfl (by simp only [kmax]; omega)) ?_
    refine S.q rfl rfl (Qt.assign (by conv => lhs; whnf)) ?_
    refine S.nil ?_
    refine ⟨k + 1, ?_, ?_, ⟨?_, (List.forall_mem_cons.2 ⟨rfl, (fun _ h => nomatch h)⟩)⟩, (Sub.drop _ (Sub.refl _))⟩
    · exact ⟨by omega, by omega⟩
    · show _ < _; dsimp only; omega
    repeat (first | exact Out.refl _ _ | refine Out.put rfl ?_ | refine Out.puts rfl ?_ | refine Out.scr ?_ | refine Out.scr' rfl ?_)
  · refine S.nil ?_
    refine S.if_f rfl ?_
    refine TC.exit ?_
    refine TC.seq ?_
    refine TC.region ?_
    refine S.q rfl rfl (Qt.load rfl (Ld.all (Has.at 0 rfl) Tryd.row142 (by rw [hcs_length, emptA_length E (by omega)]; exact Tryd.cells142))) ?_
    refine S.opN rfl (OpV.storeV1 (v := .agg (hcs (emptA E k)).toArray) rfl rfl (by rw [vl_agg, hcs_length, emptA_length E (by omega)]; exact Tryd.cells142) (hcs_all _) (by rw [vl_agg, hcs_length, emptA_length E (by omega), List.length_replicate]) ?_)
    refine S.nil ?_
    refine TC.ret ?_
    refine finQ.ret (RVs.cell rfl (Ld.all (Has.at 1 rfl) Tryd.row142 (by rw [vl_agg, hcs_length, emptA_length E (by omega)]; exact Tryd.cells142)) RVs.nil) (Sub.nil _) ?_
    have e : emptA E k = emptL E := by rw [show k = 33 by omega, emptA_all]
    rw [← e]
    exact ⟨rfl, rfl⟩
theorem empties_R (w0 : World) (hT : Tabs 2 0 w0 []) : Calls Tryd.prog 88 #[] w0 (Ret w0 (.agg (hcs (emptL emptyH)).toArray)) := Calls.ret (empties_walk0 emptyH rfl (fun _ => rfl) w0 hT)

set_option maxHeartbeats 400000 in
theorem rjointext_walk (h : Nat) (h2 : h ≤ 32) (l r : H32) (w0 : World) :
    Calls Tryd.prog 126 #[.int .i64 (h : Int), hv l, hv r] w0 (Post w0 [] fun v L => ∃ O d, v = .slice O (joinT h l r).length d ∧ L = [OwnA 5 1 O (joinT h l r).length d (bytesL (joinT h l r))]) := by
  refine Calls.of (L := []) (n := 16) (rs := [.tmp 6]) Tryd.func126 rfl rfl rfl (Nat.le_of_ble_eq_true rfl) (Sat.nil _) ?_
  refine TC.seq ?_
  refine TC.region ?_
  refine S.opS rfl rfl (OpV.box (v := hv l) rfl (fun b4 => ?_))
  refine S.opS rfl rfl (OpV.box (v := hv r) rfl (fun b5 => ?_))
  refine S.q rfl rfl (Qt.assign (by conv => lhs; whnf)) ?_
  refine S.nil ?_
  refine TC.seq ?_
  refine TC.region ?_
  refine S.q rfl rfl (Qt.move (by conv => lhs; whnf)) ?_
  refine S.q rfl rfl (Qt.toByte Tryd.underlying3 Tryd.underlying5 rfl) ?_
  refine S.opS rfl rfl (OpV.sliceLO (vs := bytesL [2, UInt8.ofNat h]) Tryd.underlying101 Tryd.elem5 rfl (by decide) rfl (fun v hv => (bytesL_vl hv)) (fun g10 => ?_))
  refine S.q rfl rfl (Qt.sliceB_all Tryd.underlying23 Tryd.cells5 rfl) ?_
  refine S.opS rfl rfl (OpV.app0 (bytes := 1) (news := bytesL l.1) Tryd.underlying101 Tryd.elem5 rfl rfl (Has.blk (cs := hvl l) (Has.at 2 rfl)) (by rw [bytesL_length, l.2]) (bytesL_one _) (by simp only [maxLen]; omega) (by omega) (fun O d => ?_))
  refine S.q rfl rfl (Qt.assign (by conv => lhs; whnf)) ?_
  refine S.nil ?_
  refine TC.seq ?_
  refine TC.region ?_
  refine S.q rfl rfl (Qt.move (by conv => lhs; whnf)) ?_
  refine S.q rfl rfl (Qt.sliceB_all Tryd.underlying23 Tryd.cells5 rfl) ?_
  refine S.opS rfl rfl (OpV.app0 (bytes := 1) (news := bytesL r.1) Tryd.underlying101 Tryd.elem5 rfl rfl (Has.blk (cs := hvl r) (Has.at 1 rfl)) (by rw [bytesL_length, r.2]) (bytesL_one _) (by simp only [maxLen]; omega) (by omega) (fun O2 d2 => ?_))
  refine S.q rfl rfl (Qt.assign (by conv => lhs; whnf)) ?_
  refine S.nil ?_
  refine TC.ret ?_
  refine finQ.ret (RVs.tmp (by conv => lhs; whnf) RVs.nil) (Sub.keep _ (Sub.nil _)) ?_
  have e : (List.flatMap vl (bytesL [2, UInt8.ofNat h]) ++ bytesL l.1 ++ bytesL r.1) = bytesL (joinT h l r) := by rw [joinT, bytesL_append, bytesL_append]; rfl
  rw [e, joinT_length]
  exact ⟨O2, d2, rfl, rfl⟩
set_option maxHeartbeats 400000 in
theorem rjoin_walk (h : Nat) (h2 : h ≤ 32) (l r : H32) (w0 : World) (hT : Tabs 3 1 w0 []) :
    Calls Tryd.prog 91 #[.int .i64 (h : Int), hv l, hv r] w0 (Post w0 [] fun v L => v = hv (joinH h l r) ∧ L = []) := by
  refine Calls.of (L := []) (n := 12) (rs := [.cell 6 23]) Tryd.func91 rfl rfl rfl (Nat.le_of_ble_eq_true rfl) (Sat.nil _) ?_
  refine TC.seq ?_
  refine TC.region ?_
  refine S.opS rfl rfl (OpV.box (v := hv l) rfl (fun b4 => ?_))
  refine S.opS rfl rfl (OpV.box (v := hv r) rfl (fun b5 => ?_))
  refine S.opS rfl rfl (OpV.alloc Tryd.zero23 (fun b6 => ?_))
  refine S.nil ?_
  refine TC.seq ?_
  refine TC.region ?_
  refine S.q rfl rfl (Qt.move (by conv => lhs; whnf)) ?_
  refine S.q rfl rfl (Qt.load rfl (Ld.hash1 (x := l) (Has.at 2 rfl) Tryd.row23 Tryd.cells23)) ?_
  refine S.q rfl rfl (Qt.load rfl (Ld.hash1 (x := r) (Has.at 1 rfl) Tryd.row23 Tryd.cells23)) ?_
  refine S.opS rfl rfl (OpV.con (Pre := []) (R := _) Tryd.ent126 rfl (List.Perm.refl _) (fun w hw => rjointext_walk h h2 l r w) ?_)
  rintro v L' ⟨O, d, rfl, rfl⟩
  refine S.opS rfl rfl (OpV.con0 Tryd.ent125 rfl (fun w hw => Calls.ret (rsum_walk O d (joinT h l r) w (Rd.own (Rd.at 0 rfl) w hw) (by rw [joinT_length]; decide) (hT.at hw))) ?_)
  refine S.opN rfl (OpV.storeV1 (v := hv (joinH h l r)) rfl rfl (hv_size Tryd.cells23) (hv_all _) (hv_len _) ?_)
  refine S.nil ?_
  refine TC.ret ?_
  refine finQ.ret (RVs.cell rfl (Ld.all (Has.at 1 rfl) Tryd.row23 (hv_size Tryd.cells23)) RVs.nil) (Sub.nil _) ?_
  exact ⟨rfl, rfl⟩
theorem rjoin_R (h : Nat) (h2 : h ≤ 32) (l r : H32) (w0 : World) (hT : Tabs 3 1 w0 []) : Calls Tryd.prog 91 #[.int .i64 (h : Int), hv l, hv r] w0 (Ret w0 (hv (joinH h l r))) := Calls.ret (rjoin_walk h h2 l r w0 hT)

set_option maxHeartbeats 400000 in
theorem rempties_walk0 (E : Nat → H32) (hE0 : E 0 = shaH [0]) (hE : ∀ h, E (h + 1) = joinH (h + 1) (E h) (E h)) (w0 : World) (hT : Tabs 3 1 w0 []) :
    Calls Tryd.prog 90 #[] w0 (Post w0 [] fun v L => ∃ O d, v = .slice O 33 d ∧ L = [OwnA 23 32 O 33 d (hcs (emptL E))]) := by
  refine Calls.of (L := []) (n := 26) (rs := [.tmp 0]) Tryd.func90 rfl rfl rfl (Nat.le_of_ble_eq_true rfl) (Sat.nil _) ?_
  refine TC.seq ?_
  refine TC.region ?_
  refine S.q rfl rfl (Qt.assign (by conv => lhs; whnf)) ?_
  refine S.nil ?_
  refine TC.seq ?_
  refine TC.region ?_
  refine S.opS rfl rfl (OpV.slice1 (bytes := 1) (v := .int .u8 (((0 : UInt8).toNat : Nat) : Int)) Tryd.underlying101 Tryd.elem5 (by decide) rfl rfl (fun g3 => ?_))
  refine S.opS rfl rfl (OpV.con0 Tryd.ent125 rfl (fun w hw => (by rw [hE0]; exact Calls.ret (rsum_walk (some ⟨g3, 0, none⟩) 1 [0] w (Rd.bytesAll (bl := [0]) (Rd.at 0 rfl) w hw) (by decide) (hT.at hw)) : Calls Tryd.prog 125 #[.slice (some ⟨g3, 0, none⟩) 1 1] w (Ret w (hv (E 0))))) ?_)
  refine S.opS rfl rfl (OpV.sliceLO (vs := [hv (E 0)]) Tryd.underlying44 Tryd.elem23 rfl (by decide) rfl (by intro v hv; rw [List.mem_singleton.1 hv]; exact hv_len _) (fun g5 => ?_))
  refine S.q rfl rfl (Qt.assign (by conv => lhs; whnf)) ?_
  refine S.nil ?_
  refine TC.seq ?_
  refine TC.seq ?_
  refine TC.region ?_
  refine S.q rfl rfl (Qt.assign (by conv => lhs; whnf)) ?_
  refine S.nil ?_
  refine TC.block ?_
  refine TC.loop (γ := Nat × Option Addr × Nat) [6, 7, 10, 11, 12, 13, 14, 15, 16, 17, 18, 19, 20, 21, 22, 23, 24, 1, 8, 9, 2] (fun g => [(2, .int .i64 ((g.1 : Nat) : Int)), (1, .slice g.2.1 g.1 g.2.2)]) (fun g => [OwnA 23 32 g.2.1 g.1 g.2.2 (hcs ((List.range g.1).map E))]) (fun g => 1 ≤ g.1 ∧ g.1 ≤ 33) (fun g => 33 - g.1) ((1, some ⟨g5, 0, none⟩, 1))
    ⟨Nat.le_refl _, by show 1 ≤ 33; decide⟩ ⟨Out.refl _ _, (List.forall_mem_cons.2 ⟨rfl, (List.forall_mem_cons.2 ⟨rfl, (fun _ h => nomatch h)⟩)⟩)⟩ ((by dsimp only; rw [rangeE_one, List.flatMap_singleton]; exact Sub.keep _ (Sub.nil _))) ?_
  rintro ⟨k, O, d⟩ u ⟨hk1, hk⟩
  dsimp only at hk1 hk
  refine TC.seq ?_
  refine TC.seq ?_
  refine TC.region ?_
  refine S.q rfl rfl (Qt.move (by conv => lhs; whnf)) ?_
  refine S.dec rfl rfl (Qt.le (b := 32) rfl rfl) (fun h7 => ?_) (fun h7 => ?_)
  · refine S.nil ?_
    refine S.if_t rfl ?_
    refine TC.skip ?_
    refine TC.seq ?_
    refine TC.block ?_
    refine S.draw ([14], [13]) Tryd.mixed (Sub.nil _) ?_
    refine D.qX (k := 0) rfl (by kernel_rfl) (by kernel_rfl) (by kernel_rfl) rfl rfl (Qt.move (by conv => lhs; whnf)) ?_
    refine D.qX (k := 1) rfl (by kernel_rfl) (by kernel_rfl) (by kernel_rfl) rfl rfl (Qt.move (by conv => lhs; whnf)) ?_
    refine D.qX (k := 2) rfl (by kernel_rfl) (by kernel_rfl) (by kernel_rfl) rfl rfl (Qt.move (by conv => lhs; whnf)) ?_
    refine D.qX (k := 3) rfl (by kernel_rfl) (by kernel_rfl) (by kernel_rfl) rfl rfl (Qt.move (by conv => lhs; whnf)) ?_
    refine D.qX (k := 4) rfl (by kernel_rfl) (by kernel_rfl) (by kernel_rfl) rfl rfl (Qt.sub (b := 1) rfl rfl (by omega) (by simp only [kmax]; omega)) ?_
    refine D.qX (k := 5) rfl (by kernel_rfl) (by kernel_rfl) (by kernel_rfl) rfl rfl (Qt.index Tryd.underlying44 Tryd.cells23 rfl rfl (by omega) (Has.own (Has.at 0 rfl)) (by rw [hcs_length, List.length_map, List.length_range]; omega)) ?_
    refine D.qX (k := 6) rfl (by kernel_rfl) (by kernel_rfl) (by kernel_rfl) rfl rfl (Qt.as (Qt.load rfl (Ld.hashS (Has.own (Has.at 0 rfl)) (k - 1) Tryd.row23 Tryd.cells23 (by rw [List.length_map, List.length_range]; omega) rfl)) (by rw [rangeE_get E (by omega)])) ?_
    refine D.qX (k := 7) rfl (by kernel_rfl) (by kernel_rfl) (by kernel_rfl) rfl rfl (Qt.move (by conv => lhs; whnf)) ?_
    refine D.qX (k := 8) rfl (by kernel_rfl) (by kernel_rfl) (by kernel_rfl) rfl rfl (Qt.move (by conv => lhs; whnf)) ?_
    refine D.qX (k := 9) rfl (by kernel_rfl) (by kernel_rfl) (by kernel_rfl) rfl rfl (Qt.sub (b := 1) rfl rfl (by omega) (by simp only [kmax]; omega)) ?_
    refine D.qX (k := 10) rfl (by kernel_rfl) (by kernel_rfl) (by kernel_rfl) rfl rfl (Qt.index Tryd.underlying44 Tryd.cells23 rfl rfl (by omega) (Has.own (Has.at 0 rfl)) (by rw [hcs_length, List.length_map, List.length_range]; omega)) ?_
    refine D.qX (k := 11) rfl (by kernel_rfl) (by kernel_rfl) (by kernel_rfl) rfl rfl (Qt.as (Qt.load rfl (Ld.hashS (Has.own (Has.at 0 rfl)) (k - 1) Tryd.row23 Tryd.cells23 (by rw [List.length_map, List.length_range]; omega) rfl)) (by rw [rangeE_get E (by omega)])) ?_
    have hEk : E k = joinH k (E (k - 1)) (E (k - 1)) := by have := hE (k - 1); rwa [show k - 1 + 1 = k by omega] at this
    refine D.cX (k := 12) rfl (by kernel_rfl) (by kernel_rfl) (by kernel_rfl) rfl rfl (CalU.con0 Tryd.ent91 rfl (fun w hw => (by rw [hEk]; exact rjoin_R k (by omega) (E (k - 1)) (E (k - 1)) w (hT.at hw) : Calls Tryd.prog 91 #[.int .i64 (k : Int), hv (E (k - 1)), hv (E (k - 1))] w (Ret w (hv (E k)))))) ?_
    refine D.nS (k := 13) (Sub.nil _) rfl (by kernel_rfl) (by kernel_rfl) rfl rfl (OpV.slice1 (bytes := 32) (v := hv (E k)) Tryd.underlying44 Tryd.elem23 (by decide) rfl (hv_len _) (fun g23 => ⟨Sub.drop _ (Sub.keep _ (Sub.nil [])), ?_⟩))
    refine D.opS (k := 14) (Sub.nil _) rfl (by kernel_rfl) (by kernel_rfl) rfl rfl (OpV.app1 (bytes := 32) (news := hvl (E k)) Tryd.underlying44 Tryd.elem23 rfl rfl (Has.blk (cs := hvl (E k)) (Has.at 0 rfl)) (by rw [hvl_length]) (bytesL_one _) (by simp only [maxLen]; omega) (by omega) (fun O' d' => ⟨Sub.nil _, ?_⟩))
    refine D.qX (k := 15) rfl (by kernel_rfl) (by kernel_rfl) (by kernel_rfl) rfl rfl (Qt.assign (by conv => lhs; whnf)) ?_
    refine D.done (Sub.nil _) (by kernel_rfl) ?_
    refine TC.region ?_
    refine S.q rfl rfl (Qt.move (by conv => lhs; whnf)) ?_
    refine S.q rfl rfl (Qt.add (b := 1) rfl rfl (by simp only [kmax]; omega)) ?_
    refine S.q rfl rfl (Qt.assign (by conv => lhs; whnf)) ?_
    refine S.nil ?_
    refine ⟨(k + 1, O', d'), ?_, ?_, ⟨?_, (List.forall_mem_cons.2 ⟨rfl, (List.forall_mem_cons.2 ⟨rfl, (fun _ h => nomatch h)⟩)⟩)⟩, (by dsimp only; rw [← rangeE_step]; exact Sub.drop _ (Sub.refl _))⟩
    · exact ⟨by show 1 ≤ k + 1; omega, by show k + 1 ≤ 33; omega⟩
    · show _ < _; dsimp only; omega
    repeat (first | exact Out.refl _ _ | refine Out.put rfl ?_ | refine Out.puts rfl ?_ | refine Out.scr ?_ | refine Out.scr' rfl ?_)
  · refine S.nil ?_
    refine S.if_f rfl ?_
    refine TC.exit ?_
    refine TC.seq ?_
    refine TC.region ?_
    refine S.q rfl rfl (Qt.move (by conv => lhs; whnf)) ?_
    refine S.q rfl rfl (Qt.assign (by conv => lhs; whnf)) ?_
    refine S.nil ?_
    refine TC.ret ?_
    refine finQ.ret (RVs.tmp (by conv => lhs; whnf) RVs.nil) (Sub.refl _) ?_
    obtain rfl : k = 33 := by omega
    exact ⟨O, d, rfl, rfl⟩
theorem rempties_walk (w0 : World) (hT : Tabs 3 1 w0 []) : Calls Tryd.prog 90 #[] w0 (Post w0 [] fun v L => ∃ O d, v = .slice O 33 d ∧ L = [OwnA 23 32 O 33 d (hcs (emptL emptyH))]) := rempties_walk0 emptyH rfl (fun _ => rfl) w0 hT

end Go.Proofs.YtlneklemjfefpaaDoor
