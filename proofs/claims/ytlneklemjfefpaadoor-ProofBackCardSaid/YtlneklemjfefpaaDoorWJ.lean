/-
  Walks: the document's sort; the law of a tree's own proofs. Printed by a program of ours.
-/
import Derived.Test.YtlneklemjfefpaaDoorW3
import Derived.Test.YtlneklemjfefpaaDoorUG
import Derived.Test.YtlneklemjfefpaaDoorUD
import Derived.Test.YtlneklemjfefpaaDoorP3
import Derived.Test.YtlneklemjfefpaaDoorE3
namespace Go.Proofs.YtlneklemjfefpaaDoor
open Go.E
set_option linter.unusedVariables false
set_option maxRecDepth 4000

theorem rs_len (os xs : List Nat) (k : Nat) {a : Nat} (h : a ≤ os.length) : 0 + a + 1 + (os.length - a) = (os.take a ++ [xs.getD k 0] ++ os.drop a).length := by
  simp only [List.length_append, List.length_take, List.length_drop, List.length_singleton]; omega
theorem rs_u64 (os xs : List Nat) (k a : Nat) : [] ++ (u64s os).take a ++ [.int .u64 ((xs.getD k 0 : Nat) : Int)] ++ (u64s os).drop (a * 1) = u64s (os.take a ++ [xs.getD k 0] ++ os.drop a) := by
  simp [u64s]
set_option maxHeartbeats 1600000 in
theorem rsort_walk (A : Option Addr) (c : Nat) (xs : List Nat) (hx : xs.length ≤ 4096) (w0 : World) (hR : Ro w0 [] (SlA A (u64s xs))) :
    Calls Tryd.prog 87 #[.slice A xs.length c] w0 (Post w0 [] fun v L => ∃ O d, v = .slice O (dd (srt xs)).length d ∧ L = [OwnA 24 1 O (dd (srt xs)).length d (u64s (dd (srt xs)))]) := by
  refine Calls.of (L := []) (n := 60) (rs := [.tmp 2]) Tryd.func87 rfl rfl rfl (Nat.le_of_ble_eq_true rfl) (Sat.nil _) ?_
  refine TC.ownNil 24 1 ?_
  refine TC.seq ?_
  refine TC.region ?_
  refine S.q rfl rfl (Qt.assign (by conv => lhs; whnf)) ?_
  refine S.nil ?_
  refine TC.seq ?_
  refine TC.region ?_
  refine S.q rfl rfl (Qt.assign (by conv => lhs; whnf)) ?_
  refine S.nil ?_
  refine TC.seq ?_
  refine TC.seq ?_
  refine TC.region ?_
  refine S.q rfl rfl (Qt.assign (by conv => lhs; whnf)) ?_
  refine S.nil ?_
  refine TC.block ?_
  refine TC.loop (γ := Nat × List Nat × Option Addr × Nat) [6, 7, 8, 9, 5, 12, 13, 14, 15, 16, 17, 18, 19, 20, 21, 22, 23, 24, 25, 26, 27, 28, 29, 30, 31, 32, 33, 34, 35, 36, 37, 38, 39, 40, 41, 42, 43, 44, 45, 46, 47, 48, 49, 50, 51, 52, 53, 54, 55, 56, 57, 58, 3, 10, 11, 4] (fun g => [(4, .int .i64 ((g.1 : Nat) : Int)), (3, .slice g.2.2.1 g.2.1.length g.2.2.2)]) (fun g => [OwnA 24 1 g.2.2.1 g.2.1.length g.2.2.2 (u64s (g.2.1))]) (fun g => g.1 ≤ xs.length ∧ SetN g.2.1 xs g.1) (fun g => xs.length - g.1) ((0, [], none, 0))
    ⟨Nat.zero_le _, SetN.zero xs⟩ ⟨Out.refl _ _, (List.forall_mem_cons.2 ⟨rfl, (List.forall_mem_cons.2 ⟨rfl, (fun _ h => nomatch h)⟩)⟩)⟩ (Sub.refl _) ?_
  rintro ⟨k, os, O, d⟩ u ⟨hk, hs⟩
  dsimp only at hk hs
  show TC _ _ _ (puts [(4, .int .i64 (k : Int)), (3, .slice O os.length d)] (scr _ u _)) [OwnA 24 1 O os.length d (u64s (os))]
  have hol := hs.len hk
  refine TC.ownCap (e := 24) (sz := 1) (A := O) (n := os.length) (c := d) (xs := u64s os) (List.mem_of_getElem? (i := 0) rfl) (fun hcap1 hcap2 => ?_)
  refine TC.seq ?_
  refine TC.seq ?_
  refine TC.region ?_
  refine S.q rfl rfl (Qt.move (by conv => lhs; whnf)) ?_
  refine S.q rfl rfl (Qt.move (by conv => lhs; whnf)) ?_
  refine S.q rfl rfl (Qt.len_slice Tryd.underlying71 rfl) ?_
  refine S.dec rfl rfl (Qt.lt rfl rfl) (fun h9 => ?_) (fun h9 => ?_)
  · refine S.nil ?_
    refine S.if_t rfl ?_
    refine TC.skip ?_
    refine TC.seq ?_
    refine TC.block ?_
    refine TC.seq ?_
    refine TC.region ?_
    refine S.q rfl rfl (Qt.assign (by conv => lhs; whnf)) ?_
    refine S.nil ?_
    refine TC.seq ?_
    refine TC.block ?_
    refine TC.loop (γ := Nat) [12, 13, 14, 15, 16, 17, 18, 19, 20, 21, 22, 23, 24, 25, 26, 27, 28, 5] (fun a => [(5, .int .i64 (a : Int))]) (fun _ => _) (fun a => a ≤ os.length ∧ ∀ j, j < a → os.getD j 0 < xs.getD k 0) (fun a => os.length - a) (0)
      ⟨Nat.zero_le _, fun j h => absurd h (Nat.not_lt_zero _)⟩ ⟨Out.refl _ _, (List.forall_mem_cons.2 ⟨rfl, (fun _ h => nomatch h)⟩)⟩ (Sub.refl _) ?_
    rintro a u ⟨ha, hb⟩
    refine TC.seq ?_
    refine TC.seq ?_
    refine S.draw ([], []) Tryd.mixed (Sub.nil _) ?_
    refine D.qX (k := 0) rfl (by kernel_rfl) (by kernel_rfl) (by kernel_rfl) rfl rfl (Qt.move (by conv => lhs; whnf)) ?_
    refine D.qX (k := 1) rfl (by kernel_rfl) (by kernel_rfl) (by kernel_rfl) rfl rfl (Qt.move (by conv => lhs; whnf)) ?_
    refine D.qX (k := 2) rfl (by kernel_rfl) (by kernel_rfl) (by kernel_rfl) rfl rfl (Qt.len_slice Tryd.underlying71 rfl) ?_
    refine D.decX (k := 3) rfl (by kernel_rfl) (by kernel_rfl) (by kernel_rfl) rfl rfl (Qt.lt rfl rfl) (fun h15 => ?_) (fun h15 => ?_)
    · refine D.qX (k := 4) rfl (by kernel_rfl) (by kernel_rfl) (by kernel_rfl) rfl rfl (Qt.move (by conv => lhs; whnf)) ?_
      refine D.qgX (k := 5) rfl (by kernel_rfl) (by kernel_rfl) (by kernel_rfl) rfl rfl rfl (Qt.move (by conv => lhs; whnf)) ?_
      refine D.qgX (k := 6) rfl (by kernel_rfl) (by kernel_rfl) (by kernel_rfl) rfl rfl rfl (Qt.move (by conv => lhs; whnf)) ?_
      refine D.qgX (k := 7) rfl (by kernel_rfl) (by kernel_rfl) (by kernel_rfl) rfl rfl rfl (Qt.index Tryd.underlying71 Tryd.cells24 rfl rfl (by omega) (Has.own (Has.at 0 rfl)) (by rw [u64s_len]; omega)) ?_
      refine D.qgX (k := 8) rfl (by kernel_rfl) (by kernel_rfl) (by kernel_rfl) rfl rfl rfl (Qt.load rfl (Ld.sl (v := .int .u64 ((os.getD a 0 : Nat) : Int)) (Has.own (Has.at 0 rfl)) Tryd.one24 (u64s_get1 (by omega)))) ?_
      refine D.qgX (k := 9) rfl (by kernel_rfl) (by kernel_rfl) (by kernel_rfl) rfl rfl rfl (Qt.move (by conv => lhs; whnf)) ?_
      refine D.qgX (k := 10) rfl (by kernel_rfl) (by kernel_rfl) (by kernel_rfl) rfl rfl rfl (Qt.move (by conv => lhs; whnf)) ?_
      refine D.qgX (k := 11) rfl (by kernel_rfl) (by kernel_rfl) (by kernel_rfl) rfl rfl rfl (Qt.index Tryd.underlying71 Tryd.cells24 rfl rfl (by omega) (Has.ro hR) (by rw [u64s_len]; omega)) ?_
      refine D.qgX (k := 12) rfl (by kernel_rfl) (by kernel_rfl) (by kernel_rfl) rfl rfl rfl (Qt.load rfl (Ld.sl (v := .int .u64 (((xs.getD k 0) : Nat) : Int)) (Has.ro hR) Tryd.one24 (u64s_get1 (by omega)))) ?_
      refine D.decgX (k := 13) rfl (by kernel_rfl) (by kernel_rfl) (by kernel_rfl) rfl rfl rfl (Qt.lt rfl rfl) (fun h25 => ?_) (fun h25 => ?_)
      · refine D.qX (k := 14) rfl (by kernel_rfl) (by kernel_rfl) (by kernel_rfl) rfl rfl (Qt.pick_t rfl (by conv => lhs; whnf)) ?_
        refine D.done (Sub.nil _) (by kernel_rfl) ?_
        refine S.if_t rfl ?_
        refine TC.skip ?_
        refine TC.block ?_
        refine TC.region ?_
        refine S.q rfl rfl (Qt.move (by conv => lhs; whnf)) ?_
        refine S.q rfl rfl (Qt.add (b := 1) rfl rfl (by simp only [kmax]; omega)) ?_
        refine S.q rfl rfl (Qt.assign (by conv => lhs; whnf)) ?_
        refine S.nil ?_
        refine ⟨a + 1, ?_, ?_, ⟨?_, (List.forall_mem_cons.2 ⟨rfl, (fun _ h => nomatch h)⟩)⟩, Sub.refl _⟩
        · exact ⟨by omega, fun j hj => (Nat.lt_or_ge j a).elim (hb j) (fun h => by (obtain rfl : j = a := by omega); exact h25)⟩
        · show _ < _; dsimp only; omega
        repeat (first | exact Out.refl _ _ | refine Out.put rfl ?_ | refine Out.puts rfl ?_ | refine Out.scr ?_ | refine Out.scr' rfl ?_)
      · refine D.qX (k := 14) rfl (by kernel_rfl) (by kernel_rfl) (by kernel_rfl) rfl rfl (Qt.pick_t rfl (by conv => lhs; whnf)) ?_
        refine D.done (Sub.nil _) (by kernel_rfl) ?_
        refine S.if_f rfl ?_
        refine TC.exit ?_
        refine TC.seq ?_
        refine TC.seq ?_
        refine S.draw ([], []) Tryd.mixed (Sub.nil _) ?_
        refine D.qX (k := 0) rfl (by kernel_rfl) (by kernel_rfl) (by kernel_rfl) rfl rfl (Qt.move (by conv => lhs; whnf)) ?_
        refine D.qX (k := 1) rfl (by kernel_rfl) (by kernel_rfl) (by kernel_rfl) rfl rfl (Qt.move (by conv => lhs; whnf)) ?_
        refine D.qX (k := 2) rfl (by kernel_rfl) (by kernel_rfl) (by kernel_rfl) rfl rfl (Qt.len_slice Tryd.underlying71 rfl) ?_
        refine D.decX (k := 3) rfl (by kernel_rfl) (by kernel_rfl) (by kernel_rfl) rfl rfl (Qt.lt rfl rfl) (fun h32 => ?_) (fun h32 => ?_)
        · refine D.qX (k := 4) rfl (by kernel_rfl) (by kernel_rfl) (by kernel_rfl) rfl rfl (Qt.move (by conv => lhs; whnf)) ?_
          refine D.qgX (k := 5) rfl (by kernel_rfl) (by kernel_rfl) (by kernel_rfl) rfl rfl rfl (Qt.move (by conv => lhs; whnf)) ?_
          refine D.qgX (k := 6) rfl (by kernel_rfl) (by kernel_rfl) (by kernel_rfl) rfl rfl rfl (Qt.move (by conv => lhs; whnf)) ?_
          refine D.qgX (k := 7) rfl (by kernel_rfl) (by kernel_rfl) (by kernel_rfl) rfl rfl rfl (Qt.index Tryd.underlying71 Tryd.cells24 rfl rfl (by omega) (Has.own (Has.at 0 rfl)) (by rw [u64s_len]; omega)) ?_
          refine D.qgX (k := 8) rfl (by kernel_rfl) (by kernel_rfl) (by kernel_rfl) rfl rfl rfl (Qt.load rfl (Ld.sl (v := .int .u64 ((os.getD a 0 : Nat) : Int)) (Has.own (Has.at 0 rfl)) Tryd.one24 (u64s_get1 (by omega)))) ?_
          refine D.qgX (k := 9) rfl (by kernel_rfl) (by kernel_rfl) (by kernel_rfl) rfl rfl rfl (Qt.move (by conv => lhs; whnf)) ?_
          refine D.qgX (k := 10) rfl (by kernel_rfl) (by kernel_rfl) (by kernel_rfl) rfl rfl rfl (Qt.move (by conv => lhs; whnf)) ?_
          refine D.qgX (k := 11) rfl (by kernel_rfl) (by kernel_rfl) (by kernel_rfl) rfl rfl rfl (Qt.index Tryd.underlying71 Tryd.cells24 rfl rfl (by omega) (Has.ro hR) (by rw [u64s_len]; omega)) ?_
          refine D.qgX (k := 12) rfl (by kernel_rfl) (by kernel_rfl) (by kernel_rfl) rfl rfl rfl (Qt.load rfl (Ld.sl (v := .int .u64 (((xs.getD k 0) : Nat) : Int)) (Has.ro hR) Tryd.one24 (u64s_get1 (by omega)))) ?_
          refine D.decgX (k := 13) rfl (by kernel_rfl) (by kernel_rfl) (by kernel_rfl) rfl rfl rfl (Qt.eq rfl rfl) (fun h42 => ?_) (fun h42 => ?_)
          · refine D.qX (k := 14) rfl (by kernel_rfl) (by kernel_rfl) (by kernel_rfl) rfl rfl (Qt.pick_t rfl (by conv => lhs; whnf)) ?_
            refine D.done (Sub.nil _) (by kernel_rfl) ?_
            refine S.if_t rfl ?_
            refine TC.exit ?_
            refine TC.region ?_
            refine S.q rfl rfl (Qt.move (by conv => lhs; whnf)) ?_
            refine S.q rfl rfl (Qt.add (b := 1) rfl rfl (by simp only [kmax]; omega)) ?_
            refine S.q rfl rfl (Qt.assign (by conv => lhs; whnf)) ?_
            refine S.nil ?_
            refine ⟨(k + 1, os, O, d), ?_, ?_, ⟨?_, (List.forall_mem_cons.2 ⟨rfl, (List.forall_mem_cons.2 ⟨rfl, (fun _ h => nomatch h)⟩)⟩)⟩, Sub.refl _⟩
            · exact ⟨by show _ ≤ _; dsimp only; omega, hs.old h9 h32 h42⟩
            · show _ < _; dsimp only; omega
            repeat (first | exact Out.refl _ _ | refine Out.put rfl ?_ | refine Out.puts rfl ?_ | refine Out.scr ?_ | refine Out.scr' rfl ?_)
          · refine D.qX (k := 14) rfl (by kernel_rfl) (by kernel_rfl) (by kernel_rfl) rfl rfl (Qt.pick_t rfl (by conv => lhs; whnf)) ?_
            refine D.done (Sub.nil _) (by kernel_rfl) ?_
            refine S.if_f rfl ?_
            refine TC.skip ?_
            refine S.draw ([4, 10, 14], [0, 9]) Tryd.mixed (Sub.refl _) ?_
            refine D.qX (k := 1) rfl (by kernel_rfl) (by kernel_rfl) (by kernel_rfl) rfl rfl (Qt.move (by conv => lhs; whnf)) ?_
            refine D.qX (k := 2) rfl (by kernel_rfl) (by kernel_rfl) (by kernel_rfl) rfl rfl (Qt.move (by conv => lhs; whnf)) ?_
            refine D.qX (k := 3) rfl (by kernel_rfl) (by kernel_rfl) (by kernel_rfl) rfl rfl (Qt.slice_hi Tryd.underlying71 Tryd.cells24 rfl rfl (by omega)) ?_
            refine D.q (k := 5) rfl (by kernel_rfl) (by kernel_rfl) rfl rfl (Qt.move (by conv => lhs; whnf)) ?_
            refine D.q (k := 6) rfl (by kernel_rfl) (by kernel_rfl) rfl rfl (Qt.move (by conv => lhs; whnf)) ?_
            refine D.q (k := 7) rfl (by kernel_rfl) (by kernel_rfl) rfl rfl (Qt.index Tryd.underlying71 Tryd.cells24 rfl rfl (by omega) (Has.ro hR) (by rw [u64s_len]; omega)) ?_
            refine D.q (k := 8) rfl (by kernel_rfl) (by kernel_rfl) rfl rfl (Qt.load rfl (Ld.sl (v := .int .u64 (((xs.getD k 0) : Nat) : Int)) (Has.ro hR) Tryd.one24 (u64s_get1 (by omega)))) ?_
            refine D.q (k := 11) rfl (by kernel_rfl) (by kernel_rfl) rfl rfl (Qt.move (by conv => lhs; whnf)) ?_
            refine D.q (k := 12) rfl (by kernel_rfl) (by kernel_rfl) rfl rfl (Qt.move (by conv => lhs; whnf)) ?_
            refine D.q (k := 13) rfl (by kernel_rfl) (by kernel_rfl) rfl rfl (Qt.slice_lo Tryd.underlying71 Tryd.cells24 rfl rfl (by omega)) ?_
            refine D.orNN (k1 := 0) (k2 := 9) (Sub.refl _) rfl rfl (by kernel_rfl) (by kernel_rfl) rfl rfl rfl rfl ?_ ?_
            · refine (OpV.slice0 (sz := 1) Tryd.underlying71 ⟨8, Tryd.elem24⟩ (fun g44 => ⟨Sub.drop _ (Sub.keep _ (Sub.nil [])), ?_⟩))
              refine D.orNE (k1 := 9) (k2 := 4) (Sub.drop _ (Sub.keep _ (Sub.nil []))) rfl rfl (by kernel_rfl) (by kernel_rfl) rfl rfl rfl rfl ?_ ?_
              · refine (OpV.slice1 (bytes := 8) (v := .int .u64 (((xs.getD k 0) : Nat) : Int)) Tryd.underlying71 Tryd.elem24 (by decide) rfl rfl (fun g53 => ⟨Sub.drop _ (Sub.keep _ (Sub.keep _ (Sub.nil []))), ?_⟩))
                refine D.opS (k := 4) (Sub.drop _ (Sub.drop _ (Sub.keep _ (Sub.nil [])))) rfl (by kernel_rfl) (by kernel_rfl) rfl rfl (OpV.app1 (bytes := 8) (news := ((u64s os).take a)) Tryd.underlying71 Tryd.elem24 rfl rfl ((Has.own (Has.at 2 rfl)).take a) (by rw [List.length_take, u64s_len]; omega) (fun u hu => u64s_one _ u (List.mem_of_mem_take hu)) (by simp only [maxLen]; omega) (by omega) (fun O1 d1 => ⟨Sub.drop _ (Sub.drop _ (Sub.keep _ (Sub.nil []))), ?_⟩))
                refine D.opS (k := 10) (Sub.drop _ (Sub.drop _ (Sub.keep _ (Sub.nil [])))) rfl (by kernel_rfl) (by kernel_rfl) rfl rfl (OpV.app1 (bytes := 8) (news := [.int .u64 (((xs.getD k 0) : Nat) : Int)]) Tryd.underlying71 Tryd.elem24 rfl rfl (Has.blk (Has.at 0 rfl)) (rfl) (by intro u hu; rw [List.mem_singleton.1 hu]; rfl) (by simp only [maxLen]; omega) (by omega) (fun O2 d2 => ⟨Sub.drop _ (Sub.drop _ (Sub.keep _ (Sub.nil []))), ?_⟩))
                refine D.opS (k := 14) (Sub.drop _ (Sub.drop _ (Sub.keep _ (Sub.nil [])))) rfl (by kernel_rfl) (by kernel_rfl) rfl rfl (OpV.app1 (bytes := 8) (news := ((u64s os).drop (a * 1))) Tryd.underlying71 Tryd.elem24 rfl rfl ((Has.own (Has.at 2 rfl)).cut (fun e => by rw [u64s_len]; omega)) (by rw [List.length_drop, u64s_len]; omega) (fun u hu => u64s_one _ u (List.mem_of_mem_drop hu)) (by simp only [maxLen]; omega) (by omega) (fun O3 d3 => ⟨Sub.drop _ (Sub.drop _ (Sub.keep _ (Sub.nil []))), ?_⟩))
                refine D.qX (k := 15) rfl (by kernel_rfl) (by kernel_rfl) (by kernel_rfl) rfl rfl (Qt.assign (by conv => lhs; whnf)) ?_
                refine D.done (Sub.drop _ (Sub.drop _ (Sub.keep _ (Sub.nil [])))) (by kernel_rfl) ?_
                refine TC.region ?_
                refine S.q rfl rfl (Qt.move (by conv => lhs; whnf)) ?_
                refine S.q rfl rfl (Qt.add (b := 1) rfl rfl (by simp only [kmax]; omega)) ?_
                refine S.q rfl rfl (Qt.assign (by conv => lhs; whnf)) ?_
                refine S.nil ?_
                refine ⟨(k + 1, os.take a ++ [(xs.getD k 0)] ++ os.drop a, O3, d3), ?_, ?_, ⟨?_, (List.forall_mem_cons.2 ⟨rfl, (List.forall_mem_cons.2 ⟨(by show Value.slice O3 (0 + a + 1 + (os.length - a)) d3 = _; rw [rs_len os xs k ha]), (fun _ h => nomatch h)⟩)⟩)⟩, (by dsimp only; rw [← rs_len os xs k ha, ← rs_u64 os xs k a]; exact Sub.trans (Sub.keep _ (Sub.drop _ (Sub.drop _ (Sub.nil [])))) (Sub.trans (Sub.keep _ (Sub.refl _)) (Sub.of_perm (List.perm_middle (l₁ := [_])))))⟩
                · exact ⟨by show _ ≤ _; dsimp only; omega, hs.new h9 ha hb (fun h => by omega)⟩
                · show _ < _; dsimp only; omega
                repeat (first | exact Out.refl _ _ | refine Out.put rfl ?_ | refine Out.puts rfl ?_ | refine Out.scr ?_ | refine Out.scr' rfl ?_)
              · refine (OpV.app0 (bytes := 8) (news := ((u64s os).take a)) Tryd.underlying71 Tryd.elem24 rfl rfl ((Has.own (Has.at 1 rfl)).take a) (by rw [List.length_take, u64s_len]; omega) (fun u hu => u64s_one _ u (List.mem_of_mem_take hu)) (by simp only [maxLen]; omega) (by omega) (fun O1 d1 => ⟨Sub.drop _ (Sub.keep _ (Sub.nil [])), ?_⟩))
                refine D.nS (k := 9) (Sub.drop _ (Sub.keep _ (Sub.nil []))) rfl (by kernel_rfl) (by kernel_rfl) rfl rfl (OpV.slice1 (bytes := 8) (v := .int .u64 (((xs.getD k 0) : Nat) : Int)) Tryd.underlying71 Tryd.elem24 (by decide) rfl rfl (fun g53 => ⟨Sub.drop _ (Sub.keep _ (Sub.keep _ (Sub.nil []))), ?_⟩))
                refine D.opS (k := 10) (Sub.drop _ (Sub.drop _ (Sub.keep _ (Sub.nil [])))) rfl (by kernel_rfl) (by kernel_rfl) rfl rfl (OpV.app1 (bytes := 8) (news := [.int .u64 (((xs.getD k 0) : Nat) : Int)]) Tryd.underlying71 Tryd.elem24 rfl rfl (Has.blk (Has.at 0 rfl)) (rfl) (by intro u hu; rw [List.mem_singleton.1 hu]; rfl) (by simp only [maxLen]; omega) (by omega) (fun O2 d2 => ⟨Sub.drop _ (Sub.drop _ (Sub.keep _ (Sub.nil []))), ?_⟩))
                refine D.opS (k := 14) (Sub.drop _ (Sub.drop _ (Sub.keep _ (Sub.nil [])))) rfl (by kernel_rfl) (by kernel_rfl) rfl rfl (OpV.app1 (bytes := 8) (news := ((u64s os).drop (a * 1))) Tryd.underlying71 Tryd.elem24 rfl rfl ((Has.own (Has.at 2 rfl)).cut (fun e => by rw [u64s_len]; omega)) (by rw [List.length_drop, u64s_len]; omega) (fun u hu => u64s_one _ u (List.mem_of_mem_drop hu)) (by simp only [maxLen]; omega) (by omega) (fun O3 d3 => ⟨Sub.drop _ (Sub.drop _ (Sub.keep _ (Sub.nil []))), ?_⟩))
                refine D.qX (k := 15) rfl (by kernel_rfl) (by kernel_rfl) (by kernel_rfl) rfl rfl (Qt.assign (by conv => lhs; whnf)) ?_
                refine D.done (Sub.drop _ (Sub.drop _ (Sub.keep _ (Sub.nil [])))) (by kernel_rfl) ?_
                refine TC.region ?_
                refine S.q rfl rfl (Qt.move (by conv => lhs; whnf)) ?_
                refine S.q rfl rfl (Qt.add (b := 1) rfl rfl (by simp only [kmax]; omega)) ?_
                refine S.q rfl rfl (Qt.assign (by conv => lhs; whnf)) ?_
                refine S.nil ?_
                refine ⟨(k + 1, os.take a ++ [(xs.getD k 0)] ++ os.drop a, O3, d3), ?_, ?_, ⟨?_, (List.forall_mem_cons.2 ⟨rfl, (List.forall_mem_cons.2 ⟨(by show Value.slice O3 (0 + a + 1 + (os.length - a)) d3 = _; rw [rs_len os xs k ha]), (fun _ h => nomatch h)⟩)⟩)⟩, (by dsimp only; rw [← rs_len os xs k ha, ← rs_u64 os xs k a]; exact Sub.trans (Sub.keep _ (Sub.drop _ (Sub.drop _ (Sub.nil [])))) (Sub.trans (Sub.keep _ (Sub.refl _)) (Sub.of_perm (List.perm_middle (l₁ := [_])))))⟩
                · exact ⟨by show _ ≤ _; dsimp only; omega, hs.new h9 ha hb (fun h => by omega)⟩
                · show _ < _; dsimp only; omega
                repeat (first | exact Out.refl _ _ | refine Out.put rfl ?_ | refine Out.puts rfl ?_ | refine Out.scr ?_ | refine Out.scr' rfl ?_)
            · refine (OpV.slice1 (bytes := 8) (v := .int .u64 (((xs.getD k 0) : Nat) : Int)) Tryd.underlying71 Tryd.elem24 (by decide) rfl rfl (fun g53 => ⟨Sub.drop _ (Sub.keep _ (Sub.nil [])), ?_⟩))
              refine D.nS (k := 0) (Sub.drop _ (Sub.keep _ (Sub.nil []))) rfl (by kernel_rfl) (by kernel_rfl) rfl rfl (OpV.slice0 (sz := 1) Tryd.underlying71 ⟨8, Tryd.elem24⟩ (fun g44 => ⟨Sub.drop _ (Sub.keep _ (Sub.keep _ (Sub.nil []))), ?_⟩))
              refine D.opS (k := 4) (Sub.drop _ (Sub.drop _ (Sub.keep _ (Sub.nil [])))) rfl (by kernel_rfl) (by kernel_rfl) rfl rfl (OpV.app0 (bytes := 8) (news := ((u64s os).take a)) Tryd.underlying71 Tryd.elem24 rfl rfl ((Has.own (Has.at 2 rfl)).take a) (by rw [List.length_take, u64s_len]; omega) (fun u hu => u64s_one _ u (List.mem_of_mem_take hu)) (by simp only [maxLen]; omega) (by omega) (fun O1 d1 => ⟨Sub.drop _ (Sub.drop _ (Sub.keep _ (Sub.nil []))), ?_⟩))
              refine D.opS (k := 10) (Sub.drop _ (Sub.drop _ (Sub.keep _ (Sub.nil [])))) rfl (by kernel_rfl) (by kernel_rfl) rfl rfl (OpV.app0 (bytes := 8) (news := [.int .u64 (((xs.getD k 0) : Nat) : Int)]) Tryd.underlying71 Tryd.elem24 rfl rfl (Has.blk (Has.at 1 rfl)) (rfl) (by intro u hu; rw [List.mem_singleton.1 hu]; rfl) (by simp only [maxLen]; omega) (by omega) (fun O2 d2 => ⟨Sub.drop _ (Sub.drop _ (Sub.keep _ (Sub.nil []))), ?_⟩))
              refine D.opS (k := 14) (Sub.drop _ (Sub.drop _ (Sub.keep _ (Sub.nil [])))) rfl (by kernel_rfl) (by kernel_rfl) rfl rfl (OpV.app0 (bytes := 8) (news := ((u64s os).drop (a * 1))) Tryd.underlying71 Tryd.elem24 rfl rfl ((Has.own (Has.at 2 rfl)).cut (fun e => by rw [u64s_len]; omega)) (by rw [List.length_drop, u64s_len]; omega) (fun u hu => u64s_one _ u (List.mem_of_mem_drop hu)) (by simp only [maxLen]; omega) (by omega) (fun O3 d3 => ⟨Sub.drop _ (Sub.drop _ (Sub.keep _ (Sub.nil []))), ?_⟩))
              refine D.qX (k := 15) rfl (by kernel_rfl) (by kernel_rfl) (by kernel_rfl) rfl rfl (Qt.assign (by conv => lhs; whnf)) ?_
              refine D.done (Sub.drop _ (Sub.drop _ (Sub.keep _ (Sub.nil [])))) (by kernel_rfl) ?_
              refine TC.region ?_
              refine S.q rfl rfl (Qt.move (by conv => lhs; whnf)) ?_
              refine S.q rfl rfl (Qt.add (b := 1) rfl rfl (by simp only [kmax]; omega)) ?_
              refine S.q rfl rfl (Qt.assign (by conv => lhs; whnf)) ?_
              refine S.nil ?_
              refine ⟨(k + 1, os.take a ++ [(xs.getD k 0)] ++ os.drop a, O3, d3), ?_, ?_, ⟨?_, (List.forall_mem_cons.2 ⟨rfl, (List.forall_mem_cons.2 ⟨(by show Value.slice O3 (0 + a + 1 + (os.length - a)) d3 = _; rw [rs_len os xs k ha]), (fun _ h => nomatch h)⟩)⟩)⟩, (by dsimp only; rw [← rs_len os xs k ha, ← rs_u64 os xs k a]; exact Sub.keep _ (Sub.drop _ (Sub.drop _ (Sub.nil []))))⟩
              · exact ⟨by show _ ≤ _; dsimp only; omega, hs.new h9 ha hb (fun h => by omega)⟩
              · show _ < _; dsimp only; omega
              repeat (first | exact Out.refl _ _ | refine Out.put rfl ?_ | refine Out.puts rfl ?_ | refine Out.scr ?_ | refine Out.scr' rfl ?_)
        · refine D.qX (k := 4) rfl (by kernel_rfl) (by kernel_rfl) (by kernel_rfl) rfl rfl (Qt.move (by conv => lhs; whnf)) ?_
          refine D.pass (k := 5) rfl (by kernel_rfl) (by kernel_rfl) rfl rfl rfl ?_
          refine D.pass (k := 6) rfl (by kernel_rfl) (by kernel_rfl) rfl rfl rfl ?_
          refine D.pass (k := 7) rfl (by kernel_rfl) (by kernel_rfl) rfl rfl rfl ?_
          refine D.pass (k := 8) rfl (by kernel_rfl) (by kernel_rfl) rfl rfl rfl ?_
          refine D.pass (k := 9) rfl (by kernel_rfl) (by kernel_rfl) rfl rfl rfl ?_
          refine D.pass (k := 10) rfl (by kernel_rfl) (by kernel_rfl) rfl rfl rfl ?_
          refine D.pass (k := 11) rfl (by kernel_rfl) (by kernel_rfl) rfl rfl rfl ?_
          refine D.pass (k := 12) rfl (by kernel_rfl) (by kernel_rfl) rfl rfl rfl ?_
          refine D.pass (k := 13) rfl (by kernel_rfl) (by kernel_rfl) rfl rfl rfl ?_
          refine D.qX (k := 14) rfl (by kernel_rfl) (by kernel_rfl) (by kernel_rfl) rfl rfl (Qt.pick_f rfl (by conv => lhs; whnf)) ?_
          refine D.done (Sub.nil _) (by kernel_rfl) ?_
          refine S.if_f rfl ?_
          refine TC.skip ?_
          refine S.draw ([4, 10, 14], [0, 9]) Tryd.mixed (Sub.refl _) ?_
          refine D.qX (k := 1) rfl (by kernel_rfl) (by kernel_rfl) (by kernel_rfl) rfl rfl (Qt.move (by conv => lhs; whnf)) ?_
          refine D.qX (k := 2) rfl (by kernel_rfl) (by kernel_rfl) (by kernel_rfl) rfl rfl (Qt.move (by conv => lhs; whnf)) ?_
          refine D.qX (k := 3) rfl (by kernel_rfl) (by kernel_rfl) (by kernel_rfl) rfl rfl (Qt.slice_hi Tryd.underlying71 Tryd.cells24 rfl rfl (by omega)) ?_
          refine D.q (k := 5) rfl (by kernel_rfl) (by kernel_rfl) rfl rfl (Qt.move (by conv => lhs; whnf)) ?_
          refine D.q (k := 6) rfl (by kernel_rfl) (by kernel_rfl) rfl rfl (Qt.move (by conv => lhs; whnf)) ?_
          refine D.q (k := 7) rfl (by kernel_rfl) (by kernel_rfl) rfl rfl (Qt.index Tryd.underlying71 Tryd.cells24 rfl rfl (by omega) (Has.ro hR) (by rw [u64s_len]; omega)) ?_
          refine D.q (k := 8) rfl (by kernel_rfl) (by kernel_rfl) rfl rfl (Qt.load rfl (Ld.sl (v := .int .u64 (((xs.getD k 0) : Nat) : Int)) (Has.ro hR) Tryd.one24 (u64s_get1 (by omega)))) ?_
          refine D.q (k := 11) rfl (by kernel_rfl) (by kernel_rfl) rfl rfl (Qt.move (by conv => lhs; whnf)) ?_
          refine D.q (k := 12) rfl (by kernel_rfl) (by kernel_rfl) rfl rfl (Qt.move (by conv => lhs; whnf)) ?_
          refine D.q (k := 13) rfl (by kernel_rfl) (by kernel_rfl) rfl rfl (Qt.slice_lo Tryd.underlying71 Tryd.cells24 rfl rfl (by omega)) ?_
          refine D.orNN (k1 := 0) (k2 := 9) (Sub.refl _) rfl rfl (by kernel_rfl) (by kernel_rfl) rfl rfl rfl rfl ?_ ?_
          · refine (OpV.slice0 (sz := 1) Tryd.underlying71 ⟨8, Tryd.elem24⟩ (fun g44 => ⟨Sub.drop _ (Sub.keep _ (Sub.nil [])), ?_⟩))
            refine D.orNE (k1 := 9) (k2 := 4) (Sub.drop _ (Sub.keep _ (Sub.nil []))) rfl rfl (by kernel_rfl) (by kernel_rfl) rfl rfl rfl rfl ?_ ?_
            · refine (OpV.slice1 (bytes := 8) (v := .int .u64 (((xs.getD k 0) : Nat) : Int)) Tryd.underlying71 Tryd.elem24 (by decide) rfl rfl (fun g53 => ⟨Sub.drop _ (Sub.keep _ (Sub.keep _ (Sub.nil []))), ?_⟩))
              refine D.opS (k := 4) (Sub.drop _ (Sub.drop _ (Sub.keep _ (Sub.nil [])))) rfl (by kernel_rfl) (by kernel_rfl) rfl rfl (OpV.app1 (bytes := 8) (news := ((u64s os).take a)) Tryd.underlying71 Tryd.elem24 rfl rfl ((Has.own (Has.at 2 rfl)).take a) (by rw [List.length_take, u64s_len]; omega) (fun u hu => u64s_one _ u (List.mem_of_mem_take hu)) (by simp only [maxLen]; omega) (by omega) (fun O1 d1 => ⟨Sub.drop _ (Sub.drop _ (Sub.keep _ (Sub.nil []))), ?_⟩))
              refine D.opS (k := 10) (Sub.drop _ (Sub.drop _ (Sub.keep _ (Sub.nil [])))) rfl (by kernel_rfl) (by kernel_rfl) rfl rfl (OpV.app1 (bytes := 8) (news := [.int .u64 (((xs.getD k 0) : Nat) : Int)]) Tryd.underlying71 Tryd.elem24 rfl rfl (Has.blk (Has.at 0 rfl)) (rfl) (by intro u hu; rw [List.mem_singleton.1 hu]; rfl) (by simp only [maxLen]; omega) (by omega) (fun O2 d2 => ⟨Sub.drop _ (Sub.drop _ (Sub.keep _ (Sub.nil []))), ?_⟩))
              refine D.opS (k := 14) (Sub.drop _ (Sub.drop _ (Sub.keep _ (Sub.nil [])))) rfl (by kernel_rfl) (by kernel_rfl) rfl rfl (OpV.app1 (bytes := 8) (news := ((u64s os).drop (a * 1))) Tryd.underlying71 Tryd.elem24 rfl rfl ((Has.own (Has.at 2 rfl)).cut (fun e => by rw [u64s_len]; omega)) (by rw [List.length_drop, u64s_len]; omega) (fun u hu => u64s_one _ u (List.mem_of_mem_drop hu)) (by simp only [maxLen]; omega) (by omega) (fun O3 d3 => ⟨Sub.drop _ (Sub.drop _ (Sub.keep _ (Sub.nil []))), ?_⟩))
              refine D.qX (k := 15) rfl (by kernel_rfl) (by kernel_rfl) (by kernel_rfl) rfl rfl (Qt.assign (by conv => lhs; whnf)) ?_
              refine D.done (Sub.drop _ (Sub.drop _ (Sub.keep _ (Sub.nil [])))) (by kernel_rfl) ?_
              refine TC.region ?_
              refine S.q rfl rfl (Qt.move (by conv => lhs; whnf)) ?_
              refine S.q rfl rfl (Qt.add (b := 1) rfl rfl (by simp only [kmax]; omega)) ?_
              refine S.q rfl rfl (Qt.assign (by conv => lhs; whnf)) ?_
              refine S.nil ?_
              refine ⟨(k + 1, os.take a ++ [(xs.getD k 0)] ++ os.drop a, O3, d3), ?_, ?_, ⟨?_, (List.forall_mem_cons.2 ⟨rfl, (List.forall_mem_cons.2 ⟨(by show Value.slice O3 (0 + a + 1 + (os.length - a)) d3 = _; rw [rs_len os xs k ha]), (fun _ h => nomatch h)⟩)⟩)⟩, (by dsimp only; rw [← rs_len os xs k ha, ← rs_u64 os xs k a]; exact Sub.trans (Sub.keep _ (Sub.drop _ (Sub.drop _ (Sub.nil [])))) (Sub.trans (Sub.keep _ (Sub.refl _)) (Sub.of_perm (List.perm_middle (l₁ := [_])))))⟩
              · exact ⟨by show _ ≤ _; dsimp only; omega, hs.new h9 ha hb (fun h => by omega)⟩
              · show _ < _; dsimp only; omega
              repeat (first | exact Out.refl _ _ | refine Out.put rfl ?_ | refine Out.puts rfl ?_ | refine Out.scr ?_ | refine Out.scr' rfl ?_)
            · refine (OpV.app0 (bytes := 8) (news := ((u64s os).take a)) Tryd.underlying71 Tryd.elem24 rfl rfl ((Has.own (Has.at 1 rfl)).take a) (by rw [List.length_take, u64s_len]; omega) (fun u hu => u64s_one _ u (List.mem_of_mem_take hu)) (by simp only [maxLen]; omega) (by omega) (fun O1 d1 => ⟨Sub.drop _ (Sub.keep _ (Sub.nil [])), ?_⟩))
              refine D.nS (k := 9) (Sub.drop _ (Sub.keep _ (Sub.nil []))) rfl (by kernel_rfl) (by kernel_rfl) rfl rfl (OpV.slice1 (bytes := 8) (v := .int .u64 (((xs.getD k 0) : Nat) : Int)) Tryd.underlying71 Tryd.elem24 (by decide) rfl rfl (fun g53 => ⟨Sub.drop _ (Sub.keep _ (Sub.keep _ (Sub.nil []))), ?_⟩))
              refine D.opS (k := 10) (Sub.drop _ (Sub.drop _ (Sub.keep _ (Sub.nil [])))) rfl (by kernel_rfl) (by kernel_rfl) rfl rfl (OpV.app1 (bytes := 8) (news := [.int .u64 (((xs.getD k 0) : Nat) : Int)]) Tryd.underlying71 Tryd.elem24 rfl rfl (Has.blk (Has.at 0 rfl)) (rfl) (by intro u hu; rw [List.mem_singleton.1 hu]; rfl) (by simp only [maxLen]; omega) (by omega) (fun O2 d2 => ⟨Sub.drop _ (Sub.drop _ (Sub.keep _ (Sub.nil []))), ?_⟩))
              refine D.opS (k := 14) (Sub.drop _ (Sub.drop _ (Sub.keep _ (Sub.nil [])))) rfl (by kernel_rfl) (by kernel_rfl) rfl rfl (OpV.app1 (bytes := 8) (news := ((u64s os).drop (a * 1))) Tryd.underlying71 Tryd.elem24 rfl rfl ((Has.own (Has.at 2 rfl)).cut (fun e => by rw [u64s_len]; omega)) (by rw [List.length_drop, u64s_len]; omega) (fun u hu => u64s_one _ u (List.mem_of_mem_drop hu)) (by simp only [maxLen]; omega) (by omega) (fun O3 d3 => ⟨Sub.drop _ (Sub.drop _ (Sub.keep _ (Sub.nil []))), ?_⟩))
              refine D.qX (k := 15) rfl (by kernel_rfl) (by kernel_rfl) (by kernel_rfl) rfl rfl (Qt.assign (by conv => lhs; whnf)) ?_
              refine D.done (Sub.drop _ (Sub.drop _ (Sub.keep _ (Sub.nil [])))) (by kernel_rfl) ?_
              refine TC.region ?_
              refine S.q rfl rfl (Qt.move (by conv => lhs; whnf)) ?_
              refine S.q rfl rfl (Qt.add (b := 1) rfl rfl (by simp only [kmax]; omega)) ?_
              refine S.q rfl rfl (Qt.assign (by conv => lhs; whnf)) ?_
              refine S.nil ?_
              refine ⟨(k + 1, os.take a ++ [(xs.getD k 0)] ++ os.drop a, O3, d3), ?_, ?_, ⟨?_, (List.forall_mem_cons.2 ⟨rfl, (List.forall_mem_cons.2 ⟨(by show Value.slice O3 (0 + a + 1 + (os.length - a)) d3 = _; rw [rs_len os xs k ha]), (fun _ h => nomatch h)⟩)⟩)⟩, (by dsimp only; rw [← rs_len os xs k ha, ← rs_u64 os xs k a]; exact Sub.trans (Sub.keep _ (Sub.drop _ (Sub.drop _ (Sub.nil [])))) (Sub.trans (Sub.keep _ (Sub.refl _)) (Sub.of_perm (List.perm_middle (l₁ := [_])))))⟩
              · exact ⟨by show _ ≤ _; dsimp only; omega, hs.new h9 ha hb (fun h => by omega)⟩
              · show _ < _; dsimp only; omega
              repeat (first | exact Out.refl _ _ | refine Out.put rfl ?_ | refine Out.puts rfl ?_ | refine Out.scr ?_ | refine Out.scr' rfl ?_)
          · refine (OpV.slice1 (bytes := 8) (v := .int .u64 (((xs.getD k 0) : Nat) : Int)) Tryd.underlying71 Tryd.elem24 (by decide) rfl rfl (fun g53 => ⟨Sub.drop _ (Sub.keep _ (Sub.nil [])), ?_⟩))
            refine D.nS (k := 0) (Sub.drop _ (Sub.keep _ (Sub.nil []))) rfl (by kernel_rfl) (by kernel_rfl) rfl rfl (OpV.slice0 (sz := 1) Tryd.underlying71 ⟨8, Tryd.elem24⟩ (fun g44 => ⟨Sub.drop _ (Sub.keep _ (Sub.keep _ (Sub.nil []))), ?_⟩))
            refine D.opS (k := 4) (Sub.drop _ (Sub.drop _ (Sub.keep _ (Sub.nil [])))) rfl (by kernel_rfl) (by kernel_rfl) rfl rfl (OpV.app0 (bytes := 8) (news := ((u64s os).take a)) Tryd.underlying71 Tryd.elem24 rfl rfl ((Has.own (Has.at 2 rfl)).take a) (by rw [List.length_take, u64s_len]; omega) (fun u hu => u64s_one _ u (List.mem_of_mem_take hu)) (by simp only [maxLen]; omega) (by omega) (fun O1 d1 => ⟨Sub.drop _ (Sub.drop _ (Sub.keep _ (Sub.nil []))), ?_⟩))
            refine D.opS (k := 10) (Sub.drop _ (Sub.drop _ (Sub.keep _ (Sub.nil [])))) rfl (by kernel_rfl) (by kernel_rfl) rfl rfl (OpV.app0 (bytes := 8) (news := [.int .u64 (((xs.getD k 0) : Nat) : Int)]) Tryd.underlying71 Tryd.elem24 rfl rfl (Has.blk (Has.at 1 rfl)) (rfl) (by intro u hu; rw [List.mem_singleton.1 hu]; rfl) (by simp only [maxLen]; omega) (by omega) (fun O2 d2 => ⟨Sub.drop _ (Sub.drop _ (Sub.keep _ (Sub.nil []))), ?_⟩))
            refine D.opS (k := 14) (Sub.drop _ (Sub.drop _ (Sub.keep _ (Sub.nil [])))) rfl (by kernel_rfl) (by kernel_rfl) rfl rfl (OpV.app0 (bytes := 8) (news := ((u64s os).drop (a * 1))) Tryd.underlying71 Tryd.elem24 rfl rfl ((Has.own (Has.at 2 rfl)).cut (fun e => by rw [u64s_len]; omega)) (by rw [List.length_drop, u64s_len]; omega) (fun u hu => u64s_one _ u (List.mem_of_mem_drop hu)) (by simp only [maxLen]; omega) (by omega) (fun O3 d3 => ⟨Sub.drop _ (Sub.drop _ (Sub.keep _ (Sub.nil []))), ?_⟩))
            refine D.qX (k := 15) rfl (by kernel_rfl) (by kernel_rfl) (by kernel_rfl) rfl rfl (Qt.assign (by conv => lhs; whnf)) ?_
            refine D.done (Sub.drop _ (Sub.drop _ (Sub.keep _ (Sub.nil [])))) (by kernel_rfl) ?_
            refine TC.region ?_
            refine S.q rfl rfl (Qt.move (by conv => lhs; whnf)) ?_
            refine S.q rfl rfl (Qt.add (b := 1) rfl rfl (by simp only [kmax]; omega)) ?_
            refine S.q rfl rfl (Qt.assign (by conv => lhs; whnf)) ?_
            refine S.nil ?_
            refine ⟨(k + 1, os.take a ++ [(xs.getD k 0)] ++ os.drop a, O3, d3), ?_, ?_, ⟨?_, (List.forall_mem_cons.2 ⟨rfl, (List.forall_mem_cons.2 ⟨(by show Value.slice O3 (0 + a + 1 + (os.length - a)) d3 = _; rw [rs_len os xs k ha]), (fun _ h => nomatch h)⟩)⟩)⟩, (by dsimp only; rw [← rs_len os xs k ha, ← rs_u64 os xs k a]; exact Sub.keep _ (Sub.drop _ (Sub.drop _ (Sub.nil []))))⟩
            · exact ⟨by show _ ≤ _; dsimp only; omega, hs.new h9 ha hb (fun h => by omega)⟩
            · show _ < _; dsimp only; omega
            repeat (first | exact Out.refl _ _ | refine Out.put rfl ?_ | refine Out.puts rfl ?_ | refine Out.scr ?_ | refine Out.scr' rfl ?_)
    · refine D.qX (k := 4) rfl (by kernel_rfl) (by kernel_rfl) (by kernel_rfl) rfl rfl (Qt.move (by conv => lhs; whnf)) ?_
      refine D.pass (k := 5) rfl (by kernel_rfl) (by kernel_rfl) rfl rfl rfl ?_
      refine D.pass (k := 6) rfl (by kernel_rfl) (by kernel_rfl) rfl rfl rfl ?_
      refine D.pass (k := 7) rfl (by kernel_rfl) (by kernel_rfl) rfl rfl rfl ?_
      refine D.pass (k := 8) rfl (by kernel_rfl) (by kernel_rfl) rfl rfl rfl ?_
      refine D.pass (k := 9) rfl (by kernel_rfl) (by kernel_rfl) rfl rfl rfl ?_
      refine D.pass (k := 10) rfl (by kernel_rfl) (by kernel_rfl) rfl rfl rfl ?_
      refine D.pass (k := 11) rfl (by kernel_rfl) (by kernel_rfl) rfl rfl rfl ?_
      refine D.pass (k := 12) rfl (by kernel_rfl) (by kernel_rfl) rfl rfl rfl ?_
      refine D.pass (k := 13) rfl (by kernel_rfl) (by kernel_rfl) rfl rfl rfl ?_
      refine D.qX (k := 14) rfl (by kernel_rfl) (by kernel_rfl) (by kernel_rfl) rfl rfl (Qt.pick_f rfl (by conv => lhs; whnf)) ?_
      refine D.done (Sub.nil _) (by kernel_rfl) ?_
      refine S.if_f rfl ?_
      refine TC.exit ?_
      refine TC.seq ?_
      refine TC.seq ?_
      refine S.draw ([], []) Tryd.mixed (Sub.nil _) ?_
      refine D.qX (k := 0) rfl (by kernel_rfl) (by kernel_rfl) (by kernel_rfl) rfl rfl (Qt.move (by conv => lhs; whnf)) ?_
      refine D.qX (k := 1) rfl (by kernel_rfl) (by kernel_rfl) (by kernel_rfl) rfl rfl (Qt.move (by conv => lhs; whnf)) ?_
      refine D.qX (k := 2) rfl (by kernel_rfl) (by kernel_rfl) (by kernel_rfl) rfl rfl (Qt.len_slice Tryd.underlying71 rfl) ?_
      refine D.decX (k := 3) rfl (by kernel_rfl) (by kernel_rfl) (by kernel_rfl) rfl rfl (Qt.lt rfl rfl) (fun h32 => ?_) (fun h32 => ?_)
      · refine D.qX (k := 4) rfl (by kernel_rfl) (by kernel_rfl) (by kernel_rfl) rfl rfl (Qt.move (by conv => lhs; whnf)) ?_
        refine D.qgX (k := 5) rfl (by kernel_rfl) (by kernel_rfl) (by kernel_rfl) rfl rfl rfl (Qt.move (by conv => lhs; whnf)) ?_
        refine D.qgX (k := 6) rfl (by kernel_rfl) (by kernel_rfl) (by kernel_rfl) rfl rfl rfl (Qt.move (by conv => lhs; whnf)) ?_
        refine D.qgX (k := 7) rfl (by kernel_rfl) (by kernel_rfl) (by kernel_rfl) rfl rfl rfl (Qt.index Tryd.underlying71 Tryd.cells24 rfl rfl (by omega) (Has.own (Has.at 0 rfl)) (by rw [u64s_len]; omega)) ?_
        refine D.qgX (k := 8) rfl (by kernel_rfl) (by kernel_rfl) (by kernel_rfl) rfl rfl rfl (Qt.load rfl (Ld.sl (v := .int .u64 ((os.getD a 0 : Nat) : Int)) (Has.own (Has.at 0 rfl)) Tryd.one24 (u64s_get1 (by omega)))) ?_
        refine D.qgX (k := 9) rfl (by kernel_rfl) (by kernel_rfl) (by kernel_rfl) rfl rfl rfl (Qt.move (by conv => lhs; whnf)) ?_
        refine D.qgX (k := 10) rfl (by kernel_rfl) (by kernel_rfl) (by kernel_rfl) rfl rfl rfl (Qt.move (by conv => lhs; whnf)) ?_
        refine D.qgX (k := 11) rfl (by kernel_rfl) (by kernel_rfl) (by kernel_rfl) rfl rfl rfl (Qt.index Tryd.underlying71 Tryd.cells24 rfl rfl (by omega) (Has.ro hR) (by rw [u64s_len]; omega)) ?_
        refine D.qgX (k := 12) rfl (by kernel_rfl) (by kernel_rfl) (by kernel_rfl) rfl rfl rfl (Qt.load rfl (Ld.sl (v := .int .u64 (((xs.getD k 0) : Nat) : Int)) (Has.ro hR) Tryd.one24 (u64s_get1 (by omega)))) ?_
        refine D.decgX (k := 13) rfl (by kernel_rfl) (by kernel_rfl) (by kernel_rfl) rfl rfl rfl (Qt.eq rfl rfl) (fun h42 => ?_) (fun h42 => ?_)
        · refine D.qX (k := 14) rfl (by kernel_rfl) (by kernel_rfl) (by kernel_rfl) rfl rfl (Qt.pick_t rfl (by conv => lhs; whnf)) ?_
          refine D.done (Sub.nil _) (by kernel_rfl) ?_
          refine S.if_t rfl ?_
          refine TC.exit ?_
          refine TC.region ?_
          refine S.q rfl rfl (Qt.move (by conv => lhs; whnf)) ?_
          refine S.q rfl rfl (Qt.add (b := 1) rfl rfl (by simp only [kmax]; omega)) ?_
          refine S.q rfl rfl (Qt.assign (by conv => lhs; whnf)) ?_
          refine S.nil ?_
          refine ⟨(k + 1, os, O, d), ?_, ?_, ⟨?_, (List.forall_mem_cons.2 ⟨rfl, (List.forall_mem_cons.2 ⟨rfl, (fun _ h => nomatch h)⟩)⟩)⟩, Sub.refl _⟩
          · exact ⟨by show _ ≤ _; dsimp only; omega, hs.old h9 h32 h42⟩
          · show _ < _; dsimp only; omega
          repeat (first | exact Out.refl _ _ | refine Out.put rfl ?_ | refine Out.puts rfl ?_ | refine Out.scr ?_ | refine Out.scr' rfl ?_)
        · refine D.qX (k := 14) rfl (by kernel_rfl) (by kernel_rfl) (by kernel_rfl) rfl rfl (Qt.pick_t rfl (by conv => lhs; whnf)) ?_
          refine D.done (Sub.nil _) (by kernel_rfl) ?_
          refine S.if_f rfl ?_
          refine TC.skip ?_
          refine S.draw ([4, 10, 14], [0, 9]) Tryd.mixed (Sub.refl _) ?_
          refine D.qX (k := 1) rfl (by kernel_rfl) (by kernel_rfl) (by kernel_rfl) rfl rfl (Qt.move (by conv => lhs; whnf)) ?_
          refine D.qX (k := 2) rfl (by kernel_rfl) (by kernel_rfl) (by kernel_rfl) rfl rfl (Qt.move (by conv => lhs; whnf)) ?_
          refine D.qX (k := 3) rfl (by kernel_rfl) (by kernel_rfl) (by kernel_rfl) rfl rfl (Qt.slice_hi Tryd.underlying71 Tryd.cells24 rfl rfl (by omega)) ?_
          refine D.q (k := 5) rfl (by kernel_rfl) (by kernel_rfl) rfl rfl (Qt.move (by conv => lhs; whnf)) ?_
          refine D.q (k := 6) rfl (by kernel_rfl) (by kernel_rfl) rfl rfl (Qt.move (by conv => lhs; whnf)) ?_
          refine D.q (k := 7) rfl (by kernel_rfl) (by kernel_rfl) rfl rfl (Qt.index Tryd.underlying71 Tryd.cells24 rfl rfl (by omega) (Has.ro hR) (by rw [u64s_len]; omega)) ?_
          refine D.q (k := 8) rfl (by kernel_rfl) (by kernel_rfl) rfl rfl (Qt.load rfl (Ld.sl (v := .int .u64 (((xs.getD k 0) : Nat) : Int)) (Has.ro hR) Tryd.one24 (u64s_get1 (by omega)))) ?_
          refine D.q (k := 11) rfl (by kernel_rfl) (by kernel_rfl) rfl rfl (Qt.move (by conv => lhs; whnf)) ?_
          refine D.q (k := 12) rfl (by kernel_rfl) (by kernel_rfl) rfl rfl (Qt.move (by conv => lhs; whnf)) ?_
          refine D.q (k := 13) rfl (by kernel_rfl) (by kernel_rfl) rfl rfl (Qt.slice_lo Tryd.underlying71 Tryd.cells24 rfl rfl (by omega)) ?_
          refine D.orNN (k1 := 0) (k2 := 9) (Sub.refl _) rfl rfl (by kernel_rfl) (by kernel_rfl) rfl rfl rfl rfl ?_ ?_
          · refine (OpV.slice0 (sz := 1) Tryd.underlying71 ⟨8, Tryd.elem24⟩ (fun g44 => ⟨Sub.drop _ (Sub.keep _ (Sub.nil [])), ?_⟩))
            refine D.orNE (k1 := 9) (k2 := 4) (Sub.drop _ (Sub.keep _ (Sub.nil []))) rfl rfl (by kernel_rfl) (by kernel_rfl) rfl rfl rfl rfl ?_ ?_
            · refine (OpV.slice1 (bytes := 8) (v := .int .u64 (((xs.getD k 0) : Nat) : Int)) Tryd.underlying71 Tryd.elem24 (by decide) rfl rfl (fun g53 => ⟨Sub.drop _ (Sub.keep _ (Sub.keep _ (Sub.nil []))), ?_⟩))
              refine D.opS (k := 4) (Sub.drop _ (Sub.drop _ (Sub.keep _ (Sub.nil [])))) rfl (by kernel_rfl) (by kernel_rfl) rfl rfl (OpV.app1 (bytes := 8) (news := ((u64s os).take a)) Tryd.underlying71 Tryd.elem24 rfl rfl ((Has.own (Has.at 2 rfl)).take a) (by rw [List.length_take, u64s_len]; omega) (fun u hu => u64s_one _ u (List.mem_of_mem_take hu)) (by simp only [maxLen]; omega) (by omega) (fun O1 d1 => ⟨Sub.drop _ (Sub.drop _ (Sub.keep _ (Sub.nil []))), ?_⟩))
              refine D.opS (k := 10) (Sub.drop _ (Sub.drop _ (Sub.keep _ (Sub.nil [])))) rfl (by kernel_rfl) (by kernel_rfl) rfl rfl (OpV.app1 (bytes := 8) (news := [.int .u64 (((xs.getD k 0) : Nat) : Int)]) Tryd.underlying71 Tryd.elem24 rfl rfl (Has.blk (Has.at 0 rfl)) (rfl) (by intro u hu; rw [List.mem_singleton.1 hu]; rfl) (by simp only [maxLen]; omega) (by omega) (fun O2 d2 => ⟨Sub.drop _ (Sub.drop _ (Sub.keep _ (Sub.nil []))), ?_⟩))
              refine D.opS (k := 14) (Sub.drop _ (Sub.drop _ (Sub.keep _ (Sub.nil [])))) rfl (by kernel_rfl) (by kernel_rfl) rfl rfl (OpV.app1 (bytes := 8) (news := ((u64s os).drop (a * 1))) Tryd.underlying71 Tryd.elem24 rfl rfl ((Has.own (Has.at 2 rfl)).cut (fun e => by rw [u64s_len]; omega)) (by rw [List.length_drop, u64s_len]; omega) (fun u hu => u64s_one _ u (List.mem_of_mem_drop hu)) (by simp only [maxLen]; omega) (by omega) (fun O3 d3 => ⟨Sub.drop _ (Sub.drop _ (Sub.keep _ (Sub.nil []))), ?_⟩))
              refine D.qX (k := 15) rfl (by kernel_rfl) (by kernel_rfl) (by kernel_rfl) rfl rfl (Qt.assign (by conv => lhs; whnf)) ?_
              refine D.done (Sub.drop _ (Sub.drop _ (Sub.keep _ (Sub.nil [])))) (by kernel_rfl) ?_
              refine TC.region ?_
              refine S.q rfl rfl (Qt.move (by conv => lhs; whnf)) ?_
              refine S.q rfl rfl (Qt.add (b := 1) rfl rfl (by simp only [kmax]; omega)) ?_
              refine S.q rfl rfl (Qt.assign (by conv => lhs; whnf)) ?_
              refine S.nil ?_
              refine ⟨(k + 1, os.take a ++ [(xs.getD k 0)] ++ os.drop a, O3, d3), ?_, ?_, ⟨?_, (List.forall_mem_cons.2 ⟨rfl, (List.forall_mem_cons.2 ⟨(by show Value.slice O3 (0 + a + 1 + (os.length - a)) d3 = _; rw [rs_len os xs k ha]), (fun _ h => nomatch h)⟩)⟩)⟩, (by dsimp only; rw [← rs_len os xs k ha, ← rs_u64 os xs k a]; exact Sub.trans (Sub.keep _ (Sub.drop _ (Sub.drop _ (Sub.nil [])))) (Sub.trans (Sub.keep _ (Sub.refl _)) (Sub.of_perm (List.perm_middle (l₁ := [_])))))⟩
              · exact ⟨by show _ ≤ _; dsimp only; omega, hs.new h9 ha hb (fun h => by omega)⟩
              · show _ < _; dsimp only; omega
              repeat (first | exact Out.refl _ _ | refine Out.put rfl ?_ | refine Out.puts rfl ?_ | refine Out.scr ?_ | refine Out.scr' rfl ?_)
            · refine (OpV.app0 (bytes := 8) (news := ((u64s os).take a)) Tryd.underlying71 Tryd.elem24 rfl rfl ((Has.own (Has.at 1 rfl)).take a) (by rw [List.length_take, u64s_len]; omega) (fun u hu => u64s_one _ u (List.mem_of_mem_take hu)) (by simp only [maxLen]; omega) (by omega) (fun O1 d1 => ⟨Sub.drop _ (Sub.keep _ (Sub.nil [])), ?_⟩))
              refine D.nS (k := 9) (Sub.drop _ (Sub.keep _ (Sub.nil []))) rfl (by kernel_rfl) (by kernel_rfl) rfl rfl (OpV.slice1 (bytes := 8) (v := .int .u64 (((xs.getD k 0) : Nat) : Int)) Tryd.underlying71 Tryd.elem24 (by decide) rfl rfl (fun g53 => ⟨Sub.drop _ (Sub.keep _ (Sub.keep _ (Sub.nil []))), ?_⟩))
              refine D.opS (k := 10) (Sub.drop _ (Sub.drop _ (Sub.keep _ (Sub.nil [])))) rfl (by kernel_rfl) (by kernel_rfl) rfl rfl (OpV.app1 (bytes := 8) (news := [.int .u64 (((xs.getD k 0) : Nat) : Int)]) Tryd.underlying71 Tryd.elem24 rfl rfl (Has.blk (Has.at 0 rfl)) (rfl) (by intro u hu; rw [List.mem_singleton.1 hu]; rfl) (by simp only [maxLen]; omega) (by omega) (fun O2 d2 => ⟨Sub.drop _ (Sub.drop _ (Sub.keep _ (Sub.nil []))), ?_⟩))
              refine D.opS (k := 14) (Sub.drop _ (Sub.drop _ (Sub.keep _ (Sub.nil [])))) rfl (by kernel_rfl) (by kernel_rfl) rfl rfl (OpV.app1 (bytes := 8) (news := ((u64s os).drop (a * 1))) Tryd.underlying71 Tryd.elem24 rfl rfl ((Has.own (Has.at 2 rfl)).cut (fun e => by rw [u64s_len]; omega)) (by rw [List.length_drop, u64s_len]; omega) (fun u hu => u64s_one _ u (List.mem_of_mem_drop hu)) (by simp only [maxLen]; omega) (by omega) (fun O3 d3 => ⟨Sub.drop _ (Sub.drop _ (Sub.keep _ (Sub.nil []))), ?_⟩))
              refine D.qX (k := 15) rfl (by kernel_rfl) (by kernel_rfl) (by kernel_rfl) rfl rfl (Qt.assign (by conv => lhs; whnf)) ?_
              refine D.done (Sub.drop _ (Sub.drop _ (Sub.keep _ (Sub.nil [])))) (by kernel_rfl) ?_
              refine TC.region ?_
              refine S.q rfl rfl (Qt.move (by conv => lhs; whnf)) ?_
              refine S.q rfl rfl (Qt.add (b := 1) rfl rfl (by simp only [kmax]; omega)) ?_
              refine S.q rfl rfl (Qt.assign (by conv => lhs; whnf)) ?_
              refine S.nil ?_
              refine ⟨(k + 1, os.take a ++ [(xs.getD k 0)] ++ os.drop a, O3, d3), ?_, ?_, ⟨?_, (List.forall_mem_cons.2 ⟨rfl, (List.forall_mem_cons.2 ⟨(by show Value.slice O3 (0 + a + 1 + (os.length - a)) d3 = _; rw [rs_len os xs k ha]), (fun _ h => nomatch h)⟩)⟩)⟩, (by dsimp only; rw [← rs_len os xs k ha, ← rs_u64 os xs k a]; exact Sub.trans (Sub.keep _ (Sub.drop _ (Sub.drop _ (Sub.nil [])))) (Sub.trans (Sub.keep _ (Sub.refl _)) (Sub.of_perm (List.perm_middle (l₁ := [_])))))⟩
              · exact ⟨by show _ ≤ _; dsimp only; omega, hs.new h9 ha hb (fun h => by omega)⟩
              · show _ < _; dsimp only; omega
              repeat (first | exact Out.refl _ _ | refine Out.put rfl ?_ | refine Out.puts rfl ?_ | refine Out.scr ?_ | refine Out.scr' rfl ?_)
          · refine (OpV.slice1 (bytes := 8) (v := .int .u64 (((xs.getD k 0) : Nat) : Int)) Tryd.underlying71 Tryd.elem24 (by decide) rfl rfl (fun g53 => ⟨Sub.drop _ (Sub.keep _ (Sub.nil [])), ?_⟩))
            refine D.nS (k := 0) (Sub.drop _ (Sub.keep _ (Sub.nil []))) rfl (by kernel_rfl) (by kernel_rfl) rfl rfl (OpV.slice0 (sz := 1) Tryd.underlying71 ⟨8, Tryd.elem24⟩ (fun g44 => ⟨Sub.drop _ (Sub.keep _ (Sub.keep _ (Sub.nil []))), ?_⟩))
            refine D.opS (k := 4) (Sub.drop _ (Sub.drop _ (Sub.keep _ (Sub.nil [])))) rfl (by kernel_rfl) (by kernel_rfl) rfl rfl (OpV.app0 (bytes := 8) (news := ((u64s os).take a)) Tryd.underlying71 Tryd.elem24 rfl rfl ((Has.own (Has.at 2 rfl)).take a) (by rw [List.length_take, u64s_len]; omega) (fun u hu => u64s_one _ u (List.mem_of_mem_take hu)) (by simp only [maxLen]; omega) (by omega) (fun O1 d1 => ⟨Sub.drop _ (Sub.drop _ (Sub.keep _ (Sub.nil []))), ?_⟩))
            refine D.opS (k := 10) (Sub.drop _ (Sub.drop _ (Sub.keep _ (Sub.nil [])))) rfl (by kernel_rfl) (by kernel_rfl) rfl rfl (OpV.app0 (bytes := 8) (news := [.int .u64 (((xs.getD k 0) : Nat) : Int)]) Tryd.underlying71 Tryd.elem24 rfl rfl (Has.blk (Has.at 1 rfl)) (rfl) (by intro u hu; rw [List.mem_singleton.1 hu]; rfl) (by simp only [maxLen]; omega) (by omega) (fun O2 d2 => ⟨Sub.drop _ (Sub.drop _ (Sub.keep _ (Sub.nil []))), ?_⟩))
            refine D.opS (k := 14) (Sub.drop _ (Sub.drop _ (Sub.keep _ (Sub.nil [])))) rfl (by kernel_rfl) (by kernel_rfl) rfl rfl (OpV.app0 (bytes := 8) (news := ((u64s os).drop (a * 1))) Tryd.underlying71 Tryd.elem24 rfl rfl ((Has.own (Has.at 2 rfl)).cut (fun e => by rw [u64s_len]; omega)) (by rw [List.length_drop, u64s_len]; omega) (fun u hu => u64s_one _ u (List.mem_of_mem_drop hu)) (by simp only [maxLen]; omega) (by omega) (fun O3 d3 => ⟨Sub.drop _ (Sub.drop _ (Sub.keep _ (Sub.nil []))), ?_⟩))
            refine D.qX (k := 15) rfl (by kernel_rfl) (by kernel_rfl) (by kernel_rfl) rfl rfl (Qt.assign (by conv => lhs; whnf)) ?_
            refine D.done (Sub.drop _ (Sub.drop _ (Sub.keep _ (Sub.nil [])))) (by kernel_rfl) ?_
            refine TC.region ?_
            refine S.q rfl rfl (Qt.move (by conv => lhs; whnf)) ?_
            refine S.q rfl rfl (Qt.add (b := 1) rfl rfl (by simp only [kmax]; omega)) ?_
            refine S.q rfl rfl (Qt.assign (by conv => lhs; whnf)) ?_
            refine S.nil ?_
            refine ⟨(k + 1, os.take a ++ [(xs.getD k 0)] ++ os.drop a, O3, d3), ?_, ?_, ⟨?_, (List.forall_mem_cons.2 ⟨rfl, (List.forall_mem_cons.2 ⟨(by show Value.slice O3 (0 + a + 1 + (os.length - a)) d3 = _; rw [rs_len os xs k ha]), (fun _ h => nomatch h)⟩)⟩)⟩, (by dsimp only; rw [← rs_len os xs k ha, ← rs_u64 os xs k a]; exact Sub.keep _ (Sub.drop _ (Sub.drop _ (Sub.nil []))))⟩
            · exact ⟨by show _ ≤ _; dsimp only; omega, hs.new h9 ha hb (fun h => by omega)⟩
            · show _ < _; dsimp only; omega
            repeat (first | exact Out.refl _ _ | refine Out.put rfl ?_ | refine Out.puts rfl ?_ | refine Out.scr ?_ | refine Out.scr' rfl ?_)
      · refine D.qX (k := 4) rfl (by kernel_rfl) (by kernel_rfl) (by kernel_rfl) rfl rfl (Qt.move (by conv => lhs; whnf)) ?_
        refine D.pass (k := 5) rfl (by kernel_rfl) (by kernel_rfl) rfl rfl rfl ?_
        refine D.pass (k := 6) rfl (by kernel_rfl) (by kernel_rfl) rfl rfl rfl ?_
        refine D.pass (k := 7) rfl (by kernel_rfl) (by kernel_rfl) rfl rfl rfl ?_
        refine D.pass (k := 8) rfl (by kernel_rfl) (by kernel_rfl) rfl rfl rfl ?_
        refine D.pass (k := 9) rfl (by kernel_rfl) (by kernel_rfl) rfl rfl rfl ?_
        refine D.pass (k := 10) rfl (by kernel_rfl) (by kernel_rfl) rfl rfl rfl ?_
        refine D.pass (k := 11) rfl (by kernel_rfl) (by kernel_rfl) rfl rfl rfl ?_
        refine D.pass (k := 12) rfl (by kernel_rfl) (by kernel_rfl) rfl rfl rfl ?_
        refine D.pass (k := 13) rfl (by kernel_rfl) (by kernel_rfl) rfl rfl rfl ?_
        refine D.qX (k := 14) rfl (by kernel_rfl) (by kernel_rfl) (by kernel_rfl) rfl rfl (Qt.pick_f rfl (by conv => lhs; whnf)) ?_
        refine D.done (Sub.nil _) (by kernel_rfl) ?_
        refine S.if_f rfl ?_
        refine TC.skip ?_
        refine S.draw ([4, 10, 14], [0, 9]) Tryd.mixed (Sub.refl _) ?_
        refine D.qX (k := 1) rfl (by kernel_rfl) (by kernel_rfl) (by kernel_rfl) rfl rfl (Qt.move (by conv => lhs; whnf)) ?_
        refine D.qX (k := 2) rfl (by kernel_rfl) (by kernel_rfl) (by kernel_rfl) rfl rfl (Qt.move (by conv => lhs; whnf)) ?_
        refine D.qX (k := 3) rfl (by kernel_rfl) (by kernel_rfl) (by kernel_rfl) rfl rfl (Qt.slice_hi Tryd.underlying71 Tryd.cells24 rfl rfl (by omega)) ?_
        refine D.q (k := 5) rfl (by kernel_rfl) (by kernel_rfl) rfl rfl (Qt.move (by conv => lhs; whnf)) ?_
        refine D.q (k := 6) rfl (by kernel_rfl) (by kernel_rfl) rfl rfl (Qt.move (by conv => lhs; whnf)) ?_
        refine D.q (k := 7) rfl (by kernel_rfl) (by kernel_rfl) rfl rfl (Qt.index Tryd.underlying71 Tryd.cells24 rfl rfl (by omega) (Has.ro hR) (by rw [u64s_len]; omega)) ?_
        refine D.q (k := 8) rfl (by kernel_rfl) (by kernel_rfl) rfl rfl (Qt.load rfl (Ld.sl (v := .int .u64 (((xs.getD k 0) : Nat) : Int)) (Has.ro hR) Tryd.one24 (u64s_get1 (by omega)))) ?_
        refine D.q (k := 11) rfl (by kernel_rfl) (by kernel_rfl) rfl rfl (Qt.move (by conv => lhs; whnf)) ?_
        refine D.q (k := 12) rfl (by kernel_rfl) (by kernel_rfl) rfl rfl (Qt.move (by conv => lhs; whnf)) ?_
        refine D.q (k := 13) rfl (by kernel_rfl) (by kernel_rfl) rfl rfl (Qt.slice_lo Tryd.underlying71 Tryd.cells24 rfl rfl (by omega)) ?_
        refine D.orNN (k1 := 0) (k2 := 9) (Sub.refl _) rfl rfl (by kernel_rfl) (by kernel_rfl) rfl rfl rfl rfl ?_ ?_
        · refine (OpV.slice0 (sz := 1) Tryd.underlying71 ⟨8, Tryd.elem24⟩ (fun g44 => ⟨Sub.drop _ (Sub.keep _ (Sub.nil [])), ?_⟩))
          refine D.orNE (k1 := 9) (k2 := 4) (Sub.drop _ (Sub.keep _ (Sub.nil []))) rfl rfl (by kernel_rfl) (by kernel_rfl) rfl rfl rfl rfl ?_ ?_
          · refine (OpV.slice1 (bytes := 8) (v := .int .u64 (((xs.getD k 0) : Nat) : Int)) Tryd.underlying71 Tryd.elem24 (by decide) rfl rfl (fun g53 => ⟨Sub.drop _ (Sub.keep _ (Sub.keep _ (Sub.nil []))), ?_⟩))
            refine D.opS (k := 4) (Sub.drop _ (Sub.drop _ (Sub.keep _ (Sub.nil [])))) rfl (by kernel_rfl) (by kernel_rfl) rfl rfl (OpV.app1 (bytes := 8) (news := ((u64s os).take a)) Tryd.underlying71 Tryd.elem24 rfl rfl ((Has.own (Has.at 2 rfl)).take a) (by rw [List.length_take, u64s_len]; omega) (fun u hu => u64s_one _ u (List.mem_of_mem_take hu)) (by simp only [maxLen]; omega) (by omega) (fun O1 d1 => ⟨Sub.drop _ (Sub.drop _ (Sub.keep _ (Sub.nil []))), ?_⟩))
            refine D.opS (k := 10) (Sub.drop _ (Sub.drop _ (Sub.keep _ (Sub.nil [])))) rfl (by kernel_rfl) (by kernel_rfl) rfl rfl (OpV.app1 (bytes := 8) (news := [.int .u64 (((xs.getD k 0) : Nat) : Int)]) Tryd.underlying71 Tryd.elem24 rfl rfl (Has.blk (Has.at 0 rfl)) (rfl) (by intro u hu; rw [List.mem_singleton.1 hu]; rfl) (by simp only [maxLen]; omega) (by omega) (fun O2 d2 => ⟨Sub.drop _ (Sub.drop _ (Sub.keep _ (Sub.nil []))), ?_⟩))
            refine D.opS (k := 14) (Sub.drop _ (Sub.drop _ (Sub.keep _ (Sub.nil [])))) rfl (by kernel_rfl) (by kernel_rfl) rfl rfl (OpV.app1 (bytes := 8) (news := ((u64s os).drop (a * 1))) Tryd.underlying71 Tryd.elem24 rfl rfl ((Has.own (Has.at 2 rfl)).cut (fun e => by rw [u64s_len]; omega)) (by rw [List.length_drop, u64s_len]; omega) (fun u hu => u64s_one _ u (List.mem_of_mem_drop hu)) (by simp only [maxLen]; omega) (by omega) (fun O3 d3 => ⟨Sub.drop _ (Sub.drop _ (Sub.keep _ (Sub.nil []))), ?_⟩))
            refine D.qX (k := 15) rfl (by kernel_rfl) (by kernel_rfl) (by kernel_rfl) rfl rfl (Qt.assign (by conv => lhs; whnf)) ?_
            refine D.done (Sub.drop _ (Sub.drop _ (Sub.keep _ (Sub.nil [])))) (by kernel_rfl) ?_
            refine TC.region ?_
            refine S.q rfl rfl (Qt.move (by conv => lhs; whnf)) ?_
            refine S.q rfl rfl (Qt.add (b := 1) rfl rfl (by simp only [kmax]; omega)) ?_
            refine S.q rfl rfl (Qt.assign (by conv => lhs; whnf)) ?_
            refine S.nil ?_
            refine ⟨(k + 1, os.take a ++ [(xs.getD k 0)] ++ os.drop a, O3, d3), ?_, ?_, ⟨?_, (List.forall_mem_cons.2 ⟨rfl, (List.forall_mem_cons.2 ⟨(by show Value.slice O3 (0 + a + 1 + (os.length - a)) d3 = _; rw [rs_len os xs k ha]), (fun _ h => nomatch h)⟩)⟩)⟩, (by dsimp only; rw [← rs_len os xs k ha, ← rs_u64 os xs k a]; exact Sub.trans (Sub.keep _ (Sub.drop _ (Sub.drop _ (Sub.nil [])))) (Sub.trans (Sub.keep _ (Sub.refl _)) (Sub.of_perm (List.perm_middle (l₁ := [_])))))⟩
            · exact ⟨by show _ ≤ _; dsimp only; omega, hs.new h9 ha hb (fun h => by omega)⟩
            · show _ < _; dsimp only; omega
            repeat (first | exact Out.refl _ _ | refine Out.put rfl ?_ | refine Out.puts rfl ?_ | refine Out.scr ?_ | refine Out.scr' rfl ?_)
          · refine (OpV.app0 (bytes := 8) (news := ((u64s os).take a)) Tryd.underlying71 Tryd.elem24 rfl rfl ((Has.own (Has.at 1 rfl)).take a) (by rw [List.length_take, u64s_len]; omega) (fun u hu => u64s_one _ u (List.mem_of_mem_take hu)) (by simp only [maxLen]; omega) (by omega) (fun O1 d1 => ⟨Sub.drop _ (Sub.keep _ (Sub.nil [])), ?_⟩))
            refine D.nS (k := 9) (Sub.drop _ (Sub.keep _ (Sub.nil []))) rfl (by kernel_rfl) (by kernel_rfl) rfl rfl (OpV.slice1 (bytes := 8) (v := .int .u64 (((xs.getD k 0) : Nat) : Int)) Tryd.underlying71 Tryd.elem24 (by decide) rfl rfl (fun g53 => ⟨Sub.drop _ (Sub.keep _ (Sub.keep _ (Sub.nil []))), ?_⟩))
            refine D.opS (k := 10) (Sub.drop _ (Sub.drop _ (Sub.keep _ (Sub.nil [])))) rfl (by kernel_rfl) (by kernel_rfl) rfl rfl (OpV.app1 (bytes := 8) (news := [.int .u64 (((xs.getD k 0) : Nat) : Int)]) Tryd.underlying71 Tryd.elem24 rfl rfl (Has.blk (Has.at 0 rfl)) (rfl) (by intro u hu; rw [List.mem_singleton.1 hu]; rfl) (by simp only [maxLen]; omega) (by omega) (fun O2 d2 => ⟨Sub.drop _ (Sub.drop _ (Sub.keep _ (Sub.nil []))), ?_⟩))
            refine D.opS (k := 14) (Sub.drop _ (Sub.drop _ (Sub.keep _ (Sub.nil [])))) rfl (by kernel_rfl) (by kernel_rfl) rfl rfl (OpV.app1 (bytes := 8) (news := ((u64s os).drop (a * 1))) Tryd.underlying71 Tryd.elem24 rfl rfl ((Has.own (Has.at 2 rfl)).cut (fun e => by rw [u64s_len]; omega)) (by rw [List.length_drop, u64s_len]; omega) (fun u hu => u64s_one _ u (List.mem_of_mem_drop hu)) (by simp only [maxLen]; omega) (by omega) (fun O3 d3 => ⟨Sub.drop _ (Sub.drop _ (Sub.keep _ (Sub.nil []))), ?_⟩))
            refine D.qX (k := 15) rfl (by kernel_rfl) (by kernel_rfl) (by kernel_rfl) rfl rfl (Qt.assign (by conv => lhs; whnf)) ?_
            refine D.done (Sub.drop _ (Sub.drop _ (Sub.keep _ (Sub.nil [])))) (by kernel_rfl) ?_
            refine TC.region ?_
            refine S.q rfl rfl (Qt.move (by conv => lhs; whnf)) ?_
            refine S.q rfl rfl (Qt.add (b := 1) rfl rfl (by simp only [kmax]; omega)) ?_
            refine S.q rfl rfl (Qt.assign (by conv => lhs; whnf)) ?_
            refine S.nil ?_
            refine ⟨(k + 1, os.take a ++ [(xs.getD k 0)] ++ os.drop a, O3, d3), ?_, ?_, ⟨?_, (List.forall_mem_cons.2 ⟨rfl, (List.forall_mem_cons.2 ⟨(by show Value.slice O3 (0 + a + 1 + (os.length - a)) d3 = _; rw [rs_len os xs k ha]), (fun _ h => nomatch h)⟩)⟩)⟩, (by dsimp only; rw [← rs_len os xs k ha, ← rs_u64 os xs k a]; exact Sub.trans (Sub.keep _ (Sub.drop _ (Sub.drop _ (Sub.nil [])))) (Sub.trans (Sub.keep _ (Sub.refl _)) (Sub.of_perm (List.perm_middle (l₁ := [_])))))⟩
            · exact ⟨by show _ ≤ _; dsimp only; omega, hs.new h9 ha hb (fun h => by omega)⟩
            · show _ < _; dsimp only; omega
            repeat (first | exact Out.refl _ _ | refine Out.put rfl ?_ | refine Out.puts rfl ?_ | refine Out.scr ?_ | refine Out.scr' rfl ?_)
        · refine (OpV.slice1 (bytes := 8) (v := .int .u64 (((xs.getD k 0) : Nat) : Int)) Tryd.underlying71 Tryd.elem24 (by decide) rfl rfl (fun g53 => ⟨Sub.drop _ (Sub.keep _ (Sub.nil [])), ?_⟩))
          refine D.nS (k := 0) (Sub.drop _ (Sub.keep _ (Sub.nil []))) rfl (by kernel_rfl) (by kernel_rfl) rfl rfl (OpV.slice0 (sz := 1) Tryd.underlying71 ⟨8, Tryd.elem24⟩ (fun g44 => ⟨Sub.drop _ (Sub.keep _ (Sub.keep _ (Sub.nil []))), ?_⟩))
          refine D.opS (k := 4) (Sub.drop _ (Sub.drop _ (Sub.keep _ (Sub.nil [])))) rfl (by kernel_rfl) (by kernel_rfl) rfl rfl (OpV.app0 (bytes := 8) (news := ((u64s os).take a)) Tryd.underlying71 Tryd.elem24 rfl rfl ((Has.own (Has.at 2 rfl)).take a) (by rw [List.length_take, u64s_len]; omega) (fun u hu => u64s_one _ u (List.mem_of_mem_take hu)) (by simp only [maxLen]; omega) (by omega) (fun O1 d1 => ⟨Sub.drop _ (Sub.drop _ (Sub.keep _ (Sub.nil []))), ?_⟩))
          refine D.opS (k := 10) (Sub.drop _ (Sub.drop _ (Sub.keep _ (Sub.nil [])))) rfl (by kernel_rfl) (by kernel_rfl) rfl rfl (OpV.app0 (bytes := 8) (news := [.int .u64 (((xs.getD k 0) : Nat) : Int)]) Tryd.underlying71 Tryd.elem24 rfl rfl (Has.blk (Has.at 1 rfl)) (rfl) (by intro u hu; rw [List.mem_singleton.1 hu]; rfl) (by simp only [maxLen]; omega) (by omega) (fun O2 d2 => ⟨Sub.drop _ (Sub.drop _ (Sub.keep _ (Sub.nil []))), ?_⟩))
          refine D.opS (k := 14) (Sub.drop _ (Sub.drop _ (Sub.keep _ (Sub.nil [])))) rfl (by kernel_rfl) (by kernel_rfl) rfl rfl (OpV.app0 (bytes := 8) (news := ((u64s os).drop (a * 1))) Tryd.underlying71 Tryd.elem24 rfl rfl ((Has.own (Has.at 2 rfl)).cut (fun e => by rw [u64s_len]; omega)) (by rw [List.length_drop, u64s_len]; omega) (fun u hu => u64s_one _ u (List.mem_of_mem_drop hu)) (by simp only [maxLen]; omega) (by omega) (fun O3 d3 => ⟨Sub.drop _ (Sub.drop _ (Sub.keep _ (Sub.nil []))), ?_⟩))
          refine D.qX (k := 15) rfl (by kernel_rfl) (by kernel_rfl) (by kernel_rfl) rfl rfl (Qt.assign (by conv => lhs; whnf)) ?_
          refine D.done (Sub.drop _ (Sub.drop _ (Sub.keep _ (Sub.nil [])))) (by kernel_rfl) ?_
          refine TC.region ?_
          refine S.q rfl rfl (Qt.move (by conv => lhs; whnf)) ?_
          refine S.q rfl rfl (Qt.add (b := 1) rfl rfl (by simp only [kmax]; omega)) ?_
          refine S.q rfl rfl (Qt.assign (by conv => lhs; whnf)) ?_
          refine S.nil ?_
          refine ⟨(k + 1, os.take a ++ [(xs.getD k 0)] ++ os.drop a, O3, d3), ?_, ?_, ⟨?_, (List.forall_mem_cons.2 ⟨rfl, (List.forall_mem_cons.2 ⟨(by show Value.slice O3 (0 + a + 1 + (os.length - a)) d3 = _; rw [rs_len os xs k ha]), (fun _ h => nomatch h)⟩)⟩)⟩, (by dsimp only; rw [← rs_len os xs k ha, ← rs_u64 os xs k a]; exact Sub.keep _ (Sub.drop _ (Sub.drop _ (Sub.nil []))))⟩
          · exact ⟨by show _ ≤ _; dsimp only; omega, hs.new h9 ha hb (fun h => by omega)⟩
          · show _ < _; dsimp only; omega
          repeat (first | exact Out.refl _ _ | refine Out.put rfl ?_ | refine Out.puts rfl ?_ | refine Out.scr ?_ | refine Out.scr' rfl ?_)
  · refine S.nil ?_
    refine S.if_f rfl ?_
    refine TC.exit ?_
    refine TC.seq ?_
    refine TC.region ?_
    refine S.q rfl rfl (Qt.move (by conv => lhs; whnf)) ?_
    refine S.q rfl rfl (Qt.assign (by conv => lhs; whnf)) ?_
    refine S.nil ?_
    refine TC.ret ?_
    refine finQ.ret (RVs.tmp (by conv => lhs; whnf) RVs.nil) (Sub.refl _) ?_
    obtain rfl : k = xs.length := by omega
    obtain rfl := hs.done
    exact ⟨O, d, rfl, rfl⟩
end Go.Proofs.YtlneklemjfefpaaDoor
