/-
  Walks: the proof of a tree's indices. Printed by a program of ours.
-/
import Derived.Test.YtlneklemjfefpaaDoorUB
namespace Go.Proofs.YtlneklemjfefpaaDoor
open Go.E
set_option linter.unusedVariables false
set_option maxRecDepth 4000


set_option maxHeartbeats 400000 in
theorem right10_walk (height : Nat) (hh : height ≤ 32) (A : Option Addr) (c : Nat) (xs : List Nat) (w0 : World) (hlow : ∀ x ∈ xs, x < 18446744073709551616) (hR : Ro w0 [] (SlA A (u64s xs))) :
    Calls Tryd.prog 67 #[.int .i64 (height : Int), .slice A xs.length c] w0 (Post w0 [] fun v L => v = .bool (decide (idxOk height xs)) ∧ L = []) := by
  refine Calls.of (L := []) (n := 48) (rs := [.tmp 4]) Tryd.func67 rfl rfl rfl (Nat.le_of_ble_eq_true rfl) (Sat.nil _) ?_
  refine TC.seq ?_
  refine TC.region ?_
  refine S.q rfl rfl (Qt.assign (by conv => lhs; whnf)) ?_
  refine S.nil ?_
  refine TC.seq ?_
  refine TC.seq ?_
  refine TC.region ?_
  refine S.q rfl rfl (Qt.move (by conv => lhs; whnf)) ?_
  refine S.dec rfl rfl (Qt.lt (b := 0) rfl rfl) (fun h8 => ?_) (fun h8 => ?_)
  · refine S.q rfl rfl (Qt.move (by conv => lhs; whnf)) ?_
    refine S.pass rfl rfl ?_
    refine S.pass rfl rfl ?_
    refine S.q rfl rfl (Qt.pick_t rfl (by conv => lhs; whnf)) ?_
    refine S.q rfl rfl (Qt.move (by conv => lhs; whnf)) ?_
    refine S.pass rfl rfl ?_
    refine S.pass rfl rfl ?_
    refine S.pass rfl rfl ?_
    refine S.q rfl rfl (Qt.pick_t rfl (by conv => lhs; whnf)) ?_
    refine S.q rfl rfl (Qt.move (by conv => lhs; whnf)) ?_
    refine S.pass rfl rfl ?_
    refine S.pass rfl rfl ?_
    refine S.pass rfl rfl ?_
    refine S.q rfl rfl (Qt.pick_t rfl (by conv => lhs; whnf)) ?_
    refine S.nil ?_
    refine S.if_t rfl ?_
    refine TC.seq ?_
    refine TC.region ?_
    refine S.q rfl rfl (Qt.assign (by conv => lhs; whnf)) ?_
    refine S.nil ?_
    refine TC.ret ?_
    refine finQ.ret (RVs.tmp (by conv => lhs; whnf) RVs.nil) (Sub.nil _) ?_
    first
      | exact ⟨(congrArg Value.bool (decide_eq_false (fun h => by have h1 := h.1; have h2 := h.2.1; omega))).symm, rfl⟩
      | exact ⟨(congrArg Value.bool (decide_eq_false (fun h => by have h3 := (h.2.2 k (by omega)).1; exact (fun h4 => h33 (Nat.div_eq_of_lt h4)) h3))).symm, rfl⟩
      | exact ⟨(congrArg Value.bool (decide_eq_false (fun h => by have h3 := (h.2.2 k (by omega)).2 (by omega); omega))).symm, rfl⟩
      | exact ⟨(congrArg Value.bool (decide_eq_true ⟨by omega, by omega, by (obtain rfl : k = xs.length := by omega); exact hto⟩)).symm, rfl⟩
  · refine S.q rfl rfl (Qt.move (by conv => lhs; whnf)) ?_
    refine S.qg rfl rfl rfl (Qt.move (by conv => lhs; whnf)) ?_
    refine S.qg rfl rfl rfl (Qt.dF (Qt.gt (b := 32) rfl rfl) (by omega)) ?_
    refine S.q rfl rfl (Qt.pick_f rfl (by conv => lhs; whnf)) ?_
    refine S.q rfl rfl (Qt.move (by conv => lhs; whnf)) ?_
    refine S.qg rfl rfl rfl (Qt.move (by conv => lhs; whnf)) ?_
    refine S.qg rfl rfl rfl (Qt.len_slice Tryd.underlying71 rfl) ?_
    refine S.decg rfl rfl rfl (Qt.lt (b := 1) rfl rfl) (fun h16 => ?_) (fun h16 => ?_)
    · refine S.q rfl rfl (Qt.pick_f rfl (by conv => lhs; whnf)) ?_
      refine S.q rfl rfl (Qt.move (by conv => lhs; whnf)) ?_
      refine S.pass rfl rfl ?_
      refine S.pass rfl rfl ?_
      refine S.pass rfl rfl ?_
      refine S.q rfl rfl (Qt.pick_t rfl (by conv => lhs; whnf)) ?_
      refine S.nil ?_
      refine S.if_t rfl ?_
      refine TC.seq ?_
      refine TC.region ?_
      refine S.q rfl rfl (Qt.assign (by conv => lhs; whnf)) ?_
      refine S.nil ?_
      refine TC.ret ?_
      refine finQ.ret (RVs.tmp (by conv => lhs; whnf) RVs.nil) (Sub.nil _) ?_
      first
        | exact ⟨(congrArg Value.bool (decide_eq_false (fun h => by have h1 := h.1; have h2 := h.2.1; omega))).symm, rfl⟩
        | exact ⟨(congrArg Value.bool (decide_eq_false (fun h => by have h3 := (h.2.2 k (by omega)).1; exact (fun h4 => h33 (Nat.div_eq_of_lt h4)) h3))).symm, rfl⟩
        | exact ⟨(congrArg Value.bool (decide_eq_false (fun h => by have h3 := (h.2.2 k (by omega)).2 (by omega); omega))).symm, rfl⟩
        | exact ⟨(congrArg Value.bool (decide_eq_true ⟨by omega, by omega, by (obtain rfl : k = xs.length := by omega); exact hto⟩)).symm, rfl⟩
    · refine S.q rfl rfl (Qt.pick_f rfl (by conv => lhs; whnf)) ?_
      refine S.q rfl rfl (Qt.move (by conv => lhs; whnf)) ?_
      refine S.qg rfl rfl rfl (Qt.move (by conv => lhs; whnf)) ?_
      refine S.qg rfl rfl rfl (Qt.len_slice Tryd.underlying71 rfl) ?_
      refine S.decg rfl rfl rfl (Qt.gt (b := 256) rfl rfl) (fun h21 => ?_) (fun h21 => ?_)
      · refine S.q rfl rfl (Qt.pick_f rfl (by conv => lhs; whnf)) ?_
        refine S.nil ?_
        refine S.if_t rfl ?_
        refine TC.seq ?_
        refine TC.region ?_
        refine S.q rfl rfl (Qt.assign (by conv => lhs; whnf)) ?_
        refine S.nil ?_
        refine TC.ret ?_
        refine finQ.ret (RVs.tmp (by conv => lhs; whnf) RVs.nil) (Sub.nil _) ?_
        first
          | exact ⟨(congrArg Value.bool (decide_eq_false (fun h => by have h1 := h.1; have h2 := h.2.1; omega))).symm, rfl⟩
          | exact ⟨(congrArg Value.bool (decide_eq_false (fun h => by have h3 := (h.2.2 k (by omega)).1; exact (fun h4 => h33 (Nat.div_eq_of_lt h4)) h3))).symm, rfl⟩
          | exact ⟨(congrArg Value.bool (decide_eq_false (fun h => by have h3 := (h.2.2 k (by omega)).2 (by omega); omega))).symm, rfl⟩
          | exact ⟨(congrArg Value.bool (decide_eq_true ⟨by omega, by omega, by (obtain rfl : k = xs.length := by omega); exact hto⟩)).symm, rfl⟩
      · refine S.q rfl rfl (Qt.pick_f rfl (by conv => lhs; whnf)) ?_
        refine S.nil ?_
        refine S.if_f rfl ?_
        refine TC.skip ?_
        refine TC.seq ?_
        refine TC.seq ?_
        refine TC.region ?_
        refine S.q rfl rfl (Qt.move (by conv => lhs; whnf)) ?_
        refine S.q rfl rfl (Qt.len_slice Tryd.underlying71 rfl) ?_
        refine S.q rfl rfl (Qt.move (by conv => lhs; whnf)) ?_
        refine S.nil ?_
        refine TC.block ?_
        refine TC.loop (γ := Nat) [26, 27, 28, 29, 5, 6, 30, 31, 32, 33, 34, 35, 36, 37, 38, 39, 40, 41, 42, 43, 44, 45, 46, 4, 47, 25] (fun k => [(25, .int .i64 (k : Int))]) (fun _ => _) (fun k => k ≤ xs.length ∧ idxTo height xs k) (fun k => xs.length - k) (0)
          ⟨Nat.zero_le _, idxTo_zero height xs⟩ ⟨Out.refl _ _, (List.forall_mem_cons.2 ⟨rfl, (fun _ h => nomatch h)⟩)⟩ (Sub.refl _) ?_
        rintro k u ⟨hk, hto⟩
        refine TC.seq ?_
        refine TC.region ?_
        refine S.dec rfl rfl (Qt.lt rfl rfl) (fun h26 => ?_) (fun h26 => ?_)
        · refine S.nil ?_
          refine TC.seq ?_
          refine S.if_t rfl ?_
          refine TC.skip ?_
          refine TC.seq ?_
          refine TC.block ?_
          refine TC.seq ?_
          refine TC.region ?_
          refine S.q rfl rfl (Qt.move (by conv => lhs; whnf)) ?_
          refine S.q rfl rfl (Qt.index Tryd.underlying71 Tryd.cells24 rfl rfl (by omega) (Has.ro hR) (by rw [u64s_len]; omega)) ?_
          refine S.q rfl rfl (Qt.load rfl (Ld.sl (v := .int .u64 ((xs.getD (k) 0 : Nat) : Int)) (Has.ro hR) Tryd.one24 (u64s_get1 (by omega)))) ?_
          refine S.q rfl rfl (Qt.assign (by conv => lhs; whnf)) ?_
          refine S.q rfl rfl (Qt.assign (by conv => lhs; whnf)) ?_
          refine S.nil ?_
          refine TC.seq ?_
          refine TC.region ?_
          refine S.q rfl rfl (Qt.move (by conv => lhs; whnf)) ?_
          refine S.q rfl rfl (Qt.move (by conv => lhs; whnf)) ?_
          refine S.q rfl rfl (Qt.shrN rfl rfl (by have := hlow _ (getD_mem (k := k) 0 h26); simp only [kmax]; omega)) ?_
          refine S.dec rfl rfl (Qt.ne (b := 0) rfl rfl) (fun h33 => ?_) (fun h33 => ?_)
          · refine S.q rfl rfl (Qt.move (by conv => lhs; whnf)) ?_
            refine S.pass rfl rfl ?_
            refine S.pass rfl rfl ?_
            refine S.pass rfl rfl ?_
            refine S.pass rfl rfl ?_
            refine S.pass rfl rfl ?_
            refine S.pass rfl rfl ?_
            refine S.pass rfl rfl ?_
            refine S.pass rfl rfl ?_
            refine S.pass rfl rfl ?_
            refine S.pass rfl rfl ?_
            refine S.pass rfl rfl ?_
            refine S.q rfl rfl (Qt.pick_t rfl (by conv => lhs; whnf)) ?_
            refine S.nil ?_
            refine S.if_t rfl ?_
            refine TC.seq ?_
            refine TC.region ?_
            refine S.q rfl rfl (Qt.assign (by conv => lhs; whnf)) ?_
            refine S.nil ?_
            refine TC.ret ?_
            refine finQ.ret (RVs.tmp (by conv => lhs; whnf) RVs.nil) (Sub.nil _) ?_
            first
              | exact ⟨(congrArg Value.bool (decide_eq_false (fun h => by have h1 := h.1; have h2 := h.2.1; omega))).symm, rfl⟩
              | exact ⟨(congrArg Value.bool (decide_eq_false (fun h => by have h3 := (h.2.2 k (by omega)).1; exact (fun h4 => h33 (Nat.div_eq_of_lt h4)) h3))).symm, rfl⟩
              | exact ⟨(congrArg Value.bool (decide_eq_false (fun h => by have h3 := (h.2.2 k (by omega)).2 (by omega); omega))).symm, rfl⟩
              | exact ⟨(congrArg Value.bool (decide_eq_true ⟨by omega, by omega, by (obtain rfl : k = xs.length := by omega); exact hto⟩)).symm, rfl⟩
          · refine S.q rfl rfl (Qt.move (by conv => lhs; whnf)) ?_
            refine S.qg rfl rfl rfl (Qt.move (by conv => lhs; whnf)) ?_
            refine S.decg rfl rfl rfl (Qt.gt (b := 0) rfl rfl) (fun h36 => ?_) (fun h36 => ?_)
            · refine S.qg rfl rfl rfl (Qt.move (by conv => lhs; whnf)) ?_
              refine S.qg rfl rfl rfl (Qt.move (by conv => lhs; whnf)) ?_
              refine S.qg rfl rfl rfl (Qt.move (by conv => lhs; whnf)) ?_
              refine S.qg rfl rfl rfl (Qt.sub (b := 1) rfl rfl (by omega) (by simp only [kmax]; omega)) ?_
              refine S.qg rfl rfl rfl (Qt.index Tryd.underlying71 Tryd.cells24 rfl rfl (by omega) (Has.ro hR) (by rw [u64s_len]; omega)) ?_
              refine S.qg rfl rfl rfl (Qt.load rfl (Ld.sl (v := .int .u64 ((xs.getD (k - 1) 0 : Nat) : Int)) (Has.ro hR) Tryd.one24 (u64s_get1 (by omega)))) ?_
              refine S.qg rfl rfl rfl (Qt.move (by conv => lhs; whnf)) ?_
              refine S.decg rfl rfl rfl (Qt.ge rfl rfl) (fun h44 => ?_) (fun h44 => ?_)
              · refine S.qg rfl rfl rfl (Qt.pick_t rfl (by conv => lhs; whnf)) ?_
                refine S.q rfl rfl (Qt.pick_f rfl (by conv => lhs; whnf)) ?_
                refine S.nil ?_
                refine S.if_t rfl ?_
                refine TC.seq ?_
                refine TC.region ?_
                refine S.q rfl rfl (Qt.assign (by conv => lhs; whnf)) ?_
                refine S.nil ?_
                refine TC.ret ?_
                refine finQ.ret (RVs.tmp (by conv => lhs; whnf) RVs.nil) (Sub.nil _) ?_
                first
                  | exact ⟨(congrArg Value.bool (decide_eq_false (fun h => by have h1 := h.1; have h2 := h.2.1; omega))).symm, rfl⟩
                  | exact ⟨(congrArg Value.bool (decide_eq_false (fun h => by have h3 := (h.2.2 k (by omega)).1; exact (fun h4 => h33 (Nat.div_eq_of_lt h4)) h3))).symm, rfl⟩
                  | exact ⟨(congrArg Value.bool (decide_eq_false (fun h => by have h3 := (h.2.2 k (by omega)).2 (by omega); omega))).symm, rfl⟩
                  | exact ⟨(congrArg Value.bool (decide_eq_true ⟨by omega, by omega, by (obtain rfl : k = xs.length := by omega); exact hto⟩)).symm, rfl⟩
              · refine S.qg rfl rfl rfl (Qt.pick_t rfl (by conv => lhs; whnf)) ?_
                refine S.q rfl rfl (Qt.pick_f rfl (by conv => lhs; whnf)) ?_
                refine S.nil ?_
                refine S.if_f rfl ?_
                refine TC.skip ?_
                refine TC.region ?_
                refine S.q rfl rfl (Qt.add (b := 1) rfl rfl (by simp only [kmax]; omega)) ?_
                refine S.q rfl rfl (Qt.move (by conv => lhs; whnf)) ?_
                refine S.nil ?_
                refine ⟨k + 1, ?_, ?_, ⟨?_, (List.forall_mem_cons.2 ⟨rfl, (fun _ h => nomatch h)⟩)⟩, Sub.refl _⟩
                · exact ⟨by show _ ≤ _; omega, idxTo_succ hto (lt_of_div0 (Decidable.not_not.1 h33)) (fun hk0 => by omega)⟩
                · show _ < _; dsimp only; omega
                repeat (first | exact Out.refl _ _ | refine Out.put rfl ?_ | refine Out.puts rfl ?_ | refine Out.scr ?_ | refine Out.scr' rfl ?_)
            · refine S.qg rfl rfl rfl (Qt.move (by conv => lhs; whnf)) ?_
              refine S.pass rfl rfl ?_
              refine S.pass rfl rfl ?_
              refine S.pass rfl rfl ?_
              refine S.pass rfl rfl ?_
              refine S.pass rfl rfl ?_
              refine S.pass rfl rfl ?_
              refine S.pass rfl rfl ?_
              refine S.qg rfl rfl rfl (Qt.pick_f rfl (by conv => lhs; whnf)) ?_
              refine S.q rfl rfl (Qt.pick_f rfl (by conv => lhs; whnf)) ?_
              refine S.nil ?_
              refine S.if_f rfl ?_
              refine TC.skip ?_
              refine TC.region ?_
              refine S.q rfl rfl (Qt.add (b := 1) rfl rfl (by simp only [kmax]; omega)) ?_
              refine S.q rfl rfl (Qt.move (by conv => lhs; whnf)) ?_
              refine S.nil ?_
              refine ⟨k + 1, ?_, ?_, ⟨?_, (List.forall_mem_cons.2 ⟨rfl, (fun _ h => nomatch h)⟩)⟩, Sub.refl _⟩
              · exact ⟨by show _ ≤ _; omega, idxTo_succ hto (lt_of_div0 (Decidable.not_not.1 h33)) (fun hk0 => by omega)⟩
              · show _ < _; dsimp only; omega
              repeat (first | exact Out.refl _ _ | refine Out.put rfl ?_ | refine Out.puts rfl ?_ | refine Out.scr ?_ | refine Out.scr' rfl ?_)
        · refine S.nil ?_
          refine TC.seq ?_
          refine S.if_f rfl ?_
          refine TC.exit ?_
          refine TC.seq ?_
          refine TC.region ?_
          refine S.q rfl rfl (Qt.assign (by conv => lhs; whnf)) ?_
          refine S.nil ?_
          refine TC.ret ?_
          refine finQ.ret (RVs.tmp (by conv => lhs; whnf) RVs.nil) (Sub.nil _) ?_
          first
            | exact ⟨(congrArg Value.bool (decide_eq_false (fun h => by have h1 := h.1; have h2 := h.2.1; omega))).symm, rfl⟩
            | exact ⟨(congrArg Value.bool (decide_eq_false (fun h => by have h3 := (h.2.2 k (by omega)).1; exact (fun h4 => h33 (Nat.div_eq_of_lt h4)) h3))).symm, rfl⟩
            | exact ⟨(congrArg Value.bool (decide_eq_false (fun h => by have h3 := (h.2.2 k (by omega)).2 (by omega); omega))).symm, rfl⟩
            | exact ⟨(congrArg Value.bool (decide_eq_true ⟨by omega, by omega, by (obtain rfl : k = xs.length := by omega); exact hto⟩)).symm, rfl⟩
theorem right10_R (height : Nat) (hh : height ≤ 32) (A : Option Addr) (c : Nat) (xs : List Nat) (w0 : World) (hlow : ∀ x ∈ xs, x < 18446744073709551616) (hR : Ro w0 [] (SlA A (u64s xs))) : Calls Tryd.prog 67 #[.int .i64 (height : Int), .slice A xs.length c] w0 (Ret w0 (.bool (decide (idxOk height xs)))) := Calls.ret (right10_walk height hh A c xs w0 hlow hR)

set_option maxHeartbeats 400000 in
theorem right10Z_walk (z : Int) (hz : z < 0 ∨ 32 < z) (A : Option Addr) (c : Nat) (xs : List Nat) (w0 : World) :
    Calls Tryd.prog 67 #[.int .i64 z, .slice A xs.length c] w0 (Post w0 [] fun v L => v = .bool false ∧ L = []) := by
  refine Calls.of (L := []) (n := 48) (rs := [.tmp 4]) Tryd.func67 rfl rfl rfl (Nat.le_of_ble_eq_true rfl) (Sat.nil _) ?_
  refine TC.seq ?_
  refine TC.region ?_
  refine S.q rfl rfl (Qt.assign (by conv => lhs; whnf)) ?_
  refine S.nil ?_
  refine TC.seq ?_
  refine TC.seq ?_
  refine TC.region ?_
  refine S.q rfl rfl (Qt.move (by conv => lhs; whnf)) ?_
  refine S.dec rfl rfl (Qt.lti rfl rfl) (fun h8 => ?_) (fun h8 => ?_)
  · refine S.q rfl rfl (Qt.move (by conv => lhs; whnf)) ?_
    refine S.pass rfl rfl ?_
    refine S.pass rfl rfl ?_
    refine S.q rfl rfl (Qt.pick_t rfl (by conv => lhs; whnf)) ?_
    refine S.q rfl rfl (Qt.move (by conv => lhs; whnf)) ?_
    refine S.pass rfl rfl ?_
    refine S.pass rfl rfl ?_
    refine S.pass rfl rfl ?_
    refine S.q rfl rfl (Qt.pick_t rfl (by conv => lhs; whnf)) ?_
    refine S.q rfl rfl (Qt.move (by conv => lhs; whnf)) ?_
    refine S.pass rfl rfl ?_
    refine S.pass rfl rfl ?_
    refine S.pass rfl rfl ?_
    refine S.q rfl rfl (Qt.pick_t rfl (by conv => lhs; whnf)) ?_
    refine S.nil ?_
    refine S.if_t rfl ?_
    refine TC.seq ?_
    refine TC.region ?_
    refine S.q rfl rfl (Qt.assign (by conv => lhs; whnf)) ?_
    refine S.nil ?_
    refine TC.ret ?_
    refine finQ.ret (RVs.tmp (by conv => lhs; whnf) RVs.nil) (Sub.nil _) ?_
    exact ⟨rfl, rfl⟩
  · refine S.q rfl rfl (Qt.move (by conv => lhs; whnf)) ?_
    refine S.qg rfl rfl rfl (Qt.move (by conv => lhs; whnf)) ?_
    refine S.qg rfl rfl rfl (Qt.dT (Qt.gti rfl rfl) (by omega)) ?_
    refine S.q rfl rfl (Qt.pick_f rfl (by conv => lhs; whnf)) ?_
    refine S.q rfl rfl (Qt.move (by conv => lhs; whnf)) ?_
    refine S.pass rfl rfl ?_
    refine S.pass rfl rfl ?_
    refine S.pass rfl rfl ?_
    refine S.q rfl rfl (Qt.pick_t rfl (by conv => lhs; whnf)) ?_
    refine S.q rfl rfl (Qt.move (by conv => lhs; whnf)) ?_
    refine S.pass rfl rfl ?_
    refine S.pass rfl rfl ?_
    refine S.pass rfl rfl ?_
    refine S.q rfl rfl (Qt.pick_t rfl (by conv => lhs; whnf)) ?_
    refine S.nil ?_
    refine S.if_t rfl ?_
    refine TC.seq ?_
    refine TC.region ?_
    refine S.q rfl rfl (Qt.assign (by conv => lhs; whnf)) ?_
    refine S.nil ?_
    refine TC.ret ?_
    refine finQ.ret (RVs.tmp (by conv => lhs; whnf) RVs.nil) (Sub.nil _) ?_
    exact ⟨rfl, rfl⟩
theorem right10Z_R (z : Int) (hz : z < 0 ∨ 32 < z) (A : Option Addr) (c : Nat) (xs : List Nat) (w0 : World) : Calls Tryd.prog 67 #[.int .i64 z, .slice A xs.length c] w0 (Ret w0 (.bool false)) := Calls.ret (right10Z_walk z hz A c xs w0)

theorem right10_T (height : Nat) (hh : height ≤ 32) (A : Option Addr) (c : Nat) (xs : List Nat) (hi : idxOk height xs) (w0 : World) (hlow : ∀ x ∈ xs, x < 18446744073709551616) (hR : Ro w0 [] (SlA A (u64s xs))) : Calls Tryd.prog 67 #[.int .i64 (height : Int), .slice A xs.length c] w0 (Ret w0 (.bool true)) := by
  have h := right10_R height hh A c xs w0 hlow hR
  rwa [decide_eq_true hi] at h
theorem right10_F (height : Nat) (hh : height ≤ 32) (A : Option Addr) (c : Nat) (xs : List Nat) (hi : ¬ idxOk height xs) (w0 : World) (hlow : ∀ x ∈ xs, x < 18446744073709551616) (hR : Ro w0 [] (SlA A (u64s xs))) : Calls Tryd.prog 67 #[.int .i64 (height : Int), .slice A xs.length c] w0 (Ret w0 (.bool false)) := by
  have h := right10_R height hh A c xs w0 hlow hR
  rwa [decide_eq_false hi] at h
set_option maxHeartbeats 400000 in
theorem mk1_walk (E : Nat → H32) (tb mb height : Nat) (ms : Tm) (hh : height ≤ 32) (tv eb ob : Nat) (done : Sd) (hl : done.length ≤ 16384) (O : Option Addr) (d : Nat) (l p : Nat) (ho : okAt height (l, p)) (w0 : World) (hL : Sat w0 [Blk ob 44 [.slice O done.length d], OwnA 23 32 O (done).length d (hcs ((done).map (fun a => getT E ms a)))]) (hB : Ro w0 (fps [Blk ob 44 [.slice O done.length d], OwnA 23 32 O (done).length d (hcs ((done).map (fun a => getT E ms a)))]) (Blk tb 150 (treeCs E height mb))) (hM : Ro w0 (fps [Blk ob 44 [.slice O done.length d], OwnA 23 32 O (done).length d (hcs ((done).map (fun a => getT E ms a)))]) (MapA mb encAt hv (ms))) (hV : Ro w0 (fps [Blk ob 44 [.slice O done.length d], OwnA 23 32 O (done).length d (hcs ((done).map (fun a => getT E ms a)))]) (Blk tv 35 [.pointer (some ⟨tb, 0, none⟩)])) :
    Calls Tryd.prog 111 #[.int .i64 (l : Int), .int .u64 (p : Int), .pointer (some ⟨tv, 0, none⟩), .pointer (some ⟨eb, 0, none⟩), .pointer (some ⟨ob, 0, none⟩)] w0 (Post w0 (fps [Blk ob 44 [.slice O done.length d], OwnA 23 32 O (done).length d (hcs ((done).map (fun a => getT E ms a)))]) fun v L => ∃ O2 d2, L = [Blk ob 44 [.slice O2 (done ++ [(l, p)]).length d2], OwnA 23 32 O2 (done ++ [(l, p)]).length d2 (hcs ((done ++ [(l, p)]).map (fun a => getT E ms a)))]) := by
  refine Calls.of (L := [Blk ob 44 [.slice O done.length d], OwnA 23 32 O (done).length d (hcs ((done).map (fun a => getT E ms a)))]) (n := 23) (rs := []) Tryd.func111 rfl rfl rfl (Nat.le_of_ble_eq_true rfl) (hL) ?_
  refine TC.seq ?_
  refine TC.region ?_
  refine S.q rfl rfl (Qt.load rfl (Ld.one (Has.ro hV) Tryd.one35 rfl)) ?_
  refine S.q rfl rfl (Qt.move (by conv => lhs; whnf)) ?_
  refine S.q rfl rfl (Qt.move (by conv => lhs; whnf)) ?_
  refine S.opS rfl rfl (OpV.con0 Tryd.ent33 rfl (fun w hw => Calls.ret (node_walk E tb mb height ms l p ho hh w (Rd.ro hB w hw) (Rd.ro hM w hw))) ?_)
  refine S.q rfl rfl (Qt.move (by conv => lhs; whnf)) ?_
  refine S.q rfl rfl (Qt.extract rfl rfl) ?_
  refine S.q rfl rfl (Qt.extract rfl rfl) ?_
  refine S.opS rfl rfl (OpV.alloc Tryd.zero23 (fun b7 => ?_))
  refine S.opN rfl (OpV.storeV0 (v := hv (_)) rfl rfl (hv_size Tryd.cells23) (hv_all _) (hv_len _) ?_)
  refine S.q rfl rfl (Qt.assign (by conv => lhs; whnf)) ?_
  refine S.nil ?_
  refine TC.seq ?_
  refine TC.seq ?_
  refine TC.region ?_
  refine S.q rfl rfl (Qt.move (by conv => lhs; whnf)) ?_
  refine S.q rfl rfl (Qt.nenil_nil Tryd.underlying27 rfl) ?_
  refine S.nil ?_
  refine S.if_f rfl ?_
  refine TC.skip ?_
  refine TC.region ?_
  refine S.q rfl rfl (Qt.load rfl (Ld.one (Has.at 1 rfl) Tryd.one44 (rfl))) ?_
  refine S.q rfl rfl (Qt.load rfl (Ld.hash1 (x := getT E ms (l, p)) (Has.at 0 rfl) Tryd.row23 Tryd.cells23)) ?_
  refine S.opS rfl rfl (OpV.slice1 (bytes := 32) (v := hv (getT E ms (l, p))) Tryd.underlying44 Tryd.elem23 (by decide) rfl (hv_len _) (fun g21 => ?_))
  refine S.opS rfl rfl (OpV.app3 (bytes := 32) (news := hvl (getT E ms (l, p))) Tryd.underlying44 Tryd.elem23 rfl rfl (Has.blk (cs := hvl (getT E ms (l, p))) (Has.at 0 rfl)) (by rw [hvl_length]) (bytesL_one _) (by simp only [maxLen]; omega) (by omega) (fun O2 d2 => ?_))
  refine S.opN rfl (OpV.storeV2 rfl (by conv => lhs; whnf) (by exact Tryd.cells44) (by rfl) (by rfl) ?_)
  refine S.nil ?_
  refine finQ.normal RVs.nil (Sub.trans (Sub.keep _ (Sub.keep _ (Sub.drop _ (Sub.drop _ (Sub.nil []))))) (Sub.trans (Sub.keep _ (Sub.trans (Sub.keep _ (Sub.refl _)) (Sub.of_perm (List.perm_middle (l₁ := [_, _]))))) (Sub.of_perm (List.perm_middle (l₁ := [_, _]))))) ?_
  refine ⟨O2, d2, ?_⟩
  simp only [len_snoc, List.map_append, hcs_append, List.map_cons, List.map_nil, hcs_cons, hcs_nil, List.append_nil]
  rfl
set_option maxHeartbeats 400000 in
theorem ct1_walk (nb m l p : Nat) (hm : m ≤ 16384) (w0 : World) (hL : Sat w0 [Blk nb 3 [.int .i64 ((m : Nat) : Int)]]) :
    Calls Tryd.prog 112 #[.int .i64 (l : Int), .int .u64 (p : Int), .pointer (some ⟨nb, 0, none⟩)] w0 (Post w0 (fps [Blk nb 3 [.int .i64 ((m : Nat) : Int)]]) fun v L => L = [Blk nb 3 [.int .i64 ((m + 1 : Nat) : Int)]]) := by
  refine Calls.of (L := [Blk nb 3 [.int .i64 ((m : Nat) : Int)]]) (n := 7) (rs := []) Tryd.func112 rfl rfl rfl (Nat.le_of_ble_eq_true rfl) (hL) ?_
  refine TC.region ?_
  refine S.q rfl rfl (Qt.load rfl (Ld.one (Has.at 0 rfl) Tryd.one3 (rfl))) ?_
  refine S.q rfl rfl (Qt.add (b := 1) rfl rfl (by simp only [kmax]; omega)) ?_
  refine S.opN rfl (OpV.storeV0 rfl (by conv => lhs; whnf) (by exact Tryd.cells3) (by rfl) (by rfl) ?_)
  refine S.nil ?_
  refine finQ.normal RVs.nil (Sub.refl _) ?_
  rfl
set_option maxHeartbeats 800000 in
theorem make10_walk (E : Nat → H32) (tb mb height : Nat) (ms : Tm) (hh : height ≤ 32) (A : Option Addr) (c : Nat) (xs : List Nat) (hc : xs.length ≤ c) (hi : idxOk height xs) (w0 : World) (hB : Ro w0 [] (Blk tb 150 (treeCs E height mb))) (hM : Ro w0 [] (MapA mb encAt hv (ms))) (hlow : ∀ x ∈ xs, x < 18446744073709551616) (hR : Ro w0 [] (SlA A (u64s xs))) :
    Calls Tryd.prog 63 #[.pointer (some ⟨tb, 0, none⟩), .slice A xs.length c] w0 (Post w0 [] fun v L => ∃ O d, v = .tuple #[.slice O (spots height xs 0).length d, .nilIface] ∧ L = [OwnA 23 32 O (spots height xs 0).length d (hcs ((spots height xs 0).map (fun a => getT E ms a)))]) := by
  refine Calls.of (L := []) (n := 28) (rs := [.tmp 4, .tmp 5]) Tryd.func63 rfl rfl rfl (Nat.le_of_ble_eq_true rfl) (Sat.nil _) ?_
  have hsp : (spots height xs 0).length ≤ 8193 := by have h1 := spots_len height xs 0; have h2 : xs.length * height ≤ 256 * 32 := Nat.mul_le_mul hi.2.1 hh; omega
  refine TC.ownNil 23 32 ?_
  refine TC.seq ?_
  refine TC.region ?_
  refine S.opS rfl rfl (OpV.box (by conv => lhs; whnf) (fun b2 => ?_))
  refine S.q rfl rfl (Qt.assign (by conv => lhs; whnf)) ?_
  refine S.q rfl rfl (Qt.assign (by conv => lhs; whnf)) ?_
  refine S.nil ?_
  refine TC.seq ?_
  refine TC.block ?_
  refine TC.seq ?_
  refine TC.region ?_
  refine S.q rfl rfl (Qt.load rfl (Ld.one (Has.at 0 rfl) Tryd.one35 rfl)) ?_
  refine S.q rfl rfl (Qt.eqp_some Tryd.underlying35 rfl) ?_
  refine S.q rfl rfl (Qt.assign (by conv => lhs; whnf)) ?_
  refine S.nil ?_
  refine S.if_f rfl ?_
  refine TC.seq ?_
  refine TC.region ?_
  refine S.q rfl rfl (Qt.load rfl (Ld.one (Has.at 0 rfl) Tryd.one35 rfl)) ?_
  refine S.opS rfl rfl (OpV.con0 Tryd.ent85 rfl (fun w hw => height85_R E tb mb height w (Rd.ro hB w hw)) ?_)
  refine S.q rfl rfl (Qt.move (by conv => lhs; whnf)) ?_
  refine S.opS rfl rfl (OpV.con0 Tryd.ent67 rfl (fun w hw => right10_T height hh A c xs hi w hlow (Rd.ro hR w hw)) ?_)
  refine S.q rfl rfl (Qt.not_t rfl) ?_
  refine S.q rfl rfl (Qt.assign (by conv => lhs; whnf)) ?_
  refine S.nil ?_
  refine S.if_f rfl ?_
  refine TC.skip ?_
  refine TC.seq ?_
  refine TC.region ?_
  refine S.opS rfl rfl (OpV.alloc Tryd.zero44 (fun b6 => ?_))
  refine S.nil ?_
  refine TC.seq ?_
  refine TC.region ?_
  refine S.opS rfl rfl (OpV.alloc Tryd.zero27 (fun b7 => ?_))
  refine S.nil ?_
  refine TC.seq ?_
  refine TC.region ?_
  refine S.q rfl rfl (Qt.move (by conv => lhs; whnf)) ?_
  refine S.q rfl rfl (Qt.load rfl (Ld.one (Has.at 2 rfl) Tryd.one35 rfl)) ?_
  refine S.opS rfl rfl (OpV.con0 Tryd.ent85 rfl (fun w hw => height85_R E tb mb height w (Rd.ro hB w hw)) ?_)
  refine S.q rfl rfl (Qt.makeFuncL (fs := []) (cs := [.pointer (some ⟨b2, 0, none⟩), .pointer (some ⟨b7, 0, none⟩), .pointer (some ⟨b6, 0, none⟩)]) rfl rfl) ?_
  refine S.opS rfl rfl (OpV.con (Pre := [Blk b6 44 [.slice none ([] : Sd).length 0], OwnA 23 32 none (([] : Sd)).length 0 (hcs ((([] : Sd)).map (fun a => getT E ms a)))]) (R := _) Tryd.ent110 rfl ((List.perm_middle (l₁ := [_])).trans (List.Perm.cons _ (List.perm_middle (l₁ := [_, _])))) (fun w hw => bes_C 111 #[.pointer (some ⟨b2, 0, none⟩), .pointer (some ⟨b7, 0, none⟩), .pointer (some ⟨b6, 0, none⟩)] Tryd.ent111 height hh (fun done L => ∃ O d, L = [Blk b6 44 [.slice O done.length d], OwnA 23 32 O (done).length d (hcs ((done).map (fun a => getT E ms a)))]) w (fps [Blk b6 44 [.slice none ([] : Sd).length 0], OwnA 23 32 none (([] : Sd)).length 0 (hcs ((([] : Sd)).map (fun a => getT E ms a)))]) (spots height xs 0).length (fun a done L w' ho hlt hJ hst => by obtain ⟨O, d, rfl⟩ := hJ; exact (mk1_walk E tb mb height ms hh b2 b7 b6 done (by omega) O d a.1 a.2 ho w' hst.sat (Ro.of_pre (R := []) (by rw [List.append_nil]; exact hst) (Ro.of_pre hw hB)) (Ro.of_pre (R := []) (by rw [List.append_nil]; exact hst) (Ro.of_pre hw hM)) (Ro.of_pre (R := []) (by rw [List.append_nil]; exact hst) (Ro.of_rest hw (List.mem_of_getElem? (i := 1) rfl)))).mono fun e w'' ⟨v, L', q1, q2, O2, d2, q3⟩ => ⟨v, L', q1, q2, O2, d2, q3⟩) height (Nat.le_refl _) 0 xs A c [] _ w (okRoot height) hi.rise hi.root hc hi.2.1 hw.sat.left (Ro.of_pre hw hR) ⟨none, 0, rfl⟩ (St.start hw.sat.left) (by rw [List.length_nil, Nat.zero_add]; exact Nat.le_refl _)) ?_)
  rintro v L' ⟨O, d, rfl⟩
  refine S.nil ?_
  refine TC.seq ?_
  refine TC.seq ?_
  refine TC.region ?_
  refine S.q rfl rfl (Qt.load rfl (Ld.one (Has.at 2 rfl) Tryd.one27 rfl)) ?_
  refine S.q rfl rfl (Qt.nenil_nil Tryd.underlying27 rfl) ?_
  refine S.nil ?_
  refine S.if_f rfl ?_
  refine TC.skip ?_
  refine TC.seq ?_
  refine TC.region ?_
  refine S.q rfl rfl (Qt.load rfl (Ld.one (Has.at 0 rfl) Tryd.one44 (rfl))) ?_
  refine S.q rfl rfl (Qt.assign (by conv => lhs; whnf)) ?_
  refine S.q rfl rfl (Qt.assign (by conv => lhs; whnf)) ?_
  refine S.nil ?_
  refine TC.ret ?_
  refine finQ.ret (RVs.tmp (by conv => lhs; whnf) (RVs.tmp (by conv => lhs; whnf) RVs.nil)) (Sub.trans (Sub.keep _ (Sub.drop _ (Sub.drop _ (Sub.drop _ (Sub.nil []))))) (Sub.trans (Sub.keep _ (Sub.refl _)) (Sub.of_perm (List.perm_middle (l₁ := [_]))))) ?_
  exact ⟨O, d, rfl, rfl⟩
set_option maxHeartbeats 400000 in
theorem make10_walkF (E : Nat → H32) (tb mb height : Nat) (ms : Tm) (hh : height ≤ 32) (A : Option Addr) (c : Nat) (xs : List Nat) (hi : ¬ idxOk height xs) (w0 : World) (hB : Ro w0 [] (Blk tb 150 (treeCs E height mb)))  (hlow : ∀ x ∈ xs, x < 18446744073709551616) (hR : Ro w0 [] (SlA A (u64s xs))) :
    Calls Tryd.prog 63 #[.pointer (some ⟨tb, 0, none⟩), .slice A xs.length c] w0 (Post w0 [] fun v L => v = .tuple #[.slice none 0 0, .iface 58 (.int .i64 1)] ∧ L = []) := by
  refine Calls.of (L := []) (n := 28) (rs := [.tmp 4, .tmp 5]) Tryd.func63 rfl rfl rfl (Nat.le_of_ble_eq_true rfl) (Sat.nil _) ?_
  refine TC.seq ?_
  refine TC.region ?_
  refine S.opS rfl rfl (OpV.box (by conv => lhs; whnf) (fun b2 => ?_))
  refine S.q rfl rfl (Qt.assign (by conv => lhs; whnf)) ?_
  refine S.q rfl rfl (Qt.assign (by conv => lhs; whnf)) ?_
  refine S.nil ?_
  refine TC.seq ?_
  refine TC.block ?_
  refine TC.seq ?_
  refine TC.region ?_
  refine S.q rfl rfl (Qt.load rfl (Ld.one (Has.at 0 rfl) Tryd.one35 rfl)) ?_
  refine S.q rfl rfl (Qt.eqp_some Tryd.underlying35 rfl) ?_
  refine S.q rfl rfl (Qt.assign (by conv => lhs; whnf)) ?_
  refine S.nil ?_
  refine S.if_f rfl ?_
  refine TC.seq ?_
  refine TC.region ?_
  refine S.q rfl rfl (Qt.load rfl (Ld.one (Has.at 0 rfl) Tryd.one35 rfl)) ?_
  refine S.opS rfl rfl (OpV.con0 Tryd.ent85 rfl (fun w hw => height85_R E tb mb height w (Rd.ro hB w hw)) ?_)
  refine S.q rfl rfl (Qt.move (by conv => lhs; whnf)) ?_
  refine S.opS rfl rfl (OpV.con0 Tryd.ent67 rfl (fun w hw => right10_F height hh A c xs hi w hlow (Rd.ro hR w hw)) ?_)
  refine S.q rfl rfl (Qt.not_f rfl) ?_
  refine S.q rfl rfl (Qt.assign (by conv => lhs; whnf)) ?_
  refine S.nil ?_
  refine S.if_t rfl ?_
  refine TC.seq ?_
  refine TC.region ?_
  refine S.q rfl rfl (Qt.makeInterface Tryd.underlying58 (fun _ h => nomatch h) (by conv => lhs; whnf)) ?_
  refine S.q rfl rfl (Qt.assign (by conv => lhs; whnf)) ?_
  refine S.q rfl rfl (Qt.assign (by conv => lhs; whnf)) ?_
  refine S.nil ?_
  refine TC.ret ?_
  refine finQ.ret (RVs.tmp (by conv => lhs; whnf) (RVs.tmp (by conv => lhs; whnf) RVs.nil)) (Sub.nil _) ?_
  exact ⟨rfl, rfl⟩
set_option maxHeartbeats 800000 in
theorem leaves10_walk (E : Nat → H32) (tb mb height : Nat) (ms : Tm) (hh : height ≤ 32) (A : Option Addr) (c : Nat) (xs : List Nat) (hi : idxOk height xs) (w0 : World) (hB : Ro w0 [] (Blk tb 150 (treeCs E height mb))) (hM : Ro w0 [] (MapA mb encAt hv (ms))) (hlow : ∀ x ∈ xs, x < 18446744073709551616) (hR : Ro w0 [] (SlA A (u64s xs))) :
    Calls Tryd.prog 64 #[.pointer (some ⟨tb, 0, none⟩), .slice A xs.length c] w0 (Post w0 [] fun v L => ∃ O d, v = .tuple #[.slice O xs.length d, .nilIface] ∧ L = [OwnA 23 32 O xs.length d (hcs (xs.map (fun x => getT E ms (0, x))))]) := by
  refine Calls.of (L := []) (n := 43) (rs := [.tmp 4, .tmp 5]) Tryd.func64 rfl rfl rfl (Nat.le_of_ble_eq_true rfl) (Sat.nil _) ?_
  have hn := hi.2.1
  refine TC.ownNil 23 32 ?_
  refine TC.seq ?_
  refine TC.region ?_
  refine S.q rfl rfl (Qt.assign (by conv => lhs; whnf)) ?_
  refine S.q rfl rfl (Qt.assign (by conv => lhs; whnf)) ?_
  refine S.nil ?_
  refine TC.seq ?_
  refine TC.block ?_
  refine TC.seq ?_
  refine TC.region ?_
  refine S.q rfl rfl (Qt.move (by conv => lhs; whnf)) ?_
  refine S.q rfl rfl (Qt.eqp_some Tryd.underlying35 rfl) ?_
  refine S.q rfl rfl (Qt.assign (by conv => lhs; whnf)) ?_
  refine S.nil ?_
  refine S.if_f rfl ?_
  refine TC.seq ?_
  refine TC.region ?_
  refine S.q rfl rfl (Qt.move (by conv => lhs; whnf)) ?_
  refine S.opS rfl rfl (OpV.con0 Tryd.ent85 rfl (fun w hw => height85_R E tb mb height w (Rd.ro hB w hw)) ?_)
  refine S.q rfl rfl (Qt.move (by conv => lhs; whnf)) ?_
  refine S.opS rfl rfl (OpV.con0 Tryd.ent67 rfl (fun w hw => right10_T height hh A c xs hi w hlow (Rd.ro hR w hw)) ?_)
  refine S.q rfl rfl (Qt.not_t rfl) ?_
  refine S.q rfl rfl (Qt.assign (by conv => lhs; whnf)) ?_
  refine S.nil ?_
  refine S.if_f rfl ?_
  refine TC.skip ?_
  refine TC.seq ?_
  refine TC.region ?_
  refine S.q rfl rfl (Qt.assign (by conv => lhs; whnf)) ?_
  refine S.nil ?_
  refine TC.seq ?_
  refine TC.seq ?_
  refine TC.region ?_
  refine S.q rfl rfl (Qt.move (by conv => lhs; whnf)) ?_
  refine S.q rfl rfl (Qt.len_slice Tryd.underlying71 rfl) ?_
  refine S.q rfl rfl (Qt.move (by conv => lhs; whnf)) ?_
  refine S.nil ?_
  refine TC.block ?_
  refine TC.loop (γ := Nat × Option Addr × Nat) [25, 26, 27, 8, 29, 30, 31, 28, 32, 33, 9, 10, 34, 35, 36, 4, 5, 37, 38, 39, 40, 6, 41, 24] (fun g => [(24, .int .i64 ((g.1 : Nat) : Int)), (6, .slice g.2.1 g.1 g.2.2)]) (fun g => [OwnA 23 32 g.2.1 g.1 g.2.2 (hcs ((xs.take g.1).map (fun x => getT E ms (0, x))))]) (fun g => g.1 ≤ xs.length) (fun g => xs.length - g.1) ((0, none, 0))
    (Nat.zero_le _) ⟨Out.refl _ _, (List.forall_mem_cons.2 ⟨rfl, (List.forall_mem_cons.2 ⟨rfl, (fun _ h => nomatch h)⟩)⟩)⟩ (Sub.refl _) ?_
  rintro ⟨k, O, d⟩ u hk
  dsimp only at hk
  refine TC.seq ?_
  refine TC.region ?_
  refine S.dec rfl rfl (Qt.lt rfl rfl) (fun h25 => ?_) (fun h25 => ?_)
  · refine S.nil ?_
    refine TC.seq ?_
    refine S.if_t rfl ?_
    refine TC.skip ?_
    refine TC.seq ?_
    refine TC.block ?_
    refine TC.seq ?_
    refine TC.region ?_
    refine S.q rfl rfl (Qt.index Tryd.underlying71 Tryd.cells24 rfl rfl (by omega) (Has.ro hR) (by rw [u64s_len]; omega)) ?_
    refine S.q rfl rfl (Qt.load rfl (Ld.sl (v := .int .u64 ((xs.getD (k) 0 : Nat) : Int)) (Has.ro hR) Tryd.one24 (u64s_get1 (by omega)))) ?_
    refine S.q rfl rfl (Qt.assign (by conv => lhs; whnf)) ?_
    refine S.nil ?_
    refine TC.seq ?_
    refine TC.region ?_
    refine S.q rfl rfl (Qt.move (by conv => lhs; whnf)) ?_
    refine S.q rfl rfl (Qt.move (by conv => lhs; whnf)) ?_
    refine S.opS rfl rfl (OpV.con0 Tryd.ent30 rfl (fun w hw => leaf_R E tb mb height ms (xs.getD k 0) hh (hi.low _ (getD_mem 0 h25)) w (Rd.ro hB w hw) (Rd.ro hM w hw)) ?_)
    refine S.q rfl rfl (Qt.move (by conv => lhs; whnf)) ?_
    refine S.q rfl rfl (Qt.extract rfl rfl) ?_
    refine S.q rfl rfl (Qt.extract rfl rfl) ?_
    refine S.opS rfl rfl (OpV.alloc Tryd.zero23 (fun b9 => ?_))
    refine S.opN rfl (OpV.storeV0 (v := hv (_)) rfl rfl (hv_size Tryd.cells23) (hv_all _) (hv_len _) ?_)
    refine S.q rfl rfl (Qt.assign (by conv => lhs; whnf)) ?_
    refine S.nil ?_
    refine TC.seq ?_
    refine TC.seq ?_
    refine TC.region ?_
    refine S.q rfl rfl (Qt.move (by conv => lhs; whnf)) ?_
    refine S.q rfl rfl (Qt.nenil_nil Tryd.underlying27 rfl) ?_
    refine S.nil ?_
    refine S.if_f rfl ?_
    refine TC.skip ?_
    refine TC.region ?_
    refine S.q rfl rfl (Qt.move (by conv => lhs; whnf)) ?_
    refine S.q rfl rfl (Qt.load rfl (Ld.hash1 (x := getT E ms (0, xs.getD k 0)) (Has.at 0 rfl) Tryd.row23 Tryd.cells23)) ?_
    refine S.opS rfl rfl (OpV.slice1 (bytes := 32) (v := hv (getT E ms (0, xs.getD k 0))) Tryd.underlying44 Tryd.elem23 (by decide) rfl (hv_len _) (fun g39 => ?_))
    refine S.opS rfl rfl (OpV.app2 (bytes := 32) (news := hvl (getT E ms (0, xs.getD k 0))) Tryd.underlying44 Tryd.elem23 rfl rfl (Has.blk (cs := hvl (getT E ms (0, xs.getD k 0))) (Has.at 0 rfl)) (by rw [hvl_length]) (bytesL_one _) (by simp only [maxLen]; omega) (by omega) (fun O' d' => ?_))
    refine S.q rfl rfl (Qt.assign (by conv => lhs; whnf)) ?_
    refine S.nil ?_
    refine TC.region ?_
    refine S.q rfl rfl (Qt.add (b := 1) rfl rfl (by simp only [kmax]; omega)) ?_
    refine S.q rfl rfl (Qt.move (by conv => lhs; whnf)) ?_
    refine S.nil ?_
    refine ⟨(k + 1, O', d'), ?_, ?_, ⟨?_, (List.forall_mem_cons.2 ⟨rfl, (List.forall_mem_cons.2 ⟨rfl, (fun _ h => nomatch h)⟩)⟩)⟩, (by dsimp only; rw [← map_step (fun x => getT E ms (0, x)) 0 h25]; exact Sub.trans (Sub.keep _ (Sub.drop _ (Sub.drop _ (Sub.nil [])))) (Sub.trans (Sub.keep _ (Sub.refl _)) (Sub.of_perm (List.perm_middle (l₁ := [_, _])))))⟩
    · show _ ≤ _; dsimp only; omega
    · show _ < _; dsimp only; omega
    repeat (first | exact Out.refl _ _ | refine Out.put rfl ?_ | refine Out.puts rfl ?_ | refine Out.scr ?_ | refine Out.scr' rfl ?_)
  · refine S.nil ?_
    refine TC.seq ?_
    refine S.if_f rfl ?_
    refine TC.exit ?_
    refine TC.seq ?_
    refine TC.region ?_
    refine S.q rfl rfl (Qt.move (by conv => lhs; whnf)) ?_
    refine S.q rfl rfl (Qt.assign (by conv => lhs; whnf)) ?_
    refine S.q rfl rfl (Qt.assign (by conv => lhs; whnf)) ?_
    refine S.nil ?_
    refine TC.ret ?_
    refine finQ.ret (RVs.tmp (by conv => lhs; whnf) (RVs.tmp (by conv => lhs; whnf) RVs.nil)) (Sub.refl _) ?_
    obtain rfl : k = xs.length := by omega
    exact ⟨O, d, rfl, by rw [List.take_length]⟩
set_option maxHeartbeats 400000 in
theorem leaves10_walkF (E : Nat → H32) (tb mb height : Nat) (ms : Tm) (hh : height ≤ 32) (A : Option Addr) (c : Nat) (xs : List Nat) (hi : ¬ idxOk height xs) (w0 : World) (hB : Ro w0 [] (Blk tb 150 (treeCs E height mb)))  (hlow : ∀ x ∈ xs, x < 18446744073709551616) (hR : Ro w0 [] (SlA A (u64s xs))) :
    Calls Tryd.prog 64 #[.pointer (some ⟨tb, 0, none⟩), .slice A xs.length c] w0 (Post w0 [] fun v L => v = .tuple #[.slice none 0 0, .iface 58 (.int .i64 1)] ∧ L = []) := by
  refine Calls.of (L := []) (n := 43) (rs := [.tmp 4, .tmp 5]) Tryd.func64 rfl rfl rfl (Nat.le_of_ble_eq_true rfl) (Sat.nil _) ?_
  refine TC.seq ?_
  refine TC.region ?_
  refine S.q rfl rfl (Qt.assign (by conv => lhs; whnf)) ?_
  refine S.q rfl rfl (Qt.assign (by conv => lhs; whnf)) ?_
  refine S.nil ?_
  refine TC.seq ?_
  refine TC.block ?_
  refine TC.seq ?_
  refine TC.region ?_
  refine S.q rfl rfl (Qt.move (by conv => lhs; whnf)) ?_
  refine S.q rfl rfl (Qt.eqp_some Tryd.underlying35 rfl) ?_
  refine S.q rfl rfl (Qt.assign (by conv => lhs; whnf)) ?_
  refine S.nil ?_
  refine S.if_f rfl ?_
  refine TC.seq ?_
  refine TC.region ?_
  refine S.q rfl rfl (Qt.move (by conv => lhs; whnf)) ?_
  refine S.opS rfl rfl (OpV.con0 Tryd.ent85 rfl (fun w hw => height85_R E tb mb height w (Rd.ro hB w hw)) ?_)
  refine S.q rfl rfl (Qt.move (by conv => lhs; whnf)) ?_
  refine S.opS rfl rfl (OpV.con0 Tryd.ent67 rfl (fun w hw => right10_F height hh A c xs hi w hlow (Rd.ro hR w hw)) ?_)
  refine S.q rfl rfl (Qt.not_f rfl) ?_
  refine S.q rfl rfl (Qt.assign (by conv => lhs; whnf)) ?_
  refine S.nil ?_
  refine S.if_t rfl ?_
  refine TC.seq ?_
  refine TC.region ?_
  refine S.q rfl rfl (Qt.makeInterface Tryd.underlying58 (fun _ h => nomatch h) (by conv => lhs; whnf)) ?_
  refine S.q rfl rfl (Qt.assign (by conv => lhs; whnf)) ?_
  refine S.q rfl rfl (Qt.assign (by conv => lhs; whnf)) ?_
  refine S.nil ?_
  refine TC.ret ?_
  refine finQ.ret (RVs.tmp (by conv => lhs; whnf) (RVs.tmp (by conv => lhs; whnf) RVs.nil)) (Sub.nil _) ?_
  exact ⟨rfl, rfl⟩
set_option maxHeartbeats 400000 in
theorem count10_walk (height : Nat) (hh : height ≤ 32) (A : Option Addr) (c : Nat) (xs : List Nat) (hc : xs.length ≤ c) (hi : idxOk height xs) (w0 : World) (hlow : ∀ x ∈ xs, x < 18446744073709551616) (hR : Ro w0 [] (SlA A (u64s xs))) :
    Calls Tryd.prog 65 #[.int .i64 (height : Int), .slice A xs.length c] w0 (Post w0 [] fun v L => v = .tuple #[.int .i64 (((spots height xs 0).length : Nat) : Int), .nilIface] ∧ L = []) := by
  refine Calls.of (L := []) (n := 17) (rs := [.tmp 4, .tmp 5]) Tryd.func65 rfl rfl rfl (Nat.le_of_ble_eq_true rfl) (Sat.nil _) ?_
  have hsp : (spots height xs 0).length ≤ 8193 := by have h1 := spots_len height xs 0; have h2 : xs.length * height ≤ 256 * 32 := Nat.mul_le_mul hi.2.1 hh; omega
  refine TC.seq ?_
  refine TC.region ?_
  refine S.q rfl rfl (Qt.assign (by conv => lhs; whnf)) ?_
  refine S.q rfl rfl (Qt.assign (by conv => lhs; whnf)) ?_
  refine S.nil ?_
  refine TC.seq ?_
  refine TC.seq ?_
  refine TC.region ?_
  refine S.q rfl rfl (Qt.move (by conv => lhs; whnf)) ?_
  refine S.q rfl rfl (Qt.move (by conv => lhs; whnf)) ?_
  refine S.opS rfl rfl (OpV.con0 Tryd.ent67 rfl (fun w hw => right10_T height hh A c xs hi w hlow (Rd.ro hR w hw)) ?_)
  refine S.q rfl rfl (Qt.not_t rfl) ?_
  refine S.nil ?_
  refine S.if_f rfl ?_
  refine TC.skip ?_
  refine TC.seq ?_
  refine TC.region ?_
  refine S.opS rfl rfl (OpV.alloc Tryd.zero3 (fun b6 => ?_))
  refine S.opN rfl (OpV.storeV0 rfl (by conv => lhs; whnf) (by exact Tryd.cells3) (by rfl) (by rfl) ?_)
  refine S.nil ?_
  refine TC.seq ?_
  refine TC.region ?_
  refine S.q rfl rfl (Qt.move (by conv => lhs; whnf)) ?_
  refine S.q rfl rfl (Qt.move (by conv => lhs; whnf)) ?_
  refine S.q rfl rfl (Qt.makeFuncL (fs := []) (cs := [.pointer (some ⟨b6, 0, none⟩)]) rfl rfl) ?_
  refine S.opS rfl rfl (OpV.con (Pre := [Blk b6 3 [.int .i64 ((([] : Sd).length : Nat) : Int)]]) (R := _) Tryd.ent110 rfl (List.Perm.refl _) (fun w hw => bes_C 112 #[.pointer (some ⟨b6, 0, none⟩)] Tryd.ent112 height hh (fun done L => L = [Blk b6 3 [.int .i64 ((done.length : Nat) : Int)]]) w (fps [Blk b6 3 [.int .i64 ((([] : Sd).length : Nat) : Int)]]) (spots height xs 0).length (fun a done L w' ho hlt hJ hst => by subst hJ; exact (ct1_walk b6 done.length a.1 a.2 (by omega) w' hst.sat).mono fun e w'' ⟨v, L', q1, q2, q3⟩ => ⟨v, L', q1, q2, by show L' = [Blk b6 3 [.int .i64 (((done ++ [a]).length : Nat) : Int)]]; rw [len_snoc]; exact q3⟩) height (Nat.le_refl _) 0 xs A c [] _ w (okRoot height) hi.rise hi.root hc hi.2.1 hw.sat.left (Ro.of_pre hw hR) rfl (St.start hw.sat.left) (by rw [List.length_nil, Nat.zero_add]; exact Nat.le_refl _)) ?_)
  rintro v L' rfl
  refine S.nil ?_
  refine TC.seq ?_
  refine TC.region ?_
  refine S.q rfl rfl (Qt.load rfl (Ld.one (Has.at 0 rfl) Tryd.one3 rfl)) ?_
  refine S.q rfl rfl (Qt.assign (by conv => lhs; whnf)) ?_
  refine S.q rfl rfl (Qt.assign (by conv => lhs; whnf)) ?_
  refine S.nil ?_
  refine TC.ret ?_
  refine finQ.ret (RVs.tmp (by conv => lhs; whnf) (RVs.tmp (by conv => lhs; whnf) RVs.nil)) (Sub.nil _) ?_
  exact ⟨rfl, rfl⟩
set_option maxHeartbeats 400000 in
theorem count10_walkF2 (z : Int) (A : Option Addr) (c : Nat) (xs : List Nat) (w0 : World) (hr : ∀ w, Ro w [] (SlA A (u64s xs)) → Calls Tryd.prog 67 #[.int .i64 z, .slice A xs.length c] w (Ret w (.bool false))) (hR : Ro w0 [] (SlA A (u64s xs))) :
    Calls Tryd.prog 65 #[.int .i64 z, .slice A xs.length c] w0 (Post w0 [] fun v L => v = .tuple #[.int .i64 0, .iface 58 (.int .i64 1)] ∧ L = []) := by
  refine Calls.of (L := []) (n := 17) (rs := [.tmp 4, .tmp 5]) Tryd.func65 rfl rfl rfl (Nat.le_of_ble_eq_true rfl) (Sat.nil _) ?_
  refine TC.seq ?_
  refine TC.region ?_
  refine S.q rfl rfl (Qt.assign (by conv => lhs; whnf)) ?_
  refine S.q rfl rfl (Qt.assign (by conv => lhs; whnf)) ?_
  refine S.nil ?_
  refine TC.seq ?_
  refine TC.seq ?_
  refine TC.region ?_
  refine S.q rfl rfl (Qt.move (by conv => lhs; whnf)) ?_
  refine S.q rfl rfl (Qt.move (by conv => lhs; whnf)) ?_
  refine S.opS rfl rfl (OpV.con0 Tryd.ent67 rfl (fun w hw => hr w (Rd.ro hR w hw)) ?_)
  refine S.q rfl rfl (Qt.not_f rfl) ?_
  refine S.nil ?_
  refine S.if_t rfl ?_
  refine TC.seq ?_
  refine TC.region ?_
  refine S.q rfl rfl (Qt.makeInterface Tryd.underlying58 (fun _ h => nomatch h) (by conv => lhs; whnf)) ?_
  refine S.q rfl rfl (Qt.assign (by conv => lhs; whnf)) ?_
  refine S.q rfl rfl (Qt.assign (by conv => lhs; whnf)) ?_
  refine S.nil ?_
  refine TC.ret ?_
  refine finQ.ret (RVs.tmp (by conv => lhs; whnf) (RVs.tmp (by conv => lhs; whnf) RVs.nil)) (Sub.nil _) ?_
  exact ⟨rfl, rfl⟩
end Go.Proofs.YtlneklemjfefpaaDoor
