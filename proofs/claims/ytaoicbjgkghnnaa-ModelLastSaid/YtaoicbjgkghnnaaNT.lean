/-
  Walks: what single functions of the program compute. Printed by a program of ours.
-/
import Derived.Test.YtaoicbjgkghnnaaMZ
import Derived.Test.YtaoicbjgkghnnaaE2
import Derived.Test.YtaoicbjgkghnnaaNF
namespace Go.Proofs.Ytaoicbjgkghnnaa
open Go.E
set_option linter.unusedVariables false
set_option maxRecDepth 4000
theorem Try.keyU : KeyLaw Try.prog 24 encU := Go.E.keyU Try.underlying24
theorem Try.z58 : zero1 Try.prog 58 = some (hv zeroH) := by kernel_rfl
theorem Try.guard58 : Try.prog.eqGuardType Try.prog.depth 58 = false := by kernel_rfl
theorem Try.clones46 : ClonesAt Try.prog 46 := fun args w => run_callFunc_extern Try.func46 (by kernel_rfl) (by kernel_rfl) (by kernel_rfl) (by kernel_rfl) args w
theorem asked_len {xs : List Nat} {n : Nat} (h : asked xs n = 0) : 1 ≤ xs.length ∧ xs.length ≤ 256 := by
  refine ⟨?_, ?_⟩
  · rcases Nat.eq_zero_or_pos xs.length with h0 | h0
    · rw [asked_none h0] at h; cases h
    · exact h0
  · rcases Nat.lt_or_ge 256 xs.length with h0 | h0
    · rw [asked_large h0] at h; cases h
    · exact h0
set_option maxHeartbeats 400000 in
theorem modelAsked_walk (A : Option Addr) (c : Nat) (xs : List Nat) (n : Nat) (w0 : World) (hR : Ro w0 [] (SlA A (u64s xs))) (hc : xs.length ≤ c) (hm : c ≤ 9223372036854775807) :
    Calls Try.prog 9 #[.slice A xs.length c, .int .u64 (n : Int)] w0 (Post w0 [] fun v L => v = errv 42 (asked xs n) ∧ L = []) := by
  refine Calls.of (L := []) (n := 42) (rs := [.tmp 4]) Try.func9 rfl rfl rfl (Nat.le_of_ble_eq_true rfl) (Sat.nil _) ?_
  refine TC.seq ?_
  refine TC.region ?_
  refine S.q rfl rfl (Qt.assign (by conv => lhs; whnf)) ?_
  refine S.nil ?_
  refine TC.seq ?_
  refine TC.block ?_
  refine TC.seq ?_
  refine TC.region ?_
  refine S.q rfl rfl (Qt.move (by conv => lhs; whnf)) ?_
  refine S.q rfl rfl (Qt.len_slice Try.underlying22 rfl) ?_
  refine S.dec rfl rfl (Qt.gt (b := 256) rfl rfl) (fun h10 => ?_) (fun h10 => ?_)
  · refine S.q rfl rfl (Qt.assign (by conv => lhs; whnf)) ?_
    refine S.nil ?_
    refine S.if_t rfl ?_
    refine TC.seq ?_
    refine TC.region ?_
    refine S.q rfl rfl (Qt.makeInterface Try.underlying42 (fun _ h => nomatch h) (by conv => lhs; whnf)) ?_
    refine S.q rfl rfl (Qt.assign (by conv => lhs; whnf)) ?_
    refine S.nil ?_
    refine TC.ret ?_
    refine finQ.ret (RVs.tmp (by conv => lhs; whnf) RVs.nil) (Sub.nil _) ?_
    exact ⟨by rw [asked_large h10]; rfl, rfl⟩
  · refine S.q rfl rfl (Qt.assign (by conv => lhs; whnf)) ?_
    refine S.nil ?_
    refine S.if_f rfl ?_
    refine TC.seq ?_
    refine TC.region ?_
    refine S.q rfl rfl (Qt.move (by conv => lhs; whnf)) ?_
    refine S.q rfl rfl (Qt.len_slice Try.underlying22 rfl) ?_
    refine S.dec rfl rfl (Qt.eq (b := 0) rfl rfl) (fun h15 => ?_) (fun h15 => ?_)
    · refine S.q rfl rfl (Qt.assign (by conv => lhs; whnf)) ?_
      refine S.nil ?_
      refine S.if_t rfl ?_
      refine TC.seq ?_
      refine TC.region ?_
      refine S.q rfl rfl (Qt.makeInterface Try.underlying42 (fun _ h => nomatch h) (by conv => lhs; whnf)) ?_
      refine S.q rfl rfl (Qt.assign (by conv => lhs; whnf)) ?_
      refine S.nil ?_
      refine TC.ret ?_
      refine finQ.ret (RVs.tmp (by conv => lhs; whnf) RVs.nil) (Sub.nil _) ?_
      exact ⟨by rw [asked_none h15]; rfl, rfl⟩
    · refine S.q rfl rfl (Qt.assign (by conv => lhs; whnf)) ?_
      refine S.nil ?_
      refine S.if_f rfl ?_
      refine TC.skip ?_
      refine TC.seq ?_
      refine TC.seq ?_
      refine TC.region ?_
      refine S.q rfl rfl (Qt.move (by conv => lhs; whnf)) ?_
      refine S.q rfl rfl (Qt.slice_lo (l := 1) Try.underlying22 Try.cells24 rfl rfl (by omega)) ?_
      refine S.q rfl rfl (Qt.len_slice Try.underlying22 rfl) ?_
      refine S.q rfl rfl (Qt.move (by conv => lhs; whnf)) ?_
      refine S.nil ?_
      refine TC.block ?_
      refine TC.loop (γ := Nat) [21, 22, 23, 24, 5, 6, 25, 26, 27, 28, 29, 30, 31, 4, 32, 20] (fun k => [(20, .int .i64 (k : Int))]) (fun _ => _) (fun k => k + 1 ≤ xs.length ∧ ∀ i, i < k → xs.getD i 0 < xs.getD (i + 1) 0) (fun k => xs.length - k) (0)
        ⟨by omega, by omega⟩ ⟨Out.refl _ _, (List.forall_mem_cons.2 ⟨rfl, (fun _ h => nomatch h)⟩)⟩ (Sub.refl _) ?_
      rintro k u ⟨hk, hs⟩
      refine TC.seq ?_
      refine TC.region ?_
      refine S.dec rfl rfl (Qt.lt rfl rfl) (fun h21 => ?_) (fun h21 => ?_)
      · refine S.nil ?_
        refine TC.seq ?_
        refine S.if_t rfl ?_
        refine TC.skip ?_
        refine TC.seq ?_
        refine TC.block ?_
        refine TC.seq ?_
        refine TC.region ?_
        refine S.q rfl rfl (Qt.move (by conv => lhs; whnf)) ?_
        refine S.q rfl rfl (Qt.index Try.underlying22 Try.cells24 rfl rfl (by omega) (Has.cut (Has.ro hR) (fun _ => by rw [u64s_len]; omega)) (by rw [u64s_drop, u64s_len, List.length_drop]; omega)) ?_
        refine S.q rfl rfl (Qt.load rfl (Ld.sl (Has.cut (Has.ro hR) (fun _ => by rw [u64s_len]; omega)) Try.one24 ((by rw [u64s_drop]; exact u64s_get (xs := xs.drop 1) (by rw [List.length_drop]; omega) (Nat.mul_one _))))) ?_
        refine S.q rfl rfl (Qt.assign (by conv => lhs; whnf)) ?_
        refine S.q rfl rfl (Qt.assign (by conv => lhs; whnf)) ?_
        refine S.nil ?_
        refine TC.seq ?_
        refine TC.region ?_
        refine S.q rfl rfl (Qt.move (by conv => lhs; whnf)) ?_
        refine S.q rfl rfl (Qt.move (by conv => lhs; whnf)) ?_
        refine S.q rfl rfl (Qt.move (by conv => lhs; whnf)) ?_
        refine S.q rfl rfl (Qt.index Try.underlying22 Try.cells24 rfl rfl (by omega) (Has.ro hR) (by rw [u64s_len]; omega)) ?_
        refine S.q rfl rfl (Qt.load rfl (Ld.sl (Has.ro hR) Try.one24 (u64s_get (by omega) (Nat.mul_one _)))) ?_
        refine S.dec rfl rfl (Qt.le rfl rfl) (fun h30 => ?_) (fun h30 => ?_)
        · refine S.nil ?_
          refine S.if_t rfl ?_
          refine TC.seq ?_
          refine TC.region ?_
          refine S.q rfl rfl (Qt.makeInterface Try.underlying42 (fun _ h => nomatch h) (by conv => lhs; whnf)) ?_
          refine S.q rfl rfl (Qt.assign (by conv => lhs; whnf)) ?_
          refine S.nil ?_
          refine TC.ret ?_
          refine finQ.ret (RVs.tmp (by conv => lhs; whnf) RVs.nil) (Sub.nil _) ?_
          exact ⟨by rw [asked_fall h10 (i := k) (by omega) (by rw [drop_getD] at h30; exact h30)]; rfl, rfl⟩
        · refine S.nil ?_
          refine S.if_f rfl ?_
          refine TC.skip ?_
          refine TC.region ?_
          refine S.q rfl rfl (Qt.add (b := 1) rfl rfl (by simp only [kmax]; omega)) ?_
          refine S.q rfl rfl (Qt.move (by conv => lhs; whnf)) ?_
          refine S.nil ?_
          refine ⟨k + 1, ?_, ?_, ⟨?_, (List.forall_mem_cons.2 ⟨rfl, (fun _ h => nomatch h)⟩)⟩, Sub.refl _⟩
          · refine ⟨by omega, fun i hi => ?_⟩
            rcases Nat.lt_or_ge i k with h | h
            · exact hs i h
            · obtain rfl : i = k := by omega
              rw [drop_getD] at h30; omega
          · show _ < _; dsimp only; omega
          repeat (first | exact Out.refl _ _ | refine Out.put rfl ?_ | refine Out.puts rfl ?_ | refine Out.scr ?_ | refine Out.scr' rfl ?_)
      · refine S.nil ?_
        refine TC.seq ?_
        refine S.if_f rfl ?_
        refine TC.exit ?_
        refine TC.seq ?_
        refine TC.seq ?_
        refine TC.region ?_
        refine S.q rfl rfl (Qt.move (by conv => lhs; whnf)) ?_
        refine S.q rfl rfl (Qt.move (by conv => lhs; whnf)) ?_
        refine S.q rfl rfl (Qt.len_slice Try.underlying22 rfl) ?_
        refine S.q rfl rfl (Qt.sub (b := 1) rfl rfl (by omega) (by simp only [kmax]; omega)) ?_
        refine S.q rfl rfl (Qt.index Try.underlying22 Try.cells24 rfl rfl (by omega) (Has.ro hR) (by rw [u64s_len]; omega)) ?_
        refine S.q rfl rfl (Qt.load rfl (Ld.sl (Has.ro hR) Try.one24 (u64s_get (by omega) (Nat.mul_one _)))) ?_
        refine S.q rfl rfl (Qt.move (by conv => lhs; whnf)) ?_
        refine S.dec rfl rfl (Qt.ge rfl rfl) (fun h40 => ?_) (fun h40 => ?_)
        · refine S.nil ?_
          refine S.if_t rfl ?_
          refine TC.seq ?_
          refine TC.region ?_
          refine S.q rfl rfl (Qt.makeInterface Try.underlying42 (fun _ h => nomatch h) (by conv => lhs; whnf)) ?_
          refine S.q rfl rfl (Qt.assign (by conv => lhs; whnf)) ?_
          refine S.nil ?_
          refine TC.ret ?_
          refine finQ.ret (RVs.tmp (by conv => lhs; whnf) RVs.nil) (Sub.nil _) ?_
          have hr : Rising xs := fun i hi => hs i (by omega)
          exact ⟨by rw [asked_last h10 h15 hr h40]; rfl, rfl⟩
        · refine S.nil ?_
          refine S.if_f rfl ?_
          refine TC.skip ?_
          refine TC.seq ?_
          refine TC.region ?_
          refine S.q rfl rfl (Qt.assign (by conv => lhs; whnf)) ?_
          refine S.nil ?_
          refine TC.ret ?_
          refine finQ.ret (RVs.tmp (by conv => lhs; whnf) RVs.nil) (Sub.nil _) ?_
          have hr : Rising xs := fun i hi => hs i (by omega)
          exact ⟨by rw [asked_ok h10 h15 hr h40]; rfl, rfl⟩
theorem modelAsked_T (A : Option Addr) (c : Nat) (xs : List Nat) (n : Nat) (w0 : World) (hR : Ro w0 [] (SlA A (u64s xs))) (hc : xs.length ≤ c) (hm : c ≤ 9223372036854775807) (h : asked xs n = 0) : Calls Try.prog 9 #[.slice A xs.length c, .int .u64 (n : Int)] w0 (Ret w0 .nilIface) :=
  Calls.ret ((modelAsked_walk A c xs n w0 hR hc hm).mono fun e w ⟨v, L, h1, h2, h3, h4⟩ => ⟨v, L, h1, h2, by rw [h3, h]; rfl, h4⟩)
theorem modelAsked_F (A : Option Addr) (c : Nat) (xs : List Nat) (n : Nat) (w0 : World) (hR : Ro w0 [] (SlA A (u64s xs))) (hc : xs.length ≤ c) (hm : c ≤ 9223372036854775807) (h : ¬ asked xs n = 0) : Calls Try.prog 9 #[.slice A xs.length c, .int .u64 (n : Int)] w0 (Ret w0 (.iface 42 (.int .i64 ((asked xs n : Nat) : Int)))) :=
  Calls.ret ((modelAsked_walk A c xs n w0 hR hc hm).mono fun e w ⟨v, L, h1, h2, h3, h4⟩ => ⟨v, L, h1, h2, by rw [h3, errv_pos h], h4⟩)

set_option maxHeartbeats 400000 in
theorem of_walk (b bm n : Nat) (w0 : World) (hV : Ro w0 [] (Blk b 73 [.int .u64 (n : Int), .map (some bm)])) :
    Calls Try.prog 37 #[.pointer (some ⟨b, 0, none⟩)] w0 (Post w0 [] fun v L => v = .tuple #[.int .u64 (n : Int), .nilIface] ∧ L = []) := by
  refine Calls.of (L := []) (n := 11) (rs := [.tmp 2, .tmp 3]) Try.func37 rfl rfl rfl (Nat.le_of_ble_eq_true rfl) (Sat.nil _) ?_
  refine TC.seq ?_
  refine TC.region ?_
  refine S.q rfl rfl (Qt.assign (by conv => lhs; whnf)) ?_
  refine S.q rfl rfl (Qt.assign (by conv => lhs; whnf)) ?_
  refine S.nil ?_
  refine TC.seq ?_
  refine TC.seq ?_
  refine TC.region ?_
  refine S.q rfl rfl (Qt.move (by conv => lhs; whnf)) ?_
  refine S.q rfl rfl (Qt.eqp_some Try.underlying38 rfl) ?_
  refine S.nil ?_
  refine S.if_f rfl ?_
  refine TC.skip ?_
  refine TC.seq ?_
  refine TC.region ?_
  refine S.q rfl rfl (Qt.move (by conv => lhs; whnf)) ?_
  refine S.q rfl rfl (Qt.nilCheck rfl) ?_
  refine S.q rfl rfl (Qt.field Try.underlying73 rfl Try.cells24 rfl) ?_
  refine S.q rfl rfl (Qt.load rfl (Ld.one (Has.ro hV) Try.one24 rfl)) ?_
  refine S.q rfl rfl (Qt.assign (by conv => lhs; whnf)) ?_
  refine S.q rfl rfl (Qt.assign (by conv => lhs; whnf)) ?_
  refine S.nil ?_
  refine TC.ret ?_
  refine finQ.ret (RVs.tmp (by conv => lhs; whnf) (RVs.tmp (by conv => lhs; whnf) RVs.nil)) (Sub.nil _) ?_
  exact ⟨rfl, rfl⟩
theorem of_R (b bm n : Nat) (w0 : World) (hV : Ro w0 [] (Blk b 73 [.int .u64 (n : Int), .map (some bm)])) : Calls Try.prog 37 #[.pointer (some ⟨b, 0, none⟩)] w0 (Ret w0 (.tuple #[.int .u64 (n : Int), .nilIface])) := Calls.ret (of_walk b bm n w0 hV)

set_option maxHeartbeats 400000 in
theorem sized_walk (n : Nat) (w0 : World) :
    Calls Try.prog 29 #[.int .u64 (n : Int)] w0 (Post w0 [] fun v L => v = .bool (decide (1 ≤ n ∧ n ≤ 4294967296)) ∧ L = []) := by
  refine Calls.of (L := []) (n := 9) (rs := [.tmp 2]) Try.func29 rfl rfl rfl (Nat.le_of_ble_eq_true rfl) (Sat.nil _) ?_
  refine TC.seq ?_
  refine TC.region ?_
  refine S.q rfl rfl (Qt.assign (by conv => lhs; whnf)) ?_
  refine S.nil ?_
  refine TC.seq ?_
  refine TC.region ?_
  refine S.q rfl rfl (Qt.move (by conv => lhs; whnf)) ?_
  refine S.dec rfl rfl (Qt.ge (b := 1) rfl rfl) (fun h4 => ?_) (fun h4 => ?_)
  · refine S.q rfl rfl (Qt.move (by conv => lhs; whnf)) ?_
    refine S.qg rfl rfl rfl (Qt.move (by conv => lhs; whnf)) ?_
    refine S.decg rfl rfl rfl (Qt.le (b := 4294967296) rfl rfl) (fun h7 => ?_) (fun h7 => ?_)
    · refine S.q rfl rfl (Qt.pick_t rfl (by conv => lhs; whnf)) ?_
      refine S.q rfl rfl (Qt.assign (by conv => lhs; whnf)) ?_
      refine S.nil ?_
      refine TC.ret ?_
      refine finQ.ret (RVs.tmp (by conv => lhs; whnf) RVs.nil) (Sub.nil _) ?_
      exact ⟨by simp [pack, *], rfl⟩
    · refine S.q rfl rfl (Qt.pick_t rfl (by conv => lhs; whnf)) ?_
      refine S.q rfl rfl (Qt.assign (by conv => lhs; whnf)) ?_
      refine S.nil ?_
      refine TC.ret ?_
      refine finQ.ret (RVs.tmp (by conv => lhs; whnf) RVs.nil) (Sub.nil _) ?_
      exact ⟨by simp [pack, *], rfl⟩
  · refine S.q rfl rfl (Qt.move (by conv => lhs; whnf)) ?_
    refine S.pass rfl rfl ?_
    refine S.pass rfl rfl ?_
    refine S.q rfl rfl (Qt.pick_f rfl (by conv => lhs; whnf)) ?_
    refine S.q rfl rfl (Qt.assign (by conv => lhs; whnf)) ?_
    refine S.nil ?_
    refine TC.ret ?_
    refine finQ.ret (RVs.tmp (by conv => lhs; whnf) RVs.nil) (Sub.nil _) ?_
    exact ⟨by simp [pack, *], rfl⟩
theorem sized_T (n : Nat) (w0 : World) (h : 1 ≤ n ∧ n ≤ 4294967296) : Calls Try.prog 29 #[.int .u64 (n : Int)] w0 (Ret w0 (.bool true)) :=
  Calls.ret ((sized_walk n w0).mono fun e w ⟨v, L, h1, h2, h3, h4⟩ => ⟨v, L, h1, h2, by rw [h3, decide_eq_true h], h4⟩)
theorem sized_F (n : Nat) (w0 : World) (h : ¬ (1 ≤ n ∧ n ≤ 4294967296)) : Calls Try.prog 29 #[.int .u64 (n : Int)] w0 (Ret w0 (.bool false)) :=
  Calls.ret ((sized_walk n w0).mono fun e w ⟨v, L, h1, h2, h3, h4⟩ => ⟨v, L, h1, h2, by rw [h3, decide_eq_false h], h4⟩)

set_option maxHeartbeats 400000 in
theorem resize1_walk (b3 q x : Nat) (v1 : Value) (w0 : World) (h3 : Ro w0 [] (Blk b3 24 [.int .u64 (q : Int)])) :
    Calls Try.prog 39 #[.int .u64 (x : Int), v1, .pointer (some ⟨b3, 0, none⟩)] w0 (Post w0 [] fun v L => v = .bool (decide (q ≤ x)) ∧ L = []) := by
  refine Calls.of (L := []) (n := 9) (rs := [.tmp 5]) Try.func39 rfl rfl rfl (Nat.le_of_ble_eq_true rfl) (Sat.nil _) ?_
  refine TC.seq ?_
  refine TC.region ?_
  refine S.opS rfl rfl (OpV.box (by conv => lhs; whnf) (fun b4 => ?_))
  refine S.q rfl rfl (Qt.assign (by conv => lhs; whnf)) ?_
  refine S.nil ?_
  refine TC.seq ?_
  refine TC.region ?_
  refine S.q rfl rfl (Qt.move (by conv => lhs; whnf)) ?_
  refine S.q rfl rfl (Qt.load rfl (Ld.one (Has.ro h3) Try.one24 rfl)) ?_
  refine S.dec rfl rfl (Qt.ge rfl rfl) (fun h8 => ?_) (fun h8 => ?_)
  · refine S.q rfl rfl (Qt.assign (by conv => lhs; whnf)) ?_
    refine S.nil ?_
    refine TC.ret ?_
    refine finQ.ret (RVs.tmp (by conv => lhs; whnf) RVs.nil) (Sub.nil _) ?_
    exact ⟨by rw [decide_eq_true (show q ≤ x from h8)]; rfl, rfl⟩
  · refine S.q rfl rfl (Qt.assign (by conv => lhs; whnf)) ?_
    refine S.nil ?_
    refine TC.ret ?_
    refine finQ.ret (RVs.tmp (by conv => lhs; whnf) RVs.nil) (Sub.nil _) ?_
    exact ⟨by rw [decide_eq_false (show ¬ q ≤ x from h8)]; rfl, rfl⟩
theorem resize1_T (b3 q x : Nat) (v1 : Value) (w0 : World) (h3 : Ro w0 [] (Blk b3 24 [.int .u64 (q : Int)])) (h : q ≤ x) : Calls Try.prog 39 #[.int .u64 (x : Int), v1, .pointer (some ⟨b3, 0, none⟩)] w0 (Ret w0 (.bool true)) :=
  Calls.ret ((resize1_walk b3 q x v1 w0 h3).mono fun e w ⟨v, L, h1, h2, h3, h4⟩ => ⟨v, L, h1, h2, by rw [h3, decide_eq_true h], h4⟩)
theorem resize1_F (b3 q x : Nat) (v1 : Value) (w0 : World) (h3 : Ro w0 [] (Blk b3 24 [.int .u64 (q : Int)])) (h : ¬ q ≤ x) : Calls Try.prog 39 #[.int .u64 (x : Int), v1, .pointer (some ⟨b3, 0, none⟩)] w0 (Ret w0 (.bool false)) :=
  Calls.ret ((resize1_walk b3 q x v1 w0 h3).mono fun e w ⟨v, L, h1, h2, h3, h4⟩ => ⟨v, L, h1, h2, by rw [h3, decide_eq_false h], h4⟩)

set_option maxHeartbeats 400000 in
theorem delFunc_walk (bm b3 q : Nat) (ms : Ms) (w0 : World) (hL : Sat w0 [MapA bm encU hv ms]) (h3 : Ro w0 [bm] (Blk b3 24 [.int .u64 (q : Int)])) :
    Calls Try.prog 38 #[.map (some bm), .func (.func 39) #[] #[.pointer (some ⟨b3, 0, none⟩)]] w0 (Post w0 [bm] fun v L => L = [MapA bm encU hv (keep q ms)]) := by
  refine Calls.of (L := [MapA bm encU hv ms]) (n := 19) (rs := []) Try.func38 rfl rfl rfl (Nat.le_of_ble_eq_true rfl) (hL) ?_
  refine TC.mapNodup (Has.at 0 rfl) (fun hn => ?_)
  refine TC.seq ?_
  refine TC.region ?_
  refine S.q rfl rfl (Qt.move (by conv => lhs; whnf)) ?_
  refine S.opS rfl rfl (OpV.range0 Try.underlying71 rfl (fun it => ?_))
  refine S.nil ?_
  refine TC.block ?_
  refine TC.loop (γ := List Nat) [8, 9, 10, 11, 12, 5, 4, 13, 14, 15, 16, 17, 18] (fun done => []) (fun done => [MapI bm it encU hv (cur q ms done) done]) (fun done => done.Nodup ∧ ∀ x ∈ done, x ∈ keysOf ms) (fun done => ms.length - done.length) ([])
    ⟨List.nodup_nil, (fun _ h => nomatch h)⟩ ⟨Out.refl _ _, (fun _ h => nomatch h)⟩ (by rw [cur_nil]; exact Sub.refl _) ?_
  rintro done u hinv
  refine TC.seq ?_
  refine TC.region ?_
  refine S.opS rfl rfl (OpV.nextI0 (fun _ _ => encU_inj) rfl (fun hend => ?_) (fun x a hm hd => ?_))
  · refine TL.endI0 ?_
    refine S.q rfl rfl (Qt.extract rfl rfl) ?_
    refine S.nil ?_
    refine TC.seq ?_
    refine S.if_f rfl ?_
    refine TC.exit ?_
    refine finQ.normal RVs.nil (Sub.refl _) ?_
    rw [cur_end hend]
  · refine S.q rfl rfl (Qt.extract rfl rfl) ?_
    refine S.nil ?_
    refine TC.seq ?_
    refine S.if_t rfl ?_
    refine TC.skip ?_
    refine TC.block ?_
    refine TC.seq ?_
    refine TC.region ?_
    refine S.q rfl rfl (Qt.entryI (fun _ _ => encU_inj) rfl (Has.at 0 rfl) hm) ?_
    refine S.q rfl rfl (Qt.extract rfl rfl) ?_
    refine S.q rfl rfl (Qt.extract rfl rfl) ?_
    refine S.opS rfl rfl (OpV.alloc Try.zero58 (fun b5 => ?_))
    refine S.q rfl rfl (Qt.assign (by conv => lhs; whnf)) ?_
    refine S.opN rfl (OpV.storeV0 rfl (by conv => lhs; whnf) (by show _ = some (hvl a).length; rw [hvl_length]; exact Try.cells58) (by show List.all (hvl a) _ = true; exact List.all_eq_true.2 (bytesL_one _)) (by show (hvl a).length = _; rw [hvl_length]; rfl) ?_)
    refine S.nil ?_
    refine TC.seq ?_
    refine TC.region ?_
    refine S.q rfl rfl (Qt.move (by conv => lhs; whnf)) ?_
    refine S.q rfl rfl (Qt.move (by conv => lhs; whnf)) ?_
    refine S.q rfl rfl (Qt.load rfl (Ld.all (Has.at 0 rfl) Try.row58 (by show _ = some (hvl a).length; rw [hvl_length]; exact Try.cells58))) ?_
    by_cases hq : q ≤ x
    · refine S.opS rfl rfl (OpV.con0 Try.ent39 rfl (fun w hw => resize1_T b3 q x _ w (Rd.ro h3 w hw) hq) ?_)
      refine S.nil ?_
      refine S.if_t rfl ?_
      refine TC.region ?_
      refine S.q rfl rfl (Qt.move (by conv => lhs; whnf)) ?_
      refine S.q rfl rfl (Qt.move (by conv => lhs; whnf)) ?_
      refine S.opN rfl (OpV.delI1 rfl Try.underlying71 Try.keyU rfl rfl ?_)
      refine S.nil ?_
      refine ⟨done ++ [x], ?_, ?_, ⟨?_, (fun _ h => nomatch h)⟩, (by dsimp only; rw [← cur_del hn done hq]; exact Sub.drop _ (Sub.refl _))⟩
      · exact (done_step hinv.1 hinv.2 (cur_sub hm) hd).1
      · exact (done_step hinv.1 hinv.2 (cur_sub hm) hd).2
      repeat (first | exact Out.refl _ _ | refine Out.put rfl ?_ | refine Out.puts rfl ?_ | refine Out.scr ?_ | refine Out.scr' rfl ?_)
    · refine S.opS rfl rfl (OpV.con0 Try.ent39 rfl (fun w hw => resize1_F b3 q x _ w (Rd.ro h3 w hw) hq) ?_)
      refine S.nil ?_
      refine S.if_f rfl ?_
      refine TC.skip ?_
      refine ⟨done ++ [x], ?_, ?_, ⟨?_, (fun _ h => nomatch h)⟩, (by dsimp only; rw [cur_skip ms done hq]; exact Sub.drop _ (Sub.refl _))⟩
      · exact (done_step hinv.1 hinv.2 (cur_sub hm) hd).1
      · exact (done_step hinv.1 hinv.2 (cur_sub hm) hd).2
      repeat (first | exact Out.refl _ _ | refine Out.put rfl ?_ | refine Out.puts rfl ?_ | refine Out.scr ?_ | refine Out.scr' rfl ?_)
set_option maxHeartbeats 400000 in
theorem resize_walk (b bm n q : Nat) (ms : Ms) (w0 : World) (hL : Sat w0 [MapA bm encU hv ms, Blk b 73 [.int .u64 (n : Int), .map (some bm)]]) (hl : ms.length ≤ 9223372036854775806) :
    Calls Try.prog 22 #[.pointer (some ⟨b, 0, none⟩), .int .u64 (q : Int)] w0 (Post w0 [bm, b] fun v L => v = errv 42 (resizeM n ms q).1 ∧ L = [MapA bm encU hv (resizeM n ms q).2.2, Blk b 73 [.int .u64 (((resizeM n ms q).2.1 : Nat) : Int), .map (some bm)]]) := by
  refine Calls.of (L := [MapA bm encU hv ms, Blk b 73 [.int .u64 (n : Int), .map (some bm)]]) (n := 48) (rs := [.tmp 4]) Try.func22 rfl rfl rfl (Nat.le_of_ble_eq_true rfl) (hL) ?_
  refine TC.mapNodup (Has.at 0 rfl) (fun hn => ?_)
  refine TC.seq ?_
  refine TC.region ?_
  refine S.opS rfl rfl (OpV.box (by conv => lhs; whnf) (fun b3 => ?_))
  refine S.q rfl rfl (Qt.assign (by conv => lhs; whnf)) ?_
  refine S.nil ?_
  refine TC.seq ?_
  refine TC.seq ?_
  refine TC.region ?_
  refine S.q rfl rfl (Qt.move (by conv => lhs; whnf)) ?_
  refine S.opS rfl rfl (OpV.con0 Try.ent37 rfl (fun w hw => of_R b bm n w (Rd.at 2 rfl w hw)) ?_)
  refine S.q rfl rfl (Qt.move (by conv => lhs; whnf)) ?_
  refine S.q rfl rfl (Qt.extract rfl rfl) ?_
  refine S.q rfl rfl (Qt.extract rfl rfl) ?_
  refine S.q rfl rfl (Qt.assign (by conv => lhs; whnf)) ?_
  refine S.q rfl rfl (Qt.assign (by conv => lhs; whnf)) ?_
  refine S.nil ?_
  refine TC.seq ?_
  refine TC.region ?_
  refine S.q rfl rfl (Qt.move (by conv => lhs; whnf)) ?_
  refine S.q rfl rfl (Qt.nenil_nil Try.underlying30 rfl) ?_
  refine S.nil ?_
  refine S.if_f rfl ?_
  refine TC.skip ?_
  refine TC.seq ?_
  refine TC.seq ?_
  refine TC.region ?_
  refine S.q rfl rfl (Qt.load rfl (Ld.one (Has.at 0 rfl) Try.one24 (rfl))) ?_
  by_cases hs : 1 ≤ q ∧ q ≤ 4294967296
  · refine S.opS rfl rfl (OpV.con0 Try.ent29 rfl (fun w hw => sized_T q w hs) ?_)
    refine S.q rfl rfl (Qt.not_t rfl) ?_
    refine S.nil ?_
    refine S.if_f rfl ?_
    refine TC.skip ?_
    refine TC.seq ?_
    refine TC.region ?_
    refine S.q rfl rfl (Qt.assign (by conv => lhs; whnf)) ?_
    refine S.nil ?_
    refine TC.seq ?_
    refine TC.seq ?_
    refine TC.region ?_
    refine S.q rfl rfl (Qt.move (by conv => lhs; whnf)) ?_
    refine S.q rfl rfl (Qt.nilCheck rfl) ?_
    refine S.q rfl rfl (Qt.field Try.underlying73 rfl Try.cells71 rfl) ?_
    refine S.q rfl rfl (Qt.load rfl (Ld.one (Has.at 2 rfl) Try.one71 (rfl))) ?_
    refine S.opS rfl rfl (OpV.range1 Try.underlying71 rfl (fun it => ?_))
    refine S.nil ?_
    refine TC.block ?_
    refine TC.loop (γ := List Nat) [26, 27, 28, 29, 8, 30, 31, 32, 33, 34, 7] (fun done => [(7, .int .i64 ((cnt q done : Nat) : Int))]) (fun done => [Blk b3 24 [.int .u64 (q : Int)], MapI bm it encU hv ms done, Blk b 73 [.int .u64 (n : Int), .map (some bm)]]) (fun done => done.Nodup ∧ ∀ x ∈ done, x ∈ keysOf ms) (fun done => ms.length - done.length) ([])
      ⟨List.nodup_nil, (fun _ h => nomatch h)⟩ ⟨Out.refl _ _, (List.forall_mem_cons.2 ⟨rfl, (fun _ h => nomatch h)⟩)⟩ (Sub.refl _) ?_
    rintro done u hinv
    refine TC.seq ?_
    refine TC.region ?_
    refine S.opS rfl rfl (OpV.nextI1 (fun _ _ => encU_inj) rfl (fun hend => ?_) (fun x a hm hd => ?_))
    · refine TL.endI1 ?_
      refine S.q rfl rfl (Qt.extract rfl rfl) ?_
      refine S.nil ?_
      refine TC.seq ?_
      refine S.if_f rfl ?_
      refine TC.exit ?_
      refine TC.seq ?_
      refine TC.seq ?_
      refine TC.region ?_
      refine S.q rfl rfl (Qt.move (by conv => lhs; whnf)) ?_
      refine S.dec rfl rfl (Qt.gt (b := 256) rfl rfl) (fun h36 => ?_) (fun h36 => ?_)
      · refine S.nil ?_
        refine S.if_t rfl ?_
        refine TC.seq ?_
        refine TC.region ?_
        refine S.q rfl rfl (Qt.makeInterface Try.underlying42 (fun _ h => nomatch h) (by conv => lhs; whnf)) ?_
        refine S.q rfl rfl (Qt.assign (by conv => lhs; whnf)) ?_
        refine S.nil ?_
        refine TC.ret ?_
        refine finQ.ret (RVs.tmp (by conv => lhs; whnf) RVs.nil) (Sub.drop _ (Sub.refl _)) ?_
        rw [resizeM_far hs (by rw [← cnt_end hn hinv.1 hinv.2 hend]; exact h36)]
        exact ⟨rfl, rfl⟩
      · refine S.nil ?_
        refine S.if_f rfl ?_
        refine TC.skip ?_
        refine TC.seq ?_
        refine TC.region ?_
        refine S.q rfl rfl (Qt.move (by conv => lhs; whnf)) ?_
        refine S.q rfl rfl (Qt.nilCheck rfl) ?_
        refine S.q rfl rfl (Qt.field Try.underlying73 rfl Try.cells71 rfl) ?_
        refine S.q rfl rfl (Qt.load rfl (Ld.one (Has.at 2 rfl) Try.one71 (rfl))) ?_
        refine S.q rfl rfl (Qt.makeFuncL (fs := []) (cs := [.pointer (some ⟨b3, 0, none⟩)]) rfl rfl) ?_
        refine S.opS rfl rfl (OpV.con (Pre := [MapA bm encU hv ms]) (R := _) Try.ent38 rfl (List.Perm.swap _ _ _) (fun w hw => delFunc_walk bm b3 q ms w hw.sat.left (Ro.of_rest hw (List.mem_cons_self ..))) ?_)
        rintro v L' rfl
        refine S.nil ?_
        refine TC.seq ?_
        refine TC.region ?_
        refine S.q rfl rfl (Qt.move (by conv => lhs; whnf)) ?_
        refine S.q rfl rfl (Qt.load rfl (Ld.one (Has.at 1 rfl) Try.one24 (rfl))) ?_
        refine S.q rfl rfl (Qt.nilCheck rfl) ?_
        refine S.q rfl rfl (Qt.field Try.underlying73 rfl Try.cells24 rfl) ?_
        refine S.opN rfl (OpV.storeC2 rfl (by conv => lhs; whnf) Try.cells24 rfl rfl (Nat.le_of_ble_eq_true rfl) ?_)
        refine S.nil ?_
        refine TC.seq ?_
        refine TC.region ?_
        refine S.q rfl rfl (Qt.assign (by conv => lhs; whnf)) ?_
        refine S.nil ?_
        refine TC.ret ?_
        refine finQ.ret (RVs.tmp (by conv => lhs; whnf) RVs.nil) (Sub.keep _ (Sub.drop _ (Sub.refl _))) ?_
        rw [resizeM_ok hs (by rw [← cnt_end hn hinv.1 hinv.2 hend]; exact h36)]
        exact ⟨rfl, rfl⟩
    · refine S.q rfl rfl (Qt.extract rfl rfl) ?_
      refine S.nil ?_
      refine TC.seq ?_
      refine S.if_t rfl ?_
      refine TC.skip ?_
      refine TC.block ?_
      refine TC.seq ?_
      refine TC.region ?_
      refine S.q rfl rfl (Qt.entryI (fun _ _ => encU_inj) rfl (Has.at 1 rfl) hm) ?_
      refine S.q rfl rfl (Qt.extract rfl rfl) ?_
      refine S.q rfl rfl (Qt.assign (by conv => lhs; whnf)) ?_
      refine S.nil ?_
      refine TC.seq ?_
      refine TC.region ?_
      refine S.q rfl rfl (Qt.move (by conv => lhs; whnf)) ?_
      refine S.q rfl rfl (Qt.load rfl (Ld.one (Has.at 0 rfl) Try.one24 (rfl))) ?_
      refine S.dec rfl rfl (Qt.ge rfl rfl) (fun h32 => ?_) (fun h32 => ?_)
      · refine S.nil ?_
        refine S.if_t rfl ?_
        refine TC.region ?_
        refine S.q rfl rfl (Qt.move (by conv => lhs; whnf)) ?_
        have hcnt := cnt_le q hinv.1 hinv.2
        refine S.q rfl rfl (Qt.add (b := 1) rfl rfl (by simp only [kmax]; omega)) ?_
        refine S.q rfl rfl (Qt.assign (by conv => lhs; whnf)) ?_
        refine S.nil ?_
        refine ⟨done ++ [x], ?_, ?_, ⟨?_, (List.forall_mem_cons.2 ⟨congrArg (fun m : Nat => Value.int .i64 (m : Int)) (show cnt q done + 1 = cnt q (done ++ [x]) by rw [cnt_step, if_pos h32]), (fun _ h => nomatch h)⟩)⟩, Sub.refl _⟩
        · exact (done_step hinv.1 hinv.2 hm hd).1
        · exact (done_step hinv.1 hinv.2 hm hd).2
        repeat (first | exact Out.refl _ _ | refine Out.put rfl ?_ | refine Out.puts rfl ?_ | refine Out.scr ?_ | refine Out.scr' rfl ?_)
      · refine S.nil ?_
        refine S.if_f rfl ?_
        refine TC.skip ?_
        refine ⟨done ++ [x], ?_, ?_, ⟨?_, (List.forall_mem_cons.2 ⟨congrArg (fun m : Nat => Value.int .i64 (m : Int)) (show cnt q done = cnt q (done ++ [x]) by rw [cnt_step, if_neg h32]; rfl), (fun _ h => nomatch h)⟩)⟩, Sub.refl _⟩
        · exact (done_step hinv.1 hinv.2 hm hd).1
        · exact (done_step hinv.1 hinv.2 hm hd).2
        repeat (first | exact Out.refl _ _ | refine Out.put rfl ?_ | refine Out.puts rfl ?_ | refine Out.scr ?_ | refine Out.scr' rfl ?_)
  · refine S.opS rfl rfl (OpV.con0 Try.ent29 rfl (fun w hw => sized_F q w hs) ?_)
    refine S.q rfl rfl (Qt.not_f rfl) ?_
    refine S.nil ?_
    refine S.if_t rfl ?_
    refine TC.seq ?_
    refine TC.region ?_
    refine S.q rfl rfl (Qt.makeInterface Try.underlying42 (fun _ h => nomatch h) (by conv => lhs; whnf)) ?_
    refine S.q rfl rfl (Qt.assign (by conv => lhs; whnf)) ?_
    refine S.nil ?_
    refine TC.ret ?_
    refine finQ.ret (RVs.tmp (by conv => lhs; whnf) RVs.nil) (Sub.drop _ (Sub.refl _)) ?_
    rw [resizeM_bad hs]
    exact ⟨rfl, rfl⟩
set_option maxHeartbeats 400000 in
theorem spanned_walk (first n : Nat) (many : Int) (w0 : World) (hf : n ≤ 18446744073709551615) (hm : many ≤ 9223372036854775807) :
    Calls Try.prog 11 #[.int .u64 (first : Int), .int .i64 many, .int .u64 (n : Int)] w0 (Post w0 [] fun v L => v = errv 42 (spanned first many n) ∧ L = []) := by
  refine Calls.of (L := []) (n := 28) (rs := [.tmp 6]) Try.func11 rfl rfl rfl (Nat.le_of_ble_eq_true rfl) (Sat.nil _) ?_
  refine TC.seq ?_
  refine TC.region ?_
  refine S.q rfl rfl (Qt.assign (by conv => lhs; whnf)) ?_
  refine S.nil ?_
  refine TC.seq ?_
  refine TC.block ?_
  refine TC.seq ?_
  refine TC.region ?_
  refine S.q rfl rfl (Qt.move (by conv => lhs; whnf)) ?_
  refine S.dec rfl rfl (Qt.gti rfl rfl) (fun h9 => ?_) (fun h9 => ?_)
  · refine S.q rfl rfl (Qt.assign (by conv => lhs; whnf)) ?_
    refine S.nil ?_
    refine S.if_t rfl ?_
    refine TC.seq ?_
    refine TC.region ?_
    refine S.q rfl rfl (Qt.makeInterface Try.underlying42 (fun _ h => nomatch h) (by conv => lhs; whnf)) ?_
    refine S.q rfl rfl (Qt.assign (by conv => lhs; whnf)) ?_
    refine S.nil ?_
    refine TC.ret ?_
    refine finQ.ret (RVs.tmp (by conv => lhs; whnf) RVs.nil) (Sub.nil _) ?_
    exact ⟨by unfold spanned; simp [*, errv, pack] <;> omega, rfl⟩
  · refine S.q rfl rfl (Qt.assign (by conv => lhs; whnf)) ?_
    refine S.nil ?_
    refine S.if_f rfl ?_
    refine TC.seq ?_
    refine TC.region ?_
    refine S.q rfl rfl (Qt.move (by conv => lhs; whnf)) ?_
    refine S.dec rfl rfl (Qt.lti rfl rfl) (fun h13 => ?_) (fun h13 => ?_)
    · refine S.q rfl rfl (Qt.assign (by conv => lhs; whnf)) ?_
      refine S.nil ?_
      refine S.if_t rfl ?_
      refine TC.seq ?_
      refine TC.region ?_
      refine S.q rfl rfl (Qt.makeInterface Try.underlying42 (fun _ h => nomatch h) (by conv => lhs; whnf)) ?_
      refine S.q rfl rfl (Qt.assign (by conv => lhs; whnf)) ?_
      refine S.nil ?_
      refine TC.ret ?_
      refine finQ.ret (RVs.tmp (by conv => lhs; whnf) RVs.nil) (Sub.nil _) ?_
      exact ⟨by unfold spanned; simp [*, errv, pack] <;> omega, rfl⟩
    · refine S.q rfl rfl (Qt.assign (by conv => lhs; whnf)) ?_
      refine S.nil ?_
      refine S.if_f rfl ?_
      refine TC.seq ?_
      refine TC.region ?_
      refine S.q rfl rfl (Qt.move (by conv => lhs; whnf)) ?_
      refine S.q rfl rfl (Qt.move (by conv => lhs; whnf)) ?_
      refine S.dec rfl rfl (Qt.ge rfl rfl) (fun h18 => ?_) (fun h18 => ?_)
      · refine S.q rfl rfl (Qt.move (by conv => lhs; whnf)) ?_
        refine S.pass rfl rfl ?_
        refine S.pass rfl rfl ?_
        refine S.pass rfl rfl ?_
        refine S.pass rfl rfl ?_
        refine S.pass rfl rfl ?_
        refine S.pass rfl rfl ?_
        refine S.q rfl rfl (Qt.pick_t rfl (by conv => lhs; whnf)) ?_
        refine S.q rfl rfl (Qt.assign (by conv => lhs; whnf)) ?_
        refine S.nil ?_
        refine S.if_t rfl ?_
        refine TC.seq ?_
        refine TC.region ?_
        refine S.q rfl rfl (Qt.makeInterface Try.underlying42 (fun _ h => nomatch h) (by conv => lhs; whnf)) ?_
        refine S.q rfl rfl (Qt.assign (by conv => lhs; whnf)) ?_
        refine S.nil ?_
        refine TC.ret ?_
        refine finQ.ret (RVs.tmp (by conv => lhs; whnf) RVs.nil) (Sub.nil _) ?_
        exact ⟨by unfold spanned; simp [*, errv, pack] <;> omega, rfl⟩
      · refine S.q rfl rfl (Qt.move (by conv => lhs; whnf)) ?_
        refine S.qg rfl rfl rfl (Qt.move (by conv => lhs; whnf)) ?_
        refine S.qg rfl rfl rfl (Qt.convertz Try.underlying3 Try.underlying24 rfl (by omega) (by simp only [kmax]; omega)) ?_
        refine S.qg rfl rfl rfl (Qt.move (by conv => lhs; whnf)) ?_
        refine S.qg rfl rfl rfl (Qt.move (by conv => lhs; whnf)) ?_
        refine S.qg rfl rfl rfl (Qt.sub rfl rfl (by omega) (by simp only [kmax]; omega)) ?_
        refine S.decg rfl rfl rfl (Qt.gt rfl rfl) (fun h25 => ?_) (fun h25 => ?_)
        · refine S.q rfl rfl (Qt.pick_f rfl (by conv => lhs; whnf)) ?_
          refine S.q rfl rfl (Qt.assign (by conv => lhs; whnf)) ?_
          refine S.nil ?_
          refine S.if_t rfl ?_
          refine TC.seq ?_
          refine TC.region ?_
          refine S.q rfl rfl (Qt.makeInterface Try.underlying42 (fun _ h => nomatch h) (by conv => lhs; whnf)) ?_
          refine S.q rfl rfl (Qt.assign (by conv => lhs; whnf)) ?_
          refine S.nil ?_
          refine TC.ret ?_
          refine finQ.ret (RVs.tmp (by conv => lhs; whnf) RVs.nil) (Sub.nil _) ?_
          exact ⟨by unfold spanned; simp [*, errv, pack] <;> omega, rfl⟩
        · refine S.q rfl rfl (Qt.pick_f rfl (by conv => lhs; whnf)) ?_
          refine S.q rfl rfl (Qt.assign (by conv => lhs; whnf)) ?_
          refine S.nil ?_
          refine S.if_f rfl ?_
          refine TC.skip ?_
          refine TC.seq ?_
          refine TC.region ?_
          refine S.q rfl rfl (Qt.assign (by conv => lhs; whnf)) ?_
          refine S.nil ?_
          refine TC.ret ?_
          refine finQ.ret (RVs.tmp (by conv => lhs; whnf) RVs.nil) (Sub.nil _) ?_
          exact ⟨by unfold spanned; simp [*, errv, pack] <;> omega, rfl⟩
theorem spanned_T (first n : Nat) (many : Int) (w0 : World) (hf : n ≤ 18446744073709551615) (hm : many ≤ 9223372036854775807) (h : spanned first many n = 0) : Calls Try.prog 11 #[.int .u64 (first : Int), .int .i64 many, .int .u64 (n : Int)] w0 (Ret w0 .nilIface) :=
  Calls.ret ((spanned_walk first n many w0 hf hm).mono fun e w ⟨v, L, h1, h2, h3, h4⟩ => ⟨v, L, h1, h2, by rw [h3, h]; rfl, h4⟩)
theorem spanned_F (first n : Nat) (many : Int) (w0 : World) (hf : n ≤ 18446744073709551615) (hm : many ≤ 9223372036854775807) (h : ¬ spanned first many n = 0) : Calls Try.prog 11 #[.int .u64 (first : Int), .int .i64 many, .int .u64 (n : Int)] w0 (Ret w0 (.iface 42 (.int .i64 ((spanned first many n : Nat) : Int)))) :=
  Calls.ret ((spanned_walk first n many w0 hf hm).mono fun e w ⟨v, L, h1, h2, h3, h4⟩ => ⟨v, L, h1, h2, by rw [h3, errv_pos h], h4⟩)

set_option maxHeartbeats 400000 in
theorem num_nil_walk (w0 : World) :
    Calls Try.prog 8 #[.nilIface] w0 (Post w0 [] fun v L => v = .int .i64 0 ∧ L = []) := by
  refine Calls.of (L := []) (n := 18) (rs := [.tmp 2]) Try.func8 rfl rfl rfl (Nat.le_of_ble_eq_true rfl) (Sat.nil _) ?_
  refine TC.seq ?_
  refine TC.region ?_
  refine S.q rfl rfl (Qt.assign (by conv => lhs; whnf)) ?_
  refine S.nil ?_
  refine TC.seq ?_
  refine TC.seq ?_
  refine TC.region ?_
  refine S.q rfl rfl (Qt.move (by conv => lhs; whnf)) ?_
  refine S.q rfl rfl (Qt.eqnil_nil Try.underlying30 rfl) ?_
  refine S.nil ?_
  refine S.if_t rfl ?_
  refine TC.seq ?_
  refine TC.region ?_
  refine S.q rfl rfl (Qt.assign (by conv => lhs; whnf)) ?_
  refine S.nil ?_
  refine TC.ret ?_
  refine finQ.ret (RVs.tmp (by conv => lhs; whnf) RVs.nil) (Sub.nil _) ?_
  exact ⟨rfl, rfl⟩
set_option maxHeartbeats 400000 in
theorem num_pos_walk (k : Nat) (hk : 0 < k) (w0 : World) :
    Calls Try.prog 8 #[.iface 42 (.int .i64 (k : Int))] w0 (Post w0 [] fun v L => v = .int .i64 (k : Int) ∧ L = []) := by
  refine Calls.of (L := []) (n := 18) (rs := [.tmp 2]) Try.func8 rfl rfl rfl (Nat.le_of_ble_eq_true rfl) (Sat.nil _) ?_
  refine TC.seq ?_
  refine TC.region ?_
  refine S.q rfl rfl (Qt.assign (by conv => lhs; whnf)) ?_
  refine S.nil ?_
  refine TC.seq ?_
  refine TC.seq ?_
  refine TC.region ?_
  refine S.q rfl rfl (Qt.move (by conv => lhs; whnf)) ?_
  refine S.q rfl rfl (Qt.eqnil_iface Try.underlying30 rfl) ?_
  refine S.nil ?_
  refine S.if_f rfl ?_
  refine TC.skip ?_
  refine TC.seq ?_
  refine TC.seq ?_
  refine TC.region ?_
  refine S.q rfl rfl (Qt.move (by conv => lhs; whnf)) ?_
  refine S.q rfl rfl (Qt.assert_yes Try.underlying42 (fun _ h => nomatch h) rfl) ?_
  refine S.q rfl rfl (Qt.move (by conv => lhs; whnf)) ?_
  refine S.q rfl rfl (Qt.extract rfl rfl) ?_
  refine S.q rfl rfl (Qt.extract rfl rfl) ?_
  refine S.q rfl rfl (Qt.assign (by conv => lhs; whnf)) ?_
  refine S.q rfl rfl (Qt.assign (by conv => lhs; whnf)) ?_
  refine S.nil ?_
  refine TC.seq ?_
  refine TC.region ?_
  refine S.q rfl rfl (Qt.move (by conv => lhs; whnf)) ?_
  refine S.q rfl rfl (Qt.move (by conv => lhs; whnf)) ?_
  refine S.qg rfl rfl rfl (Qt.move (by conv => lhs; whnf)) ?_
  refine S.qg rfl rfl rfl (Qt.dT (Qt.ne (b := 0) rfl rfl) (by omega)) ?_
  refine S.q rfl rfl (Qt.pick_t rfl (by conv => lhs; whnf)) ?_
  refine S.nil ?_
  refine S.if_t rfl ?_
  refine TC.seq ?_
  refine TC.region ?_
  refine S.q rfl rfl (Qt.move (by conv => lhs; whnf)) ?_
  refine S.q rfl rfl (Qt.assign (by conv => lhs; whnf)) ?_
  refine S.nil ?_
  refine TC.ret ?_
  refine finQ.ret (RVs.tmp (by conv => lhs; whnf) RVs.nil) (Sub.nil _) ?_
  exact ⟨rfl, rfl⟩
theorem num_errv (k : Nat) (w : World) : Calls Try.prog 8 #[errv 42 k] w (Ret w (.int .i64 (k : Int))) := by
  rcases Nat.eq_zero_or_pos k with rfl | h
  · exact Calls.ret (num_nil_walk w)
  · rw [errv_pos (by omega)]
    exact Calls.ret (num_pos_walk k h w)

set_option maxHeartbeats 400000 in
theorem new_ok_walk (n : Nat) (h : 1 ≤ n ∧ n ≤ 4294967296) (w0 : World) :
    Calls Try.prog 14 #[.int .u64 (n : Int)] w0 (Post w0 [] fun v L => ∃ b bm, v = .tuple #[.pointer (some ⟨b, 0, none⟩), .nilIface] ∧ L = [Blk b 73 [.int .u64 (n : Int), .map (some bm)], MapA bm encU hv ([] : Ms)]) := by
  refine Calls.of (L := []) (n := 12) (rs := [.tmp 2, .tmp 3]) Try.func14 rfl rfl rfl (Nat.le_of_ble_eq_true rfl) (Sat.nil _) ?_
  refine TC.seq ?_
  refine TC.region ?_
  refine S.q rfl rfl (Qt.assign (by conv => lhs; whnf)) ?_
  refine S.q rfl rfl (Qt.assign (by conv => lhs; whnf)) ?_
  refine S.nil ?_
  refine TC.seq ?_
  refine TC.seq ?_
  refine TC.region ?_
  refine S.q rfl rfl (Qt.move (by conv => lhs; whnf)) ?_
  refine S.opS rfl rfl (OpV.con0 Try.ent29 rfl (fun w hw => sized_T n w h) ?_)
  refine S.q rfl rfl (Qt.not_t rfl) ?_
  refine S.nil ?_
  refine S.if_f rfl ?_
  refine TC.skip ?_
  refine TC.seq ?_
  refine TC.region ?_
  refine S.q rfl rfl (Qt.move (by conv => lhs; whnf)) ?_
  refine S.opS rfl rfl (OpV.makeMap (enc := encU) (encv := hv) (fun bm => ?_))
  refine S.q rfl rfl (Qt.build (v := .agg #[.int .u64 (n : Int), .map (some bm)]) rfl (fun _ => by kernel_rfl)) ?_
  refine S.opS rfl rfl (OpV.box (by conv => lhs; whnf) (fun b11 => ?_))
  refine S.q rfl rfl (Qt.assign (by conv => lhs; whnf)) ?_
  refine S.q rfl rfl (Qt.assign (by conv => lhs; whnf)) ?_
  refine S.nil ?_
  refine TC.ret ?_
  refine finQ.ret (RVs.tmp (by conv => lhs; whnf) (RVs.tmp (by conv => lhs; whnf) RVs.nil)) (Sub.refl _) ?_
  exact ⟨_, _, rfl, rfl⟩
set_option maxHeartbeats 400000 in
theorem len_walk (b bm n : Nat) (ms : Ms) (w0 : World) (hV : Ro w0 [] (Blk b 73 [.int .u64 (n : Int), .map (some bm)])) (hM : Ro w0 [] (MapA bm encU hv ms)) :
    Calls Try.prog 28 #[.pointer (some ⟨b, 0, none⟩)] w0 (Post w0 [] fun v L => v = .int .i64 ((ms.length : Nat) : Int) ∧ L = []) := by
  refine Calls.of (L := []) (n := 10) (rs := [.tmp 2]) Try.func28 rfl rfl rfl (Nat.le_of_ble_eq_true rfl) (Sat.nil _) ?_
  refine TC.seq ?_
  refine TC.region ?_
  refine S.q rfl rfl (Qt.assign (by conv => lhs; whnf)) ?_
  refine S.nil ?_
  refine TC.seq ?_
  refine TC.seq ?_
  refine TC.region ?_
  refine S.q rfl rfl (Qt.move (by conv => lhs; whnf)) ?_
  refine S.q rfl rfl (Qt.eqp_some Try.underlying38 rfl) ?_
  refine S.nil ?_
  refine S.if_f rfl ?_
  refine TC.skip ?_
  refine TC.seq ?_
  refine TC.region ?_
  refine S.q rfl rfl (Qt.move (by conv => lhs; whnf)) ?_
  refine S.q rfl rfl (Qt.nilCheck rfl) ?_
  refine S.q rfl rfl (Qt.field Try.underlying73 rfl Try.cells71 rfl) ?_
  refine S.q rfl rfl (Qt.load rfl (Ld.one (Has.ro hV) Try.one71 rfl)) ?_
  refine S.q rfl rfl (Qt.len_map Try.underlying71 rfl (Has.ro hM)) ?_
  refine S.q rfl rfl (Qt.assign (by conv => lhs; whnf)) ?_
  refine S.nil ?_
  refine TC.ret ?_
  refine finQ.ret (RVs.tmp (by conv => lhs; whnf) RVs.nil) (Sub.nil _) ?_
  exact ⟨rfl, rfl⟩
set_option maxHeartbeats 400000 in
theorem write_walk (b bm n : Nat) (ms : Ms) (A B : Option Addr) (c d : Nat) (xs : List Nat) (bs : List H32) (w0 : World) (hL : Sat w0 [MapA bm encU hv ms]) (hV : Ro w0 [bm] (Blk b 73 [.int .u64 (n : Int), .map (some bm)])) (hR : Ro w0 [bm] (SlA A (u64s xs))) (hB : Ro w0 [bm] (SlA B (hcs bs))) (hc : xs.length ≤ c) (hm : c ≤ 9223372036854775807) :
    Calls Try.prog 23 #[.pointer (some ⟨b, 0, none⟩), .slice A xs.length c, .slice B bs.length d] w0 (Post w0 [bm] fun v L => v = errv 42 (writeM n ms xs bs).1 ∧ L = [MapA bm encU hv (writeM n ms xs bs).2]) := by
  refine Calls.of (L := [MapA bm encU hv ms]) (n := 49) (rs := [.tmp 6]) Try.func23 rfl rfl rfl (Nat.le_of_ble_eq_true rfl) (hL) ?_
  refine TC.seq ?_
  refine TC.region ?_
  refine S.q rfl rfl (Qt.assign (by conv => lhs; whnf)) ?_
  refine S.nil ?_
  refine TC.seq ?_
  refine TC.region ?_
  refine S.q rfl rfl (Qt.move (by conv => lhs; whnf)) ?_
  refine S.opS rfl rfl (OpV.con0 Try.ent37 rfl (fun w hw => of_R b bm n w (Rd.ro hV w hw)) ?_)
  refine S.q rfl rfl (Qt.move (by conv => lhs; whnf)) ?_
  refine S.q rfl rfl (Qt.extract rfl rfl) ?_
  refine S.q rfl rfl (Qt.extract rfl rfl) ?_
  refine S.q rfl rfl (Qt.assign (by conv => lhs; whnf)) ?_
  refine S.q rfl rfl (Qt.assign (by conv => lhs; whnf)) ?_
  refine S.nil ?_
  refine TC.seq ?_
  refine TC.seq ?_
  refine TC.region ?_
  refine S.q rfl rfl (Qt.move (by conv => lhs; whnf)) ?_
  refine S.q rfl rfl (Qt.nenil_nil Try.underlying30 rfl) ?_
  refine S.nil ?_
  refine S.if_f rfl ?_
  refine TC.skip ?_
  refine TC.seq ?_
  refine TC.seq ?_
  refine TC.region ?_
  refine S.q rfl rfl (Qt.move (by conv => lhs; whnf)) ?_
  refine S.q rfl rfl (Qt.move (by conv => lhs; whnf)) ?_
  by_cases ha : asked xs n = 0
  · refine S.opS rfl rfl (OpV.con0 Try.ent9 rfl (fun w hw => modelAsked_T A c xs n w (Rd.ro hR w hw) hc hm ha) ?_)
    refine S.q rfl rfl (Qt.assign (by conv => lhs; whnf)) ?_
    refine S.nil ?_
    refine TC.seq ?_
    refine TC.region ?_
    refine S.q rfl rfl (Qt.move (by conv => lhs; whnf)) ?_
    refine S.q rfl rfl (Qt.nenil_nil Try.underlying30 rfl) ?_
    refine S.nil ?_
    refine S.if_f rfl ?_
    refine TC.skip ?_
    refine TC.seq ?_
    refine TC.seq ?_
    refine TC.region ?_
    refine S.q rfl rfl (Qt.move (by conv => lhs; whnf)) ?_
    refine S.q rfl rfl (Qt.len_slice Try.underlying22 rfl) ?_
    refine S.q rfl rfl (Qt.move (by conv => lhs; whnf)) ?_
    refine S.q rfl rfl (Qt.len_slice Try.underlying23 rfl) ?_
    refine S.dec rfl rfl (Qt.ne rfl rfl) (fun h30 => ?_) (fun h30 => ?_)
    · refine S.nil ?_
      refine S.if_t rfl ?_
      refine TC.seq ?_
      refine TC.region ?_
      refine S.q rfl rfl (Qt.makeInterface Try.underlying42 (fun _ h => nomatch h) (by conv => lhs; whnf)) ?_
      refine S.q rfl rfl (Qt.assign (by conv => lhs; whnf)) ?_
      refine S.nil ?_
      refine TC.ret ?_
      refine finQ.ret (RVs.tmp (by conv => lhs; whnf) RVs.nil) (Sub.refl _) ?_
      rw [writeM_form ha h30]
      exact ⟨rfl, rfl⟩
    · refine S.nil ?_
      refine S.if_f rfl ?_
      refine TC.skip ?_
      refine TC.seq ?_
      refine TC.seq ?_
      refine TC.region ?_
      refine S.q rfl rfl (Qt.move (by conv => lhs; whnf)) ?_
      refine S.q rfl rfl (Qt.len_slice Try.underlying22 rfl) ?_
      refine S.q rfl rfl (Qt.move (by conv => lhs; whnf)) ?_
      refine S.nil ?_
      refine TC.block ?_
      refine TC.loop (γ := Nat) [35, 36, 37, 38, 10, 11, 39, 40, 41, 42, 43, 44, 45, 46, 47, 48, 34] (fun k => [(34, .int .i64 (k : Int))]) (fun k => [MapA bm encU hv (lay ms (xs.take k) (bs.take k))]) (fun k => k ≤ xs.length) (fun k => xs.length - k) (0)
        (by omega) ⟨Out.refl _ _, (List.forall_mem_cons.2 ⟨rfl, (fun _ h => nomatch h)⟩)⟩ ((by simp [lay]; exact Sub.refl _)) ?_
      rintro k u hk
      refine TC.seq ?_
      refine TC.region ?_
      refine S.dec rfl rfl (Qt.lt rfl rfl) (fun h35 => ?_) (fun h35 => ?_)
      · refine S.nil ?_
        refine TC.seq ?_
        refine S.if_t rfl ?_
        refine TC.skip ?_
        refine TC.seq ?_
        refine TC.block ?_
        refine TC.seq ?_
        refine TC.region ?_
        refine S.q rfl rfl (Qt.move (by conv => lhs; whnf)) ?_
        refine S.q rfl rfl (Qt.index Try.underlying22 Try.cells24 rfl rfl (by omega) (Has.ro hR) (by rw [u64s_len]; omega)) ?_
        refine S.q rfl rfl (Qt.load rfl (Ld.sl (Has.ro hR) Try.one24 (u64s_get (by omega) (Nat.mul_one _)))) ?_
        refine S.q rfl rfl (Qt.assign (by conv => lhs; whnf)) ?_
        refine S.q rfl rfl (Qt.assign (by conv => lhs; whnf)) ?_
        refine S.nil ?_
        refine S.draw ([9], []) Try.mixed (Sub.nil _) ?_
        refine D.qX (k := 0) rfl (by kernel_rfl) (by kernel_rfl) (by kernel_rfl) rfl rfl (Qt.move (by conv => lhs; whnf)) ?_
        refine D.qX (k := 1) rfl (by kernel_rfl) (by kernel_rfl) (by kernel_rfl) rfl rfl (Qt.nilCheck rfl) ?_
        refine D.qX (k := 2) rfl (by kernel_rfl) (by kernel_rfl) (by kernel_rfl) rfl rfl (Qt.field Try.underlying73 rfl Try.cells71 rfl) ?_
        refine D.qX (k := 3) rfl (by kernel_rfl) (by kernel_rfl) (by kernel_rfl) rfl rfl (Qt.load rfl (Ld.one (Has.ro hV) Try.one71 rfl)) ?_
        refine D.qX (k := 4) rfl (by kernel_rfl) (by kernel_rfl) (by kernel_rfl) rfl rfl (Qt.move (by conv => lhs; whnf)) ?_
        refine D.qX (k := 5) rfl (by kernel_rfl) (by kernel_rfl) (by kernel_rfl) rfl rfl (Qt.move (by conv => lhs; whnf)) ?_
        refine D.qX (k := 6) rfl (by kernel_rfl) (by kernel_rfl) (by kernel_rfl) rfl rfl (Qt.move (by conv => lhs; whnf)) ?_
        refine D.qX (k := 7) rfl (by kernel_rfl) (by kernel_rfl) (by kernel_rfl) rfl rfl (Qt.index Try.underlying23 Try.cells58 rfl rfl (by omega) (Has.ro hB) (by rw [hcs_length]; omega)) ?_
        refine D.qX (k := 8) rfl (by kernel_rfl) (by kernel_rfl) (by kernel_rfl) rfl rfl (Qt.load rfl (Ld.slr (Has.ro hB) Try.row58 (by rw [hvl_length]; exact Try.cells58) (by rw [hvl_length]; exact Nat.succ_pos _) (hcs_at (by omega) rfl))) ?_
        refine D.opN (k := 9) (Sub.nil _) rfl (by kernel_rfl) (by kernel_rfl) rfl (OpV.mapUpd0 (a := bs.getD k zeroH) Try.underlying71 Try.keyU rfl rfl rfl ⟨Sub.nil _, ?_⟩)
        refine D.done (Sub.nil _) (by kernel_rfl) ?_
        refine TC.region ?_
        refine S.q rfl rfl (Qt.add (b := 1) rfl rfl (by simp only [kmax]; omega)) ?_
        refine S.q rfl rfl (Qt.move (by conv => lhs; whnf)) ?_
        refine S.nil ?_
        refine ⟨k + 1, ?_, ?_, ⟨?_, (List.forall_mem_cons.2 ⟨rfl, (fun _ h => nomatch h)⟩)⟩, (by dsimp only; rw [lay_take ms xs bs k (by omega) (by omega)]; exact Sub.refl _)⟩
        · show _ ≤ _; omega
        · show _ < _; dsimp only; omega
        repeat (first | exact Out.refl _ _ | refine Out.put rfl ?_ | refine Out.puts rfl ?_ | refine Out.scr ?_ | refine Out.scr' rfl ?_)
      · refine S.nil ?_
        refine TC.seq ?_
        refine S.if_f rfl ?_
        refine TC.exit ?_
        refine TC.seq ?_
        refine TC.region ?_
        refine S.q rfl rfl (Qt.assign (by conv => lhs; whnf)) ?_
        refine S.nil ?_
        refine TC.ret ?_
        refine finQ.ret (RVs.tmp (by conv => lhs; whnf) RVs.nil) (Sub.refl _) ?_
        rw [writeM_ok ha (by omega), lay_all ms xs bs k (by omega) (by omega)]
        exact ⟨rfl, rfl⟩
  · refine S.opS rfl rfl (OpV.con0 Try.ent9 rfl (fun w hw => modelAsked_F A c xs n w (Rd.ro hR w hw) hc hm ha) ?_)
    refine S.q rfl rfl (Qt.assign (by conv => lhs; whnf)) ?_
    refine S.nil ?_
    refine TC.seq ?_
    refine TC.region ?_
    refine S.q rfl rfl (Qt.move (by conv => lhs; whnf)) ?_
    refine S.q rfl rfl (Qt.nenil_iface Try.underlying30 rfl) ?_
    refine S.nil ?_
    refine S.if_t rfl ?_
    refine TC.seq ?_
    refine TC.region ?_
    refine S.q rfl rfl (Qt.move (by conv => lhs; whnf)) ?_
    refine S.q rfl rfl (Qt.assign (by conv => lhs; whnf)) ?_
    refine S.nil ?_
    refine TC.ret ?_
    refine finQ.ret (RVs.tmp (by conv => lhs; whnf) RVs.nil) (Sub.refl _) ?_
    rw [writeM_bad ha]
    exact ⟨by rw [errv_pos ha]; rfl, rfl⟩
set_option maxHeartbeats 400000 in
theorem read_walk (b bm n : Nat) (ms : Ms) (A : Option Addr) (c : Nat) (xs : List Nat) (w0 : World) (hV : Ro w0 [] (Blk b 73 [.int .u64 (n : Int), .map (some bm)])) (hM : Ro w0 [] (MapA bm encU hv ms)) (hR : Ro w0 [] (SlA A (u64s xs))) (hc : xs.length ≤ c) (hm : c ≤ 9223372036854775807) :
    Calls Try.prog 24 #[.pointer (some ⟨b, 0, none⟩), .slice A xs.length c] w0 (Post w0 [] fun v L => ∃ O d, v = .tuple #[.slice O (readM n ms xs).2.length d, errv 42 (readM n ms xs).1] ∧ L = [OwnA 58 32 O (readM n ms xs).2.length d (hcs (readM n ms xs).2)]) := by
  refine Calls.of (L := []) (n := 43) (rs := [.tmp 4, .tmp 5]) Try.func24 rfl rfl rfl (Nat.le_of_ble_eq_true rfl) (Sat.nil _) ?_
  refine TC.seq ?_
  refine TC.region ?_
  refine S.q rfl rfl (Qt.assign (by conv => lhs; whnf)) ?_
  refine S.q rfl rfl (Qt.assign (by conv => lhs; whnf)) ?_
  refine S.nil ?_
  refine TC.seq ?_
  refine TC.region ?_
  refine S.q rfl rfl (Qt.move (by conv => lhs; whnf)) ?_
  refine S.opS rfl rfl (OpV.con0 Try.ent37 rfl (fun w hw => of_R b bm n w (Rd.ro hV w hw)) ?_)
  refine S.q rfl rfl (Qt.move (by conv => lhs; whnf)) ?_
  refine S.q rfl rfl (Qt.extract rfl rfl) ?_
  refine S.q rfl rfl (Qt.extract rfl rfl) ?_
  refine S.q rfl rfl (Qt.assign (by conv => lhs; whnf)) ?_
  refine S.q rfl rfl (Qt.assign (by conv => lhs; whnf)) ?_
  refine S.nil ?_
  refine TC.seq ?_
  refine TC.seq ?_
  refine TC.region ?_
  refine S.q rfl rfl (Qt.move (by conv => lhs; whnf)) ?_
  refine S.q rfl rfl (Qt.nenil_nil Try.underlying30 rfl) ?_
  refine S.nil ?_
  refine S.if_f rfl ?_
  refine TC.skip ?_
  refine TC.seq ?_
  refine TC.seq ?_
  refine TC.region ?_
  refine S.q rfl rfl (Qt.move (by conv => lhs; whnf)) ?_
  refine S.q rfl rfl (Qt.move (by conv => lhs; whnf)) ?_
  by_cases ha : asked xs n = 0
  · have hx := (asked_len ha).2
    refine S.opS rfl rfl (OpV.con0 Try.ent9 rfl (fun w hw => modelAsked_T A c xs n w (Rd.ro hR w hw) hc hm ha) ?_)
    refine S.q rfl rfl (Qt.assign (by conv => lhs; whnf)) ?_
    refine S.nil ?_
    refine TC.seq ?_
    refine TC.region ?_
    refine S.q rfl rfl (Qt.move (by conv => lhs; whnf)) ?_
    refine S.q rfl rfl (Qt.nenil_nil Try.underlying30 rfl) ?_
    refine S.nil ?_
    refine S.if_f rfl ?_
    refine TC.skip ?_
    refine TC.seq ?_
    refine TC.region ?_
    refine S.q rfl rfl (Qt.assign (by conv => lhs; whnf)) ?_
    refine S.nil ?_
    refine TC.seq ?_
    refine TC.seq ?_
    refine TC.region ?_
    refine S.q rfl rfl (Qt.move (by conv => lhs; whnf)) ?_
    refine S.q rfl rfl (Qt.len_slice Try.underlying22 rfl) ?_
    refine S.q rfl rfl (Qt.move (by conv => lhs; whnf)) ?_
    refine S.nil ?_
    refine TC.block ?_
    refine TC.ownNil 58 32 ?_
    refine TC.loop (γ := Nat × Option Addr × Nat) [29, 30, 31, 11, 32, 33, 34, 35, 36, 37, 38, 39, 40, 9, 41, 28] (fun g => [(28, .int .i64 ((g.1 : Nat) : Int)), (9, .slice g.2.1 g.1 g.2.2)]) (fun g => [OwnA 58 32 g.2.1 g.1 g.2.2 (hcs ((xs.take g.1).map (getM ms)))]) (fun g => g.1 ≤ xs.length) (fun g => xs.length - g.1) ((0, none, 0))
      (Nat.zero_le _) ⟨Out.refl _ _, (List.forall_mem_cons.2 ⟨rfl, (List.forall_mem_cons.2 ⟨rfl, (fun _ h => nomatch h)⟩)⟩)⟩ (Sub.refl _) ?_
    rintro ⟨k, O, d⟩ u hk
    dsimp only at hk
    refine TC.seq ?_
    refine TC.region ?_
    refine S.dec rfl rfl (Qt.lt rfl rfl) (fun h29 => ?_) (fun h29 => ?_)
    · refine S.nil ?_
      refine TC.seq ?_
      refine S.if_t rfl ?_
      refine TC.skip ?_
      refine TC.seq ?_
      refine TC.block ?_
      refine TC.seq ?_
      refine TC.region ?_
      refine S.q rfl rfl (Qt.index Try.underlying22 Try.cells24 rfl rfl (by omega) (Has.ro hR) (by rw [u64s_len]; omega)) ?_
      refine S.q rfl rfl (Qt.load rfl (Ld.sl (Has.ro hR) Try.one24 (u64s_get (by omega) (Nat.mul_one _)))) ?_
      refine S.q rfl rfl (Qt.assign (by conv => lhs; whnf)) ?_
      refine S.nil ?_
      refine TC.region ?_
      refine S.q rfl rfl (Qt.move (by conv => lhs; whnf)) ?_
      refine S.q rfl rfl (Qt.move (by conv => lhs; whnf)) ?_
      refine S.q rfl rfl (Qt.nilCheck rfl) ?_
      refine S.q rfl rfl (Qt.field Try.underlying73 rfl Try.cells71 rfl) ?_
      refine S.q rfl rfl (Qt.load rfl (Ld.one (Has.ro hV) Try.one71 rfl)) ?_
      refine S.q rfl rfl (Qt.move (by conv => lhs; whnf)) ?_
      refine S.q rfl rfl (Qt.lookup Try.underlying71 Try.keyU Try.z58 rfl rfl (Has.ro hM)) ?_
      refine S.opS rfl rfl (OpV.slice1 (v := hv (getM ms (xs.getD k 0))) Try.underlying23 Try.elem58 (by decide) (by show _ = _; rw [← z_read]; rfl) (by rw [vl_hv, hvl_length]) (fun b39 => ?_))
      refine S.opS rfl rfl (OpV.app1 (bytes := 32) (news := hvl (getM ms (xs.getD k 0))) Try.underlying23 Try.elem58 rfl rfl (Has.blk (Has.at 0 rfl)) (by rw [hvl_length]) (bytesL_one _) (by simp only [maxLen]; omega) (by omega) (fun O' d' => ?_))
      refine S.q rfl rfl (Qt.assign (by conv => lhs; whnf)) ?_
      refine S.nil ?_
      refine TC.region ?_
      refine S.q rfl rfl (Qt.add (b := 1) rfl rfl (by simp only [kmax]; omega)) ?_
      refine S.q rfl rfl (Qt.move (by conv => lhs; whnf)) ?_
      refine S.nil ?_
      refine ⟨(k + 1, O', d'), ?_, ?_, ⟨?_, (List.forall_mem_cons.2 ⟨rfl, (List.forall_mem_cons.2 ⟨rfl, (fun _ h => nomatch h)⟩)⟩)⟩, (by dsimp only; rw [← read_step ms xs k (by omega)]; exact Sub.drop _ (Sub.refl _))⟩
      · show _ ≤ _; dsimp only; omega
      · show _ < _; dsimp only; omega
      repeat (first | exact Out.refl _ _ | refine Out.put rfl ?_ | refine Out.puts rfl ?_ | refine Out.scr ?_ | refine Out.scr' rfl ?_)
    · refine S.nil ?_
      refine TC.seq ?_
      refine S.if_f rfl ?_
      refine TC.exit ?_
      refine TC.seq ?_
      refine TC.region ?_
      refine S.q rfl rfl (Qt.move (by conv => lhs; whnf)) ?_
      refine S.q rfl rfl (Qt.assign (by conv => lhs; whnf)) ?_
      refine S.q rfl rfl (Qt.assign (by conv => lhs; whnf)) ?_
      refine S.nil ?_
      refine TC.ret ?_
      refine finQ.ret (RVs.tmp (by conv => lhs; whnf) (RVs.tmp (by conv => lhs; whnf) RVs.nil)) (Sub.refl _) ?_
      rw [readM_ok ha]
      obtain rfl : k = xs.length := by omega
      exact ⟨O, d, by simp; rfl, by simp⟩
  · refine S.opS rfl rfl (OpV.con0 Try.ent9 rfl (fun w hw => modelAsked_F A c xs n w (Rd.ro hR w hw) hc hm ha) ?_)
    refine S.q rfl rfl (Qt.assign (by conv => lhs; whnf)) ?_
    refine S.nil ?_
    refine TC.seq ?_
    refine TC.region ?_
    refine S.q rfl rfl (Qt.move (by conv => lhs; whnf)) ?_
    refine S.q rfl rfl (Qt.nenil_iface Try.underlying30 rfl) ?_
    refine S.nil ?_
    refine S.if_t rfl ?_
    refine TC.seq ?_
    refine TC.region ?_
    refine TL.ownNil 58 32 ?_
    refine S.q rfl rfl (Qt.move (by conv => lhs; whnf)) ?_
    refine S.q rfl rfl (Qt.assign (by conv => lhs; whnf)) ?_
    refine S.q rfl rfl (Qt.assign (by conv => lhs; whnf)) ?_
    refine S.nil ?_
    refine TC.ret ?_
    refine finQ.ret (RVs.tmp (by conv => lhs; whnf) (RVs.tmp (by conv => lhs; whnf) RVs.nil)) (Sub.refl _) ?_
    rw [readM_bad ha]
    exact ⟨none, 0, by rw [errv_pos ha]; rfl, rfl⟩
theorem asked3 : asked [3] 4 = 0 := by
  refine asked_ok (by decide) (by decide) (fun i hi => ?_) (by decide)
  simp at hi
theorem aliveWrite (b bm b12 b14 : Nat) (w : World) (hL : Sat w [MapA bm encU hv ([] : Ms)]) (hV : Ro w [bm] (Blk b 73 [.int .u64 ((4 : Nat) : Int), .map (some bm)])) (hR : Ro w [bm] (Blk b12 24 [.int .u64 ((3 : Nat) : Int)])) (hB : Ro w [bm] (Blk b14 58 (vl (hv oneH)))) :
    Calls Try.prog 23 #[.pointer (some ⟨b, 0, none⟩), .slice (some ⟨b12, 0, none⟩) 1 1, .slice (some ⟨b14, 0, none⟩) 1 1] w (Post w [bm] fun v L => v = .nilIface ∧ L = [MapA bm encU hv [(3, oneH)]]) := by
  have h := write_walk b bm 4 [] (some ⟨b12, 0, none⟩) (some ⟨b14, 0, none⟩) 1 1 [3] [oneH] w hL hV hR.blk (by have h := hB.blk; rw [vl_hv] at h; rw [hcs_cons, hcs_nil, List.append_nil]; exact h) (by decide) (by decide)
  rw [writeM_ok asked3 rfl] at h
  exact h
theorem aliveLen (b bm : Nat) (w : World) (hV : Ro w [] (Blk b 73 [.int .u64 ((4 : Nat) : Int), .map (some bm)])) (hM : Ro w [] (MapA bm encU hv [(3, oneH)])) : Calls Try.prog 28 #[.pointer (some ⟨b, 0, none⟩)] w (Ret w (.int .i64 ((1 : Nat) : Int))) :=
  Calls.ret (len_walk b bm 4 [(3, oneH)] w hV hM)
theorem aliveCut (b bm : Nat) (w : World) (hL : Sat w [MapA bm encU hv [(3, oneH)], Blk b 73 [.int .u64 ((4 : Nat) : Int), .map (some bm)]]) :
    Calls Try.prog 22 #[.pointer (some ⟨b, 0, none⟩), .int .u64 ((3 : Nat) : Int)] w (Post w [bm, b] fun v L => v = .nilIface ∧ L = [MapA bm encU hv [], Blk b 73 [.int .u64 ((3 : Nat) : Int), .map (some bm)]]) := by
  have h := resize_walk b bm 4 3 [(3, oneH)] w hL (by decide)
  rw [resizeM_ok (by decide) (by decide)] at h
  exact h
theorem aliveGrow (b bm : Nat) (w : World) (hL : Sat w [MapA bm encU hv ([] : Ms), Blk b 73 [.int .u64 ((3 : Nat) : Int), .map (some bm)]]) :
    Calls Try.prog 22 #[.pointer (some ⟨b, 0, none⟩), .int .u64 ((4 : Nat) : Int)] w (Post w [bm, b] fun v L => v = .nilIface ∧ L = [MapA bm encU hv [], Blk b 73 [.int .u64 ((4 : Nat) : Int), .map (some bm)]]) := by
  have h := resize_walk b bm 3 4 [] w hL (by decide)
  rw [resizeM_ok (by decide) (by decide)] at h
  exact h
theorem aliveRead (b bm b35 : Nat) (w : World) (hV : Ro w [] (Blk b 73 [.int .u64 ((4 : Nat) : Int), .map (some bm)])) (hM : Ro w [] (MapA bm encU hv ([] : Ms))) (hR : Ro w [] (Blk b35 24 [.int .u64 ((3 : Nat) : Int)])) :
    Calls Try.prog 24 #[.pointer (some ⟨b, 0, none⟩), .slice (some ⟨b35, 0, none⟩) 1 1] w (Post w [] fun v L => ∃ O d, v = .tuple #[.slice O 1 d, .nilIface] ∧ L = [OwnA 58 32 O 1 d (hcs [zeroH])]) := by
  have h := read_walk b bm 4 [] (some ⟨b35, 0, none⟩) 1 [3] w hV hM hR.blk (by decide) (by decide)
  rw [readM_ok asked3] at h
  exact h

set_option maxHeartbeats 400000 in
theorem trim_walk (b bm n : Nat) (ms : Ms) (A : Option Addr) (c : Nat) (xs : List Nat) (w0 : World) (hL : Sat w0 [MapA bm encU hv ms]) (hV : Ro w0 [bm] (Blk b 73 [.int .u64 (n : Int), .map (some bm)])) (hR : Ro w0 [bm] (SlA A (u64s xs))) (hc : xs.length ≤ c) (hm : c ≤ 9223372036854775807) :
    Calls Try.prog 30 #[.pointer (some ⟨b, 0, none⟩), .slice A xs.length c] w0 (Post w0 [bm] fun v L => v = errv 42 (trimM n ms xs).1 ∧ L = [MapA bm encU hv (trimM n ms xs).2]) := by
  refine Calls.of (L := [MapA bm encU hv ms]) (n := 36) (rs := [.tmp 4]) Try.func30 rfl rfl rfl (Nat.le_of_ble_eq_true rfl) (hL) ?_
  refine TC.seq ?_
  refine TC.region ?_
  refine S.q rfl rfl (Qt.assign (by conv => lhs; whnf)) ?_
  refine S.nil ?_
  refine TC.seq ?_
  refine TC.region ?_
  refine S.q rfl rfl (Qt.move (by conv => lhs; whnf)) ?_
  refine S.opS rfl rfl (OpV.con0 Try.ent37 rfl (fun w hw => of_R b bm n w (Rd.ro hV w hw)) ?_)
  refine S.q rfl rfl (Qt.move (by conv => lhs; whnf)) ?_
  refine S.q rfl rfl (Qt.extract rfl rfl) ?_
  refine S.q rfl rfl (Qt.extract rfl rfl) ?_
  refine S.q rfl rfl (Qt.assign (by conv => lhs; whnf)) ?_
  refine S.q rfl rfl (Qt.assign (by conv => lhs; whnf)) ?_
  refine S.nil ?_
  refine TC.seq ?_
  refine TC.seq ?_
  refine TC.region ?_
  refine S.q rfl rfl (Qt.move (by conv => lhs; whnf)) ?_
  refine S.q rfl rfl (Qt.nenil_nil Try.underlying30 rfl) ?_
  refine S.nil ?_
  refine S.if_f rfl ?_
  refine TC.skip ?_
  refine TC.seq ?_
  refine TC.seq ?_
  refine TC.region ?_
  refine S.q rfl rfl (Qt.move (by conv => lhs; whnf)) ?_
  refine S.q rfl rfl (Qt.move (by conv => lhs; whnf)) ?_
  by_cases ha : asked xs n = 0
  · refine S.opS rfl rfl (OpV.con0 Try.ent9 rfl (fun w hw => modelAsked_T A c xs n w (Rd.ro hR w hw) hc hm ha) ?_)
    refine S.q rfl rfl (Qt.assign (by conv => lhs; whnf)) ?_
    refine S.nil ?_
    refine TC.seq ?_
    refine TC.region ?_
    refine S.q rfl rfl (Qt.move (by conv => lhs; whnf)) ?_
    refine S.q rfl rfl (Qt.nenil_nil Try.underlying30 rfl) ?_
    refine S.nil ?_
    refine S.if_f rfl ?_
    refine TC.skip ?_
    refine TC.seq ?_
    refine TC.seq ?_
    refine TC.region ?_
    refine S.q rfl rfl (Qt.move (by conv => lhs; whnf)) ?_
    refine S.q rfl rfl (Qt.len_slice Try.underlying22 rfl) ?_
    refine S.q rfl rfl (Qt.move (by conv => lhs; whnf)) ?_
    refine S.nil ?_
    refine TC.block ?_
    refine TC.loop (γ := Nat) [27, 28, 29, 9, 30, 31, 32, 33, 34, 35, 26] (fun k => [(26, .int .i64 (k : Int))]) (fun k => [MapA bm encU hv (cut ms (xs.take k))]) (fun k => k ≤ xs.length) (fun k => xs.length - k) (0)
      (by omega) ⟨Out.refl _ _, (List.forall_mem_cons.2 ⟨rfl, (fun _ h => nomatch h)⟩)⟩ ((by simp [cut]; exact Sub.refl _)) ?_
    rintro k u hk
    refine TC.seq ?_
    refine TC.region ?_
    refine S.dec rfl rfl (Qt.lt rfl rfl) (fun h27 => ?_) (fun h27 => ?_)
    · refine S.nil ?_
      refine TC.seq ?_
      refine S.if_t rfl ?_
      refine TC.skip ?_
      refine TC.seq ?_
      refine TC.block ?_
      refine TC.seq ?_
      refine TC.region ?_
      refine S.q rfl rfl (Qt.index Try.underlying22 Try.cells24 rfl rfl (by omega) (Has.ro hR) (by rw [u64s_len]; omega)) ?_
      refine S.q rfl rfl (Qt.load rfl (Ld.sl (Has.ro hR) Try.one24 (u64s_get (by omega) (Nat.mul_one _)))) ?_
      refine S.q rfl rfl (Qt.assign (by conv => lhs; whnf)) ?_
      refine S.nil ?_
      refine TC.region ?_
      refine S.q rfl rfl (Qt.move (by conv => lhs; whnf)) ?_
      refine S.q rfl rfl (Qt.nilCheck rfl) ?_
      refine S.q rfl rfl (Qt.field Try.underlying73 rfl Try.cells71 rfl) ?_
      refine S.q rfl rfl (Qt.load rfl (Ld.one (Has.ro hV) Try.one71 rfl)) ?_
      refine S.q rfl rfl (Qt.move (by conv => lhs; whnf)) ?_
      refine S.opN rfl (OpV.mapDel0 (k := xs.getD k 0) rfl Try.underlying71 Try.keyU rfl rfl ?_)
      refine S.nil ?_
      refine TC.region ?_
      refine S.q rfl rfl (Qt.add (b := 1) rfl rfl (by simp only [kmax]; omega)) ?_
      refine S.q rfl rfl (Qt.move (by conv => lhs; whnf)) ?_
      refine S.nil ?_
      refine ⟨k + 1, ?_, ?_, ⟨?_, (List.forall_mem_cons.2 ⟨rfl, (fun _ h => nomatch h)⟩)⟩, (by dsimp only; rw [cut_take ms xs k (by omega)]; exact Sub.refl _)⟩
      · show _ ≤ _; omega
      · show _ < _; dsimp only; omega
      repeat (first | exact Out.refl _ _ | refine Out.put rfl ?_ | refine Out.puts rfl ?_ | refine Out.scr ?_ | refine Out.scr' rfl ?_)
    · refine S.nil ?_
      refine TC.seq ?_
      refine S.if_f rfl ?_
      refine TC.exit ?_
      refine TC.seq ?_
      refine TC.region ?_
      refine S.q rfl rfl (Qt.assign (by conv => lhs; whnf)) ?_
      refine S.nil ?_
      refine TC.ret ?_
      refine finQ.ret (RVs.tmp (by conv => lhs; whnf) RVs.nil) (Sub.refl _) ?_
      rw [trimM_ok ha, cut_all ms xs k (by omega)]
      exact ⟨rfl, rfl⟩
  · refine S.opS rfl rfl (OpV.con0 Try.ent9 rfl (fun w hw => modelAsked_F A c xs n w (Rd.ro hR w hw) hc hm ha) ?_)
    refine S.q rfl rfl (Qt.assign (by conv => lhs; whnf)) ?_
    refine S.nil ?_
    refine TC.seq ?_
    refine TC.region ?_
    refine S.q rfl rfl (Qt.move (by conv => lhs; whnf)) ?_
    refine S.q rfl rfl (Qt.nenil_iface Try.underlying30 rfl) ?_
    refine S.nil ?_
    refine S.if_t rfl ?_
    refine TC.seq ?_
    refine TC.region ?_
    refine S.q rfl rfl (Qt.move (by conv => lhs; whnf)) ?_
    refine S.q rfl rfl (Qt.assign (by conv => lhs; whnf)) ?_
    refine S.nil ?_
    refine TC.ret ?_
    refine finQ.ret (RVs.tmp (by conv => lhs; whnf) RVs.nil) (Sub.refl _) ?_
    rw [trimM_bad ha]
    exact ⟨by rw [errv_pos ha]; rfl, rfl⟩
set_option maxHeartbeats 400000 in
theorem blocks_walk (b bm n : Nat) (w0 : World) (hV : Ro w0 [] (Blk b 73 [.int .u64 (n : Int), .map (some bm)])) :
    Calls Try.prog 26 #[.pointer (some ⟨b, 0, none⟩)] w0 (Post w0 [] fun v L => v = .int .u64 (n : Int) ∧ L = []) := by
  refine Calls.of (L := []) (n := 11) (rs := [.tmp 2]) Try.func26 rfl rfl rfl (Nat.le_of_ble_eq_true rfl) (Sat.nil _) ?_
  refine TC.seq ?_
  refine TC.region ?_
  refine S.q rfl rfl (Qt.assign (by conv => lhs; whnf)) ?_
  refine S.nil ?_
  refine TC.seq ?_
  refine TC.region ?_
  refine S.q rfl rfl (Qt.move (by conv => lhs; whnf)) ?_
  refine S.opS rfl rfl (OpV.con0 Try.ent37 rfl (fun w hw => of_R b bm n w (Rd.ro hV w hw)) ?_)
  refine S.q rfl rfl (Qt.move (by conv => lhs; whnf)) ?_
  refine S.q rfl rfl (Qt.extract rfl rfl) ?_
  refine S.q rfl rfl (Qt.extract rfl rfl) ?_
  refine S.q rfl rfl (Qt.assign (by conv => lhs; whnf)) ?_
  refine S.q rfl rfl (Qt.assign (by conv => lhs; whnf)) ?_
  refine S.nil ?_
  refine TC.seq ?_
  refine TC.region ?_
  refine S.q rfl rfl (Qt.move (by conv => lhs; whnf)) ?_
  refine S.q rfl rfl (Qt.assign (by conv => lhs; whnf)) ?_
  refine S.nil ?_
  refine TC.ret ?_
  refine finQ.ret (RVs.tmp (by conv => lhs; whnf) RVs.nil) (Sub.nil _) ?_
  exact ⟨rfl, rfl⟩
set_option maxHeartbeats 400000 in
theorem span_walk (b bm n : Nat) (ms : Ms) (first : Nat) (many : Int) (w0 : World) (hV : Ro w0 [] (Blk b 73 [.int .u64 (n : Int), .map (some bm)])) (hM : Ro w0 [] (MapA bm encU hv ms)) (hf : n ≤ 18446744073709551615) (hmm : many ≤ 9223372036854775807) :
    Calls Try.prog 25 #[.pointer (some ⟨b, 0, none⟩), .int .u64 (first : Int), .int .i64 many] w0 (Post w0 [] fun v L => ∃ O d, v = .tuple #[.slice O (spanM n ms first many).2.length d, errv 42 (spanM n ms first many).1] ∧ L = [OwnA 58 32 O (spanM n ms first many).2.length d (hcs (spanM n ms first many).2)]) := by
  refine Calls.of (L := []) (n := 46) (rs := [.tmp 6, .tmp 7]) Try.func25 rfl rfl rfl (Nat.le_of_ble_eq_true rfl) (Sat.nil _) ?_
  refine TC.seq ?_
  refine TC.region ?_
  refine S.q rfl rfl (Qt.assign (by conv => lhs; whnf)) ?_
  refine S.q rfl rfl (Qt.assign (by conv => lhs; whnf)) ?_
  refine S.nil ?_
  refine TC.seq ?_
  refine TC.region ?_
  refine S.q rfl rfl (Qt.move (by conv => lhs; whnf)) ?_
  refine S.opS rfl rfl (OpV.con0 Try.ent37 rfl (fun w hw => of_R b bm n w (Rd.ro hV w hw)) ?_)
  refine S.q rfl rfl (Qt.move (by conv => lhs; whnf)) ?_
  refine S.q rfl rfl (Qt.extract rfl rfl) ?_
  refine S.q rfl rfl (Qt.extract rfl rfl) ?_
  refine S.q rfl rfl (Qt.assign (by conv => lhs; whnf)) ?_
  refine S.q rfl rfl (Qt.assign (by conv => lhs; whnf)) ?_
  refine S.nil ?_
  refine TC.seq ?_
  refine TC.seq ?_
  refine TC.region ?_
  refine S.q rfl rfl (Qt.move (by conv => lhs; whnf)) ?_
  refine S.q rfl rfl (Qt.nenil_nil Try.underlying30 rfl) ?_
  refine S.nil ?_
  refine S.if_f rfl ?_
  refine TC.skip ?_
  refine TC.seq ?_
  refine TC.seq ?_
  refine TC.region ?_
  refine S.q rfl rfl (Qt.move (by conv => lhs; whnf)) ?_
  refine S.q rfl rfl (Qt.move (by conv => lhs; whnf)) ?_
  refine S.q rfl rfl (Qt.move (by conv => lhs; whnf)) ?_
  by_cases hs : spanned first many n = 0
  · have hfa := spanned_facts hs
    have hfa := spanned_facts hs
    refine S.opS rfl rfl (OpV.con0 Try.ent11 rfl (fun w hw => spanned_T first n many w hf hmm hs) ?_)
    refine S.q rfl rfl (Qt.assign (by conv => lhs; whnf)) ?_
    refine S.nil ?_
    refine TC.seq ?_
    refine TC.region ?_
    refine S.q rfl rfl (Qt.move (by conv => lhs; whnf)) ?_
    refine S.q rfl rfl (Qt.nenil_nil Try.underlying30 rfl) ?_
    refine S.nil ?_
    refine S.if_f rfl ?_
    refine TC.skip ?_
    refine TC.seq ?_
    refine TC.region ?_
    refine S.q rfl rfl (Qt.assign (by conv => lhs; whnf)) ?_
    refine S.nil ?_
    refine TC.seq ?_
    refine TC.seq ?_
    refine TC.region ?_
    refine S.q rfl rfl (Qt.move (by conv => lhs; whnf)) ?_
    refine S.q rfl rfl (Qt.convertz Try.underlying3 Try.underlying24 rfl (by omega) (by simp only [kmax]; omega)) ?_
    refine S.q rfl rfl (Qt.move (by conv => lhs; whnf)) ?_
    refine S.nil ?_
    refine TC.block ?_
    refine TC.ownNil 58 32 ?_
    refine TC.loop (γ := Nat × Option Addr × Nat) [31, 32, 12, 33, 34, 35, 36, 37, 38, 39, 40, 41, 42, 43, 11, 44, 30] (fun g => [(30, .int .u64 ((g.1 : Nat) : Int)), (11, .slice g.2.1 g.1 g.2.2)]) (fun g => [OwnA 58 32 g.2.1 g.1 g.2.2 (hcs (spanL ms first g.1))]) (fun g => g.1 ≤ many.toNat) (fun g => many.toNat - g.1) ((0, none, 0))
      (Nat.zero_le _) ⟨Out.refl _ _, (List.forall_mem_cons.2 ⟨rfl, (List.forall_mem_cons.2 ⟨rfl, (fun _ h => nomatch h)⟩)⟩)⟩ (Sub.refl _) ?_
    rintro ⟨k, O, d⟩ u hk
    dsimp only at hk
    refine TC.seq ?_
    refine TC.region ?_
    refine S.dec rfl rfl (Qt.lt rfl rfl) (fun h31 => ?_) (fun h31 => ?_)
    · refine S.nil ?_
      refine TC.seq ?_
      refine S.if_t rfl ?_
      refine TC.skip ?_
      refine TC.seq ?_
      refine TC.block ?_
      refine TC.seq ?_
      refine TC.region ?_
      refine S.q rfl rfl (Qt.move (by conv => lhs; whnf)) ?_
      refine S.q rfl rfl (Qt.assign (by conv => lhs; whnf)) ?_
      refine S.nil ?_
      refine TC.region ?_
      refine S.q rfl rfl (Qt.move (by conv => lhs; whnf)) ?_
      refine S.q rfl rfl (Qt.move (by conv => lhs; whnf)) ?_
      refine S.q rfl rfl (Qt.nilCheck rfl) ?_
      refine S.q rfl rfl (Qt.field Try.underlying73 rfl Try.cells71 rfl) ?_
      refine S.q rfl rfl (Qt.load rfl (Ld.one (Has.ro hV) Try.one71 rfl)) ?_
      refine S.q rfl rfl (Qt.move (by conv => lhs; whnf)) ?_
      refine S.q rfl rfl (Qt.move (by conv => lhs; whnf)) ?_
      refine S.q rfl rfl (Qt.add rfl rfl (by simp only [kmax]; omega)) ?_
      refine S.q rfl rfl (Qt.lookup (k := first + k) Try.underlying71 Try.keyU Try.z58 rfl rfl (Has.ro hM)) ?_
      refine S.opS rfl rfl (OpV.slice1 (v := hv (getM ms (first + k))) Try.underlying23 Try.elem58 (by decide) (by show _ = _; rw [← z_read]; rfl) (by rw [vl_hv, hvl_length]) (fun b42 => ?_))
      refine S.opS rfl rfl (OpV.app1 (bytes := 32) (news := hvl (getM ms (first + k))) Try.underlying23 Try.elem58 rfl rfl (Has.blk (Has.at 0 rfl)) (by rw [hvl_length]) (bytesL_one _) (by simp only [maxLen]; omega) (by omega) (fun O' d' => ?_))
      refine S.q rfl rfl (Qt.assign (by conv => lhs; whnf)) ?_
      refine S.nil ?_
      refine TC.region ?_
      refine S.q rfl rfl (Qt.add (b := 1) rfl rfl (by simp only [kmax]; omega)) ?_
      refine S.q rfl rfl (Qt.move (by conv => lhs; whnf)) ?_
      refine S.nil ?_
      refine ⟨(k + 1, O', d'), ?_, ?_, ⟨?_, (List.forall_mem_cons.2 ⟨rfl, (List.forall_mem_cons.2 ⟨rfl, (fun _ h => nomatch h)⟩)⟩)⟩, (by dsimp only; rw [← spanL_step ms first k]; exact Sub.drop _ (Sub.refl _))⟩
      · show _ ≤ _; dsimp only; omega
      · show _ < _; dsimp only; omega
      repeat (first | exact Out.refl _ _ | refine Out.put rfl ?_ | refine Out.puts rfl ?_ | refine Out.scr ?_ | refine Out.scr' rfl ?_)
    · refine S.nil ?_
      refine TC.seq ?_
      refine S.if_f rfl ?_
      refine TC.exit ?_
      refine TC.seq ?_
      refine TC.region ?_
      refine S.q rfl rfl (Qt.move (by conv => lhs; whnf)) ?_
      refine S.q rfl rfl (Qt.assign (by conv => lhs; whnf)) ?_
      refine S.q rfl rfl (Qt.assign (by conv => lhs; whnf)) ?_
      refine S.nil ?_
      refine TC.ret ?_
      refine finQ.ret (RVs.tmp (by conv => lhs; whnf) (RVs.tmp (by conv => lhs; whnf) RVs.nil)) (Sub.refl _) ?_
      rw [spanM_ok hs]
      obtain rfl : k = many.toNat := by omega
      exact ⟨O, d, by simp [spanL_length]; rfl, by simp [spanL_length]⟩
  · refine S.opS rfl rfl (OpV.con0 Try.ent11 rfl (fun w hw => spanned_F first n many w hf hmm hs) ?_)
    refine S.q rfl rfl (Qt.assign (by conv => lhs; whnf)) ?_
    refine S.nil ?_
    refine TC.seq ?_
    refine TC.region ?_
    refine S.q rfl rfl (Qt.move (by conv => lhs; whnf)) ?_
    refine S.q rfl rfl (Qt.nenil_iface Try.underlying30 rfl) ?_
    refine S.nil ?_
    refine S.if_t rfl ?_
    refine TC.seq ?_
    refine TC.region ?_
    refine TL.ownNil 58 32 ?_
    refine S.q rfl rfl (Qt.move (by conv => lhs; whnf)) ?_
    refine S.q rfl rfl (Qt.assign (by conv => lhs; whnf)) ?_
    refine S.q rfl rfl (Qt.assign (by conv => lhs; whnf)) ?_
    refine S.nil ?_
    refine TC.ret ?_
    refine finQ.ret (RVs.tmp (by conv => lhs; whnf) (RVs.tmp (by conv => lhs; whnf) RVs.nil)) (Sub.refl _) ?_
    rw [spanM_bad hs]
    exact ⟨none, 0, by rw [errv_pos hs]; rfl, rfl⟩
set_option maxHeartbeats 400000 in
theorem do_walk (b bm n : Nat) (ms : Ms) (k : Int) (A B : Option Addr) (c d : Nat) (xs : List Nat) (bs : List H32) (f : Nat) (q : Int) (w0 : World) (hL : Sat w0 [MapA bm encU hv ms, Blk b 73 [.int .u64 (n : Int), .map (some bm)]]) (hR : Ro w0 [bm, b] (SlA A (u64s xs))) (hB : Ro w0 [bm, b] (SlA B (hcs bs))) (hc : xs.length ≤ c) (hm : c ≤ 9223372036854775807) (hl : ms.length ≤ 9223372036854775806) (hn : n ≤ 18446744073709551615) (hq : q ≤ 9223372036854775807) :
    Calls Try.prog 16 #[.pointer (some ⟨b, 0, none⟩), .agg #[.int .i64 k, .slice A xs.length c, .slice B bs.length d, .int .u64 (f : Int), .int .i64 q]] w0 (Post w0 [bm, b] fun v L => ∃ O e, v = .tuple #[.slice O (doM n ms (uw k % 5) xs bs f q).2.1.length e, errv 42 (doM n ms (uw k % 5) xs bs f q).1] ∧ L = [OwnA 58 32 O (doM n ms (uw k % 5) xs bs f q).2.1.length e (hcs (doM n ms (uw k % 5) xs bs f q).2.1), MapA bm encU hv (doM n ms (uw k % 5) xs bs f q).2.2.2, Blk b 73 [.int .u64 (((doM n ms (uw k % 5) xs bs f q).2.2.1 : Nat) : Int), .map (some bm)]]) := by
  refine Calls.of (L := [MapA bm encU hv ms, Blk b 73 [.int .u64 (n : Int), .map (some bm)]]) (n := 46) (rs := [.tmp 4, .tmp 5]) Try.func16 rfl rfl rfl (Nat.le_of_ble_eq_true rfl) (hL) ?_
  refine TC.seq ?_
  refine TC.region ?_
  refine S.opS rfl rfl (OpV.box (by conv => lhs; whnf) (fun b3 => ?_))
  refine S.q rfl rfl (Qt.assign (by conv => lhs; whnf)) ?_
  refine S.q rfl rfl (Qt.assign (by conv => lhs; whnf)) ?_
  refine S.nil ?_
  refine TC.seq ?_
  refine TC.seq ?_
  refine TC.region ?_
  refine S.q rfl rfl (Qt.field Try.underlying26 rfl Try.cells3 rfl) ?_
  refine S.q rfl rfl (Qt.load rfl (Ld.one (Has.at 0 rfl) Try.one3 (rfl))) ?_
  refine S.q rfl rfl (Qt.conv_wrap (k := k) Try.underlying3 Try.underlying46 rfl) ?_
  refine S.q rfl rfl (Qt.rem (b := 5) rfl rfl (by omega)) ?_
  refine S.nil ?_
  refine TC.block ?_
  refine TC.seq ?_
  refine TC.region ?_
  refine S.dec rfl rfl (Qt.eq (b := 0) rfl rfl) (fun h11 => ?_) (fun h11 => ?_)
  · refine S.q rfl rfl (Qt.assign (by conv => lhs; whnf)) ?_
    refine S.nil ?_
    refine S.if_t rfl ?_
    refine TC.seq ?_
    refine TC.region ?_
    refine S.q rfl rfl (Qt.move (by conv => lhs; whnf)) ?_
    refine S.q rfl rfl (Qt.field Try.underlying26 rfl Try.cells22 rfl) ?_
    refine S.q rfl rfl (Qt.load rfl (Ld.one (Has.at 0 rfl) Try.one22 (rfl))) ?_
    refine S.q rfl rfl (Qt.field Try.underlying26 rfl Try.cells23 rfl) ?_
    refine S.q rfl rfl (Qt.load rfl (Ld.one (Has.at 0 rfl) Try.one23 (rfl))) ?_
    refine S.opS rfl rfl (OpV.con (Pre := [MapA bm encU hv ms]) (R := _) Try.ent23 rfl (List.Perm.swap _ _ _) (fun w hw => write_walk b bm n ms A B c d xs bs w hw.sat.left (Ro.of_rest hw (List.mem_cons_of_mem _ (List.mem_cons_self ..))) (Ro.of_pre hw hR) (Ro.of_pre hw hB) hc hm) ?_)
    rintro v L' ⟨rfl, rfl⟩
    refine TL.ownNil 58 32 ?_
    refine S.q rfl rfl (Qt.assign (by conv => lhs; whnf)) ?_
    refine S.q rfl rfl (Qt.assign (by conv => lhs; whnf)) ?_
    refine S.nil ?_
    refine TC.ret ?_
    refine finQ.ret (RVs.tmp (by conv => lhs; whnf) (RVs.tmp (by conv => lhs; whnf) RVs.nil)) (Sub.keep _ (Sub.keep _ (Sub.drop _ (Sub.refl _)))) ?_
    rw [doM_0 h11]
    exact ⟨none, 0, rfl, rfl⟩
  · refine S.q rfl rfl (Qt.assign (by conv => lhs; whnf)) ?_
    refine S.nil ?_
    refine S.if_f rfl ?_
    refine TC.seq ?_
    refine TC.region ?_
    refine S.dec rfl rfl (Qt.eq (b := 1) rfl rfl) (fun h19 => ?_) (fun h19 => ?_)
    · refine S.q rfl rfl (Qt.assign (by conv => lhs; whnf)) ?_
      refine S.nil ?_
      refine S.if_t rfl ?_
      refine TC.seq ?_
      refine TC.region ?_
      refine S.q rfl rfl (Qt.move (by conv => lhs; whnf)) ?_
      refine S.q rfl rfl (Qt.field Try.underlying26 rfl Try.cells22 rfl) ?_
      refine S.q rfl rfl (Qt.load rfl (Ld.one (Has.at 0 rfl) Try.one22 (rfl))) ?_
      refine S.opS rfl rfl (OpV.con (Pre := [MapA bm encU hv ms]) (R := _) Try.ent30 rfl (List.Perm.swap _ _ _) (fun w hw => trim_walk b bm n ms A c xs w hw.sat.left (Ro.of_rest hw (List.mem_cons_of_mem _ (List.mem_cons_self ..))) (Ro.of_pre hw hR) hc hm) ?_)
      rintro v L' ⟨rfl, rfl⟩
      refine TL.ownNil 58 32 ?_
      refine S.q rfl rfl (Qt.assign (by conv => lhs; whnf)) ?_
      refine S.q rfl rfl (Qt.assign (by conv => lhs; whnf)) ?_
      refine S.nil ?_
      refine TC.ret ?_
      refine finQ.ret (RVs.tmp (by conv => lhs; whnf) (RVs.tmp (by conv => lhs; whnf) RVs.nil)) (Sub.keep _ (Sub.keep _ (Sub.drop _ (Sub.refl _)))) ?_
      rw [doM_1 h11 h19]
      exact ⟨none, 0, rfl, rfl⟩
    · refine S.q rfl rfl (Qt.assign (by conv => lhs; whnf)) ?_
      refine S.nil ?_
      refine S.if_f rfl ?_
      refine TC.seq ?_
      refine TC.region ?_
      refine S.dec rfl rfl (Qt.eq (b := 2) rfl rfl) (fun h25 => ?_) (fun h25 => ?_)
      · refine S.q rfl rfl (Qt.assign (by conv => lhs; whnf)) ?_
        refine S.nil ?_
        refine S.if_t rfl ?_
        refine TC.seq ?_
        refine TC.region ?_
        refine S.q rfl rfl (Qt.move (by conv => lhs; whnf)) ?_
        refine S.q rfl rfl (Qt.field Try.underlying26 rfl Try.cells22 rfl) ?_
        refine S.q rfl rfl (Qt.load rfl (Ld.one (Has.at 0 rfl) Try.one22 (rfl))) ?_
        refine S.opS rfl rfl (OpV.con (Pre := []) (R := _) Try.ent24 rfl (List.Perm.refl _) (fun w hw => read_walk b bm n ms A c xs w (Rd.at 2 rfl w hw) (Rd.at 1 rfl w hw) (Rd.ro hR w hw) hc hm) ?_)
        rintro v L' ⟨O, e, rfl, rfl⟩
        refine S.q rfl rfl (Qt.extract rfl rfl) ?_
        refine S.q rfl rfl (Qt.extract rfl rfl) ?_
        refine S.q rfl rfl (Qt.assign (by conv => lhs; whnf)) ?_
        refine S.q rfl rfl (Qt.assign (by conv => lhs; whnf)) ?_
        refine S.nil ?_
        refine TC.ret ?_
        refine finQ.ret (RVs.tmp (by conv => lhs; whnf) (RVs.tmp (by conv => lhs; whnf) RVs.nil)) (Sub.keep _ (Sub.drop _ (Sub.refl _))) ?_
        rw [doM_2 h11 h19 h25]
        exact ⟨O, e, rfl, rfl⟩
      · refine S.q rfl rfl (Qt.assign (by conv => lhs; whnf)) ?_
        refine S.nil ?_
        refine S.if_f rfl ?_
        refine TC.seq ?_
        refine TC.region ?_
        refine S.dec rfl rfl (Qt.eq (b := 3) rfl rfl) (fun h33 => ?_) (fun h33 => ?_)
        · refine S.q rfl rfl (Qt.assign (by conv => lhs; whnf)) ?_
          refine S.nil ?_
          refine S.if_t rfl ?_
          refine TC.seq ?_
          refine TC.region ?_
          refine S.q rfl rfl (Qt.move (by conv => lhs; whnf)) ?_
          refine S.q rfl rfl (Qt.field Try.underlying26 rfl Try.cells24 rfl) ?_
          refine S.q rfl rfl (Qt.load rfl (Ld.one (Has.at 0 rfl) Try.one24 (rfl))) ?_
          refine S.q rfl rfl (Qt.field Try.underlying26 rfl Try.cells3 rfl) ?_
          refine S.q rfl rfl (Qt.load rfl (Ld.one (Has.at 0 rfl) Try.one3 (rfl))) ?_
          refine S.opS rfl rfl (OpV.con (Pre := []) (R := _) Try.ent25 rfl (List.Perm.refl _) (fun w hw => span_walk b bm n ms f q w (Rd.at 2 rfl w hw) (Rd.at 1 rfl w hw) hn hq) ?_)
          rintro v L' ⟨O, e, rfl, rfl⟩
          refine S.q rfl rfl (Qt.extract rfl rfl) ?_
          refine S.q rfl rfl (Qt.extract rfl rfl) ?_
          refine S.q rfl rfl (Qt.assign (by conv => lhs; whnf)) ?_
          refine S.q rfl rfl (Qt.assign (by conv => lhs; whnf)) ?_
          refine S.nil ?_
          refine TC.ret ?_
          refine finQ.ret (RVs.tmp (by conv => lhs; whnf) (RVs.tmp (by conv => lhs; whnf) RVs.nil)) (Sub.keep _ (Sub.drop _ (Sub.refl _))) ?_
          rw [doM_3 h11 h19 h25 h33]
          exact ⟨O, e, rfl, rfl⟩
        · refine S.q rfl rfl (Qt.assign (by conv => lhs; whnf)) ?_
          refine S.nil ?_
          refine S.if_f rfl ?_
          refine TC.skip ?_
          refine TC.seq ?_
          refine TC.region ?_
          refine S.q rfl rfl (Qt.move (by conv => lhs; whnf)) ?_
          refine S.q rfl rfl (Qt.field Try.underlying26 rfl Try.cells24 rfl) ?_
          refine S.q rfl rfl (Qt.load rfl (Ld.one (Has.at 0 rfl) Try.one24 (rfl))) ?_
          refine S.opS rfl rfl (OpV.con (Pre := [MapA bm encU hv ms, Blk b 73 [.int .u64 (n : Int), .map (some bm)]]) (R := _) Try.ent22 rfl (List.perm_append_comm (l₁ := [_]) (l₂ := [_, _])) (fun w hw => resize_walk b bm n f ms w hw.sat.left hl) ?_)
          rintro v L' ⟨rfl, rfl⟩
          refine TL.ownNil 58 32 ?_
          refine S.q rfl rfl (Qt.assign (by conv => lhs; whnf)) ?_
          refine S.q rfl rfl (Qt.assign (by conv => lhs; whnf)) ?_
          refine S.nil ?_
          refine TC.ret ?_
          refine finQ.ret (RVs.tmp (by conv => lhs; whnf) (RVs.tmp (by conv => lhs; whnf) RVs.nil)) (Sub.keep _ (Sub.keep _ (Sub.keep _ (Sub.nil _)))) ?_
          rw [doM_4 h11 h19 h25 h33]
          exact ⟨none, 0, rfl, rfl⟩
set_option maxHeartbeats 400000 in
theorem alive_walk (w0 : World) :
    Calls Try.prog 7 #[] w0 (Post w0 [] fun v L => v = .bool true ∧ L = []) := by
  refine Calls.of (L := []) (n := 53) (rs := [.tmp 0]) Try.func7 rfl rfl rfl (Nat.le_of_ble_eq_true rfl) (Sat.nil _) ?_
  refine TC.seq ?_
  refine TC.region ?_
  refine S.q rfl rfl (Qt.assign (by conv => lhs; whnf)) ?_
  refine S.nil ?_
  refine TC.seq ?_
  refine TC.region ?_
  refine S.opS rfl rfl (OpV.con (Pre := []) (R := _) Try.ent14 rfl (List.Perm.refl _) (fun w hw => new_ok_walk 4 (by decide) w) ?_)
  rintro v L' ⟨b, bm, rfl, rfl⟩
  refine S.q rfl rfl (Qt.move (by conv => lhs; whnf)) ?_
  refine S.q rfl rfl (Qt.extract rfl rfl) ?_
  refine S.q rfl rfl (Qt.extract rfl rfl) ?_
  refine S.q rfl rfl (Qt.assign (by conv => lhs; whnf)) ?_
  refine S.q rfl rfl (Qt.assign (by conv => lhs; whnf)) ?_
  refine S.nil ?_
  refine TC.seq ?_
  refine TC.seq ?_
  refine TC.region ?_
  refine S.q rfl rfl (Qt.move (by conv => lhs; whnf)) ?_
  refine S.q rfl rfl (Qt.nenil_nil Try.underlying30 rfl) ?_
  refine S.q rfl rfl (Qt.move (by conv => lhs; whnf)) ?_
  refine S.qg rfl rfl rfl (Qt.move (by conv => lhs; whnf)) ?_
  refine S.opg rfl rfl rfl (OpV.slice1 (v := .int .u64 ((3 : Nat) : Int)) Try.underlying22 Try.elem24 (by decide) rfl rfl (fun b12 => ?_))
  refine S.qg rfl rfl rfl (Qt.build (v := hv oneH) rfl (fun _ => by kernel_rfl)) ?_
  refine S.opg rfl rfl rfl (OpV.slice1 (v := hv oneH) Try.underlying23 Try.elem58 (by decide) rfl (by rw [vl_hv, hvl_length]) (fun b14 => ?_))
  refine S.opg rfl rfl rfl (OpV.con (Pre := [MapA bm encU hv []]) (R := _) Try.ent23 rfl (List.perm_append_comm (l₁ := [_, _, _]) (l₂ := [_])) (fun w hw => aliveWrite b bm b12 b14 w hw.sat.left (Ro.of_rest hw (List.mem_cons_of_mem _ (List.mem_cons_of_mem _ (List.mem_cons_self ..)))) (Ro.of_rest hw (List.mem_cons_of_mem _ (List.mem_cons_self ..))) (Ro.of_rest hw (List.mem_cons_self ..))) ?_)
  rintro v L' ⟨rfl, rfl⟩
  refine S.qg rfl rfl rfl (Qt.nenil_nil Try.underlying30 rfl) ?_
  refine S.q rfl rfl (Qt.pick_f rfl (by conv => lhs; whnf)) ?_
  refine S.q rfl rfl (Qt.move (by conv => lhs; whnf)) ?_
  refine S.qg rfl rfl rfl (Qt.move (by conv => lhs; whnf)) ?_
  refine S.opg rfl rfl rfl (OpV.con0 Try.ent28 rfl (fun w hw => aliveLen b bm w (Rd.at 3 rfl w hw) (Rd.at 0 rfl w hw)) ?_)
  refine S.qg rfl rfl rfl (Qt.dF (Qt.ne (b := 1) rfl rfl) (by decide)) ?_
  refine S.q rfl rfl (Qt.pick_f rfl (by conv => lhs; whnf)) ?_
  refine S.q rfl rfl (Qt.move (by conv => lhs; whnf)) ?_
  refine S.qg rfl rfl rfl (Qt.move (by conv => lhs; whnf)) ?_
  refine S.opg rfl rfl rfl (OpV.con (Pre := [MapA bm encU hv [(3, oneH)], Blk b 73 [.int .u64 ((4 : Nat) : Int), .map (some bm)]]) (R := _) Try.ent22 rfl (List.Perm.cons _ (List.perm_append_comm (l₁ := [_, _]) (l₂ := [_]))) (fun w hw => aliveCut b bm w hw.sat.left) ?_)
  rintro v L' ⟨rfl, rfl⟩
  refine S.qg rfl rfl rfl (Qt.nenil_nil Try.underlying30 rfl) ?_
  refine S.q rfl rfl (Qt.pick_f rfl (by conv => lhs; whnf)) ?_
  refine S.q rfl rfl (Qt.move (by conv => lhs; whnf)) ?_
  refine S.qg rfl rfl rfl (Qt.move (by conv => lhs; whnf)) ?_
  refine S.opg rfl rfl rfl (OpV.con (Pre := [MapA bm encU hv [], Blk b 73 [.int .u64 ((3 : Nat) : Int), .map (some bm)]]) (R := _) Try.ent22 rfl (List.Perm.refl _) (fun w hw => aliveGrow b bm w hw.sat.left) ?_)
  rintro v L' ⟨rfl, rfl⟩
  refine S.qg rfl rfl rfl (Qt.nenil_nil Try.underlying30 rfl) ?_
  refine S.q rfl rfl (Qt.pick_f rfl (by conv => lhs; whnf)) ?_
  refine S.nil ?_
  refine S.if_f rfl ?_
  refine TC.skip ?_
  refine TC.seq ?_
  refine TC.region ?_
  refine S.q rfl rfl (Qt.move (by conv => lhs; whnf)) ?_
  refine S.opS rfl rfl (OpV.slice1 (v := .int .u64 ((3 : Nat) : Int)) Try.underlying22 Try.elem24 (by decide) rfl rfl (fun b35 => ?_))
  refine S.opS rfl rfl (OpV.con (Pre := []) (R := _) Try.ent24 rfl (List.Perm.refl _) (fun w hw => aliveRead b bm b35 w (Rd.at 2 rfl w hw) (Rd.at 1 rfl w hw) (Rd.at 0 rfl w hw)) ?_)
  rintro v L' ⟨O, d, rfl, rfl⟩
  refine S.q rfl rfl (Qt.move (by conv => lhs; whnf)) ?_
  refine S.q rfl rfl (Qt.extract rfl rfl) ?_
  refine S.q rfl rfl (Qt.extract rfl rfl) ?_
  refine S.q rfl rfl (Qt.assign (by conv => lhs; whnf)) ?_
  refine S.q rfl rfl (Qt.assign (by conv => lhs; whnf)) ?_
  refine S.nil ?_
  refine TC.seq ?_
  refine TC.region ?_
  refine S.q rfl rfl (Qt.move (by conv => lhs; whnf)) ?_
  refine S.q rfl rfl (Qt.eqnil_nil Try.underlying30 rfl) ?_
  refine S.q rfl rfl (Qt.move (by conv => lhs; whnf)) ?_
  refine S.qg rfl rfl rfl (Qt.move (by conv => lhs; whnf)) ?_
  refine S.qg rfl rfl rfl (Qt.len_slice Try.underlying23 rfl) ?_
  refine S.qg rfl rfl rfl (Qt.dT (Qt.eq (b := 1) rfl rfl) (by decide)) ?_
  refine S.q rfl rfl (Qt.pick_t rfl (by conv => lhs; whnf)) ?_
  refine S.q rfl rfl (Qt.move (by conv => lhs; whnf)) ?_
  refine S.qg rfl rfl rfl (Qt.move (by conv => lhs; whnf)) ?_
  refine S.qg rfl rfl rfl (Qt.index Try.underlying23 Try.cells58 rfl rfl (by decide) (Has.own (Has.at 0 rfl)) (by decide)) ?_
  refine S.qg rfl rfl rfl (Qt.load rfl (Ld.slr (Has.own (Has.at 0 rfl)) Try.row58 (by rw [hvl_length]; exact Try.cells58) (by rw [hvl_length]; exact Nat.succ_pos _) (hcs_at (l := [zeroH]) (i := 0) (by decide) rfl))) ?_
  refine S.qg rfl rfl rfl (Qt.build (v := hv zeroH) rfl (fun _ => by kernel_rfl)) ?_
  refine S.qg rfl rfl rfl (Qt.dT (Qt.eqH (a := zeroH) (b := zeroH) Try.guard58 Try.underlying58 Try.underlying5 Try.cells5 rfl rfl) (rfl)) ?_
  refine S.q rfl rfl (Qt.pick_t rfl (by conv => lhs; whnf)) ?_
  refine S.q rfl rfl (Qt.assign (by conv => lhs; whnf)) ?_
  refine S.nil ?_
  refine TC.ret ?_
  refine finQ.ret (RVs.tmp (by conv => lhs; whnf) RVs.nil) (Sub.nil _) ?_
  exact ⟨rfl, rfl⟩
set_option maxHeartbeats 400000 in
theorem long_walk (A : Option Addr) (c : Nat) (l : List Act5) (w0 : World) (hA : Ro w0 [] (SlA A (acs l))) (hl : l.length ≤ 9223372036854775807) :
    Calls Try.prog 13 #[.slice A l.length c] w0 (Post w0 [] fun v L => v = .bool (longB l) ∧ L = []) := by
  refine Calls.of (L := []) (n := 29) (rs := [.tmp 2]) Try.func13 rfl rfl rfl (Nat.le_of_ble_eq_true rfl) (Sat.nil _) ?_
  refine TC.seq ?_
  refine TC.region ?_
  refine S.q rfl rfl (Qt.assign (by conv => lhs; whnf)) ?_
  refine S.nil ?_
  refine TC.seq ?_
  refine TC.region ?_
  refine S.q rfl rfl (Qt.assign (by conv => lhs; whnf)) ?_
  refine S.nil ?_
  refine TC.seq ?_
  refine TC.seq ?_
  refine TC.region ?_
  refine S.q rfl rfl (Qt.move (by conv => lhs; whnf)) ?_
  refine S.q rfl rfl (Qt.len_slice Try.underlying36 rfl) ?_
  refine S.q rfl rfl (Qt.move (by conv => lhs; whnf)) ?_
  refine S.nil ?_
  refine TC.block ?_
  refine TC.loop (γ := Nat) [9, 10, 11, 5, 12, 13, 14, 15, 16, 17, 18, 19, 20, 3, 21, 8] (fun k => [(3, .int .i64 (longS (l.take k))), (8, .int .i64 (k : Int))]) (fun k => []) (fun k => k ≤ l.length) (fun k => l.length - k) (0)
    (by omega) ⟨Out.refl _ _, (List.forall_mem_cons.2 ⟨rfl, (List.forall_mem_cons.2 ⟨rfl, (fun _ h => nomatch h)⟩)⟩)⟩ (Sub.nil _) ?_
  rintro k u hk
  refine TC.seq ?_
  refine TC.region ?_
  refine S.dec rfl rfl (Qt.lt rfl rfl) (fun h9 => ?_) (fun h9 => ?_)
  · refine S.nil ?_
    refine TC.seq ?_
    refine S.if_t rfl ?_
    refine TC.skip ?_
    refine TC.seq ?_
    refine TC.block ?_
    refine TC.seq ?_
    refine TC.region ?_
    refine S.q rfl rfl (Qt.index Try.underlying36 Try.cells26 rfl rfl (by omega) (Has.ro hA) (by rw [acs_length]; omega)) ?_
    refine S.q rfl rfl (Qt.load rfl (Ld.slr (vs := acell (l.getD k act50)) (Has.ro hA) Try.row26 Try.cells26 (Nat.succ_pos _) (acs_at (by omega) rfl))) ?_
    refine S.opS rfl rfl (OpV.alloc Try.zero26 (fun b5 => ?_))
    refine S.opN rfl (OpV.storeV0 rfl (by conv => lhs; whnf) (by exact (show _ = some (acell (l.getD k act50)).length from Try.cells26)) (by rfl) (by rfl) ?_)
    refine S.nil ?_
    refine TC.region ?_
    refine S.q rfl rfl (Qt.move (by conv => lhs; whnf)) ?_
    refine S.q rfl rfl (Qt.field Try.underlying26 rfl Try.cells22 rfl) ?_
    refine S.q rfl rfl (Qt.load rfl (Ld.one (Has.at 0 rfl) Try.one22 rfl)) ?_
    refine S.q rfl rfl (Qt.len_slice Try.underlying22 rfl) ?_
    refine S.q rfl rfl (Qt.field Try.underlying26 rfl Try.cells23 rfl) ?_
    refine S.q rfl rfl (Qt.load rfl (Ld.one (Has.at 0 rfl) Try.one23 rfl)) ?_
    refine S.q rfl rfl (Qt.len_slice Try.underlying23 rfl) ?_
    refine S.q rfl rfl (Qt.addw rfl rfl) ?_
    refine S.q rfl rfl (Qt.addw rfl rfl) ?_
    refine S.q rfl rfl (Qt.assign (by conv => lhs; whnf)) ?_
    refine S.nil ?_
    refine TC.region ?_
    refine S.q rfl rfl (Qt.add (b := 1) rfl rfl (by simp only [kmax]; omega)) ?_
    refine S.q rfl rfl (Qt.move (by conv => lhs; whnf)) ?_
    refine S.nil ?_
    refine ⟨k + 1, ?_, ?_, ⟨?_, (List.forall_mem_cons.2 ⟨congrArg (fun z => Value.int .i64 z) (longS_take l k (by omega)).symm, (List.forall_mem_cons.2 ⟨rfl, (fun _ h => nomatch h)⟩)⟩)⟩, Sub.nil _⟩
    · show _ ≤ _; omega
    · show _ < _; dsimp only; omega
    repeat (first | exact Out.refl _ _ | refine Out.put rfl ?_ | refine Out.puts rfl ?_ | refine Out.scr ?_ | refine Out.scr' rfl ?_)
  · refine S.nil ?_
    refine TC.seq ?_
    refine S.if_f rfl ?_
    refine TC.exit ?_
    refine TC.seq ?_
    refine TC.region ?_
    refine S.q rfl rfl (Qt.move (by conv => lhs; whnf)) ?_
    refine S.q rfl rfl (Qt.len_slice Try.underlying36 rfl) ?_
    refine S.dec rfl rfl (Qt.gt (b := 40) rfl rfl) (fun h24 => ?_) (fun h24 => ?_)
    · refine S.q rfl rfl (Qt.move (by conv => lhs; whnf)) ?_
      refine S.pass rfl rfl ?_
      refine S.pass rfl rfl ?_
      refine S.q rfl rfl (Qt.pick_t rfl (by conv => lhs; whnf)) ?_
      refine S.q rfl rfl (Qt.assign (by conv => lhs; whnf)) ?_
      refine S.nil ?_
      refine TC.ret ?_
      refine finQ.ret (RVs.tmp (by conv => lhs; whnf) RVs.nil) (Sub.nil _) ?_
      exact ⟨by simp [longB, pack, h24], rfl⟩
    · refine S.q rfl rfl (Qt.move (by conv => lhs; whnf)) ?_
      refine S.qg rfl rfl rfl (Qt.move (by conv => lhs; whnf)) ?_
      refine S.decg rfl rfl rfl (Qt.gti rfl rfl) (fun h27 => ?_) (fun h27 => ?_)
      · refine S.q rfl rfl (Qt.pick_f rfl (by conv => lhs; whnf)) ?_
        refine S.q rfl rfl (Qt.assign (by conv => lhs; whnf)) ?_
        refine S.nil ?_
        refine TC.ret ?_
        refine finQ.ret (RVs.tmp (by conv => lhs; whnf) RVs.nil) (Sub.nil _) ?_
        obtain rfl : k = l.length := by omega
        rw [List.take_length] at h27
        exact ⟨by simp [longB, pack, h27], rfl⟩
      · refine S.q rfl rfl (Qt.pick_f rfl (by conv => lhs; whnf)) ?_
        refine S.q rfl rfl (Qt.assign (by conv => lhs; whnf)) ?_
        refine S.nil ?_
        refine TC.ret ?_
        refine finQ.ret (RVs.tmp (by conv => lhs; whnf) RVs.nil) (Sub.nil _) ?_
        obtain rfl : k = l.length := by omega
        rw [List.take_length] at h27
        exact ⟨by simp [longB, pack, h24, h27], rfl⟩
set_option maxHeartbeats 400000 in
theorem clone_walk (bm : Nat) (ms : Ms) (w0 : World) (hM : Ro w0 [] (MapA bm encU hv ms)) :
    Calls Try.prog 36 #[.map (some bm)] w0 (Post w0 [] fun v L => ∃ m, v = .map (some m) ∧ L = [MapA m encU hv ms]) := by
  refine Calls.of (L := []) (n := 9) (rs := [.tmp 2]) Try.func36 rfl rfl rfl (Nat.le_of_ble_eq_true rfl) (Sat.nil _) ?_
  refine TC.seq ?_
  refine TC.region ?_
  refine S.q rfl rfl (Qt.assign (by conv => lhs; whnf)) ?_
  refine S.nil ?_
  refine TC.seq ?_
  refine TC.seq ?_
  refine TC.region ?_
  refine S.q rfl rfl (Qt.move (by conv => lhs; whnf)) ?_
  refine S.q rfl rfl (Qt.eqm_some Try.underlying71 rfl) ?_
  refine S.nil ?_
  refine S.if_f rfl ?_
  refine TC.skip ?_
  refine TC.seq ?_
  refine TC.region ?_
  refine S.q rfl rfl (Qt.move (by conv => lhs; whnf)) ?_
  refine S.q rfl rfl (Qt.makeInterface Try.underlying71 (fun _ h => nomatch h) (by conv => lhs; whnf)) ?_
  refine S.opS rfl rfl (OpV.clone Try.clones46 rfl rfl (Has.ro hM) (fun m => ?_))
  refine S.q rfl rfl (Qt.assert_map Try.underlying71 rfl) ?_
  refine S.q rfl rfl (Qt.assign (by conv => lhs; whnf)) ?_
  refine S.nil ?_
  refine TC.ret ?_
  refine finQ.ret (RVs.tmp (by conv => lhs; whnf) RVs.nil) (Sub.refl _) ?_
  exact ⟨_, rfl, rfl⟩
set_option maxHeartbeats 400000 in
theorem copy_walk (b bm n : Nat) (ms : Ms) (w0 : World) (hV : Ro w0 [] (Blk b 73 [.int .u64 (n : Int), .map (some bm)])) (hM : Ro w0 [] (MapA bm encU hv ms)) :
    Calls Try.prog 19 #[.pointer (some ⟨b, 0, none⟩)] w0 (Post w0 [] fun v L => ∃ b2 m, v = .pointer (some ⟨b2, 0, none⟩) ∧ L = [Blk b2 73 [.int .u64 (n : Int), .map (some m)], MapA m encU hv ms]) := by
  refine Calls.of (L := []) (n := 16) (rs := [.tmp 2]) Try.func19 rfl rfl rfl (Nat.le_of_ble_eq_true rfl) (Sat.nil _) ?_
  refine TC.seq ?_
  refine TC.region ?_
  refine S.q rfl rfl (Qt.assign (by conv => lhs; whnf)) ?_
  refine S.nil ?_
  refine TC.seq ?_
  refine TC.seq ?_
  refine TC.region ?_
  refine S.q rfl rfl (Qt.move (by conv => lhs; whnf)) ?_
  refine S.q rfl rfl (Qt.eqp_some Try.underlying38 rfl) ?_
  refine S.nil ?_
  refine S.if_f rfl ?_
  refine TC.skip ?_
  refine TC.seq ?_
  refine S.draw ([], [8, 10]) Try.mixed (Sub.refl _) ?_
  refine D.qX (k := 0) rfl (by kernel_rfl) (by kernel_rfl) (by kernel_rfl) rfl rfl (Qt.move (by conv => lhs; whnf)) ?_
  refine D.qX (k := 1) rfl (by kernel_rfl) (by kernel_rfl) (by kernel_rfl) rfl rfl (Qt.nilCheck rfl) ?_
  refine D.qX (k := 2) rfl (by kernel_rfl) (by kernel_rfl) (by kernel_rfl) rfl rfl (Qt.field Try.underlying73 rfl Try.cells24 rfl) ?_
  refine D.qX (k := 3) rfl (by kernel_rfl) (by kernel_rfl) (by kernel_rfl) rfl rfl (Qt.load rfl (Ld.one (Has.ro hV) Try.one24 rfl)) ?_
  refine D.qX (k := 4) rfl (by kernel_rfl) (by kernel_rfl) (by kernel_rfl) rfl rfl (Qt.move (by conv => lhs; whnf)) ?_
  refine D.qX (k := 5) rfl (by kernel_rfl) (by kernel_rfl) (by kernel_rfl) rfl rfl (Qt.nilCheck rfl) ?_
  refine D.qX (k := 6) rfl (by kernel_rfl) (by kernel_rfl) (by kernel_rfl) rfl rfl (Qt.field Try.underlying73 rfl Try.cells71 rfl) ?_
  refine D.qX (k := 7) rfl (by kernel_rfl) (by kernel_rfl) (by kernel_rfl) rfl rfl (Qt.load rfl (Ld.one (Has.ro hV) Try.one71 rfl)) ?_
  refine D.nS (k := 8) (Sub.refl _) rfl (by kernel_rfl) (by kernel_rfl) rfl rfl (OpV.con (Pre := []) (R := _) Try.ent36 rfl (List.Perm.refl _) (fun w hw => clone_walk bm ms w (Rd.ro hM w hw)) ?_)
  rintro v L' ⟨m2, rfl, rfl⟩
  refine ⟨Sub.nil _, ?_⟩
  refine D.qX (k := 9) rfl (by kernel_rfl) (by kernel_rfl) (by kernel_rfl) rfl rfl (Qt.build (v := .agg #[.int .u64 (n : Int), .map (some m2)]) rfl (fun _ => by kernel_rfl)) ?_
  refine D.nS (k := 10) (Sub.nil _) rfl (by kernel_rfl) (by kernel_rfl) rfl rfl (OpV.box (by conv => lhs; whnf) (fun b15 => ⟨Sub.drop _ (Sub.refl _), ?_⟩))
  refine D.qX (k := 11) rfl (by kernel_rfl) (by kernel_rfl) (by kernel_rfl) rfl rfl (Qt.assign (by conv => lhs; whnf)) ?_
  refine D.done (Sub.nil _) (by kernel_rfl) ?_
  refine TC.ret ?_
  refine finQ.ret (RVs.tmp (by conv => lhs; whnf) RVs.nil) (Sub.refl _) ?_
  exact ⟨_, _, rfl, rfl⟩
set_option maxHeartbeats 400000 in
theorem eqBlocks_walk (A B : Option Addr) (c d : Nat) (us bs : List H32) (w0 : World) (hA : Ro w0 [] (SlA A (hcs us))) (hB : Ro w0 [] (SlA B (hcs bs))) (h1 : us.length ≤ 9223372036854775807) :
    Calls Try.prog 18 #[.slice A us.length c, .slice B bs.length d] w0 (Post w0 [] fun v L => v = .bool (decide (us = bs)) ∧ L = []) := by
  refine Calls.of (L := []) (n := 26) (rs := [.tmp 4]) Try.func18 rfl rfl rfl (Nat.le_of_ble_eq_true rfl) (Sat.nil _) ?_
  refine TC.seq ?_
  refine TC.region ?_
  refine S.q rfl rfl (Qt.assign (by conv => lhs; whnf)) ?_
  refine S.nil ?_
  refine TC.seq ?_
  refine TC.seq ?_
  refine TC.region ?_
  refine S.q rfl rfl (Qt.move (by conv => lhs; whnf)) ?_
  refine S.q rfl rfl (Qt.len_slice Try.underlying23 rfl) ?_
  refine S.q rfl rfl (Qt.move (by conv => lhs; whnf)) ?_
  refine S.q rfl rfl (Qt.len_slice Try.underlying23 rfl) ?_
  refine S.dec rfl rfl (Qt.ne rfl rfl) (fun h10 => ?_) (fun h10 => ?_)
  · refine S.nil ?_
    refine S.if_t rfl ?_
    refine TC.seq ?_
    refine TC.region ?_
    refine S.q rfl rfl (Qt.assign (by conv => lhs; whnf)) ?_
    refine S.nil ?_
    refine TC.ret ?_
    refine finQ.ret (RVs.tmp (by conv => lhs; whnf) RVs.nil) (Sub.nil _) ?_
    exact ⟨by rw [decide_eq_false (show ¬ us = bs from fun e => h10 (by rw [e]))]; rfl, rfl⟩
  · refine S.nil ?_
    refine S.if_f rfl ?_
    refine TC.skip ?_
    refine TC.seq ?_
    refine TC.seq ?_
    refine TC.region ?_
    refine S.q rfl rfl (Qt.move (by conv => lhs; whnf)) ?_
    refine S.q rfl rfl (Qt.len_slice Try.underlying23 rfl) ?_
    refine S.q rfl rfl (Qt.move (by conv => lhs; whnf)) ?_
    refine S.nil ?_
    refine TC.block ?_
    refine TC.loop (γ := Nat) [14, 15, 5, 16, 17, 18, 19, 20, 21, 22, 23, 24, 4, 25, 13] (fun k => [(13, .int .i64 (k : Int))]) (fun _ => _) (fun k => k ≤ us.length ∧ ∀ i, i < k → us.getD i zeroH = bs.getD i zeroH) (fun k => us.length - k) (0)
      ⟨by omega, by omega⟩ ⟨Out.refl _ _, (List.forall_mem_cons.2 ⟨rfl, (fun _ h => nomatch h)⟩)⟩ (Sub.refl _) ?_
    rintro k u ⟨hk, he⟩
    refine TC.seq ?_
    refine TC.region ?_
    refine S.dec rfl rfl (Qt.lt rfl rfl) (fun h14 => ?_) (fun h14 => ?_)
    · refine S.nil ?_
      refine TC.seq ?_
      refine S.if_t rfl ?_
      refine TC.skip ?_
      refine TC.seq ?_
      refine TC.block ?_
      refine TC.seq ?_
      refine TC.region ?_
      refine S.q rfl rfl (Qt.move (by conv => lhs; whnf)) ?_
      refine S.q rfl rfl (Qt.assign (by conv => lhs; whnf)) ?_
      refine S.nil ?_
      refine TC.seq ?_
      refine S.draw ([], []) Try.mixed (Sub.refl _) ?_
      refine D.qX (k := 0) rfl (by kernel_rfl) (by kernel_rfl) (by kernel_rfl) rfl rfl (Qt.move (by conv => lhs; whnf)) ?_
      refine D.qX (k := 1) rfl (by kernel_rfl) (by kernel_rfl) (by kernel_rfl) rfl rfl (Qt.move (by conv => lhs; whnf)) ?_
      refine D.qX (k := 2) rfl (by kernel_rfl) (by kernel_rfl) (by kernel_rfl) rfl rfl (Qt.index Try.underlying23 Try.cells58 rfl rfl (by omega) (Has.ro hA) (by rw [hcs_length]; omega)) ?_
      refine D.qX (k := 3) rfl (by kernel_rfl) (by kernel_rfl) (by kernel_rfl) rfl rfl (Qt.load rfl (Ld.slr (Has.ro hA) Try.row58 (by rw [hvl_length]; exact Try.cells58) (by rw [hvl_length]; exact Nat.succ_pos _) (hcs_at (by omega) rfl))) ?_
      refine D.qX (k := 4) rfl (by kernel_rfl) (by kernel_rfl) (by kernel_rfl) rfl rfl (Qt.move (by conv => lhs; whnf)) ?_
      refine D.qX (k := 5) rfl (by kernel_rfl) (by kernel_rfl) (by kernel_rfl) rfl rfl (Qt.move (by conv => lhs; whnf)) ?_
      refine D.qX (k := 6) rfl (by kernel_rfl) (by kernel_rfl) (by kernel_rfl) rfl rfl (Qt.index Try.underlying23 Try.cells58 rfl rfl (by omega) (Has.ro hB) (by rw [hcs_length]; omega)) ?_
      refine D.qX (k := 7) rfl (by kernel_rfl) (by kernel_rfl) (by kernel_rfl) rfl rfl (Qt.load rfl (Ld.slr (Has.ro hB) Try.row58 (by rw [hvl_length]; exact Try.cells58) (by rw [hvl_length]; exact Nat.succ_pos _) (hcs_at (by omega) rfl))) ?_
      refine D.decX (k := 8) rfl (by kernel_rfl) (by kernel_rfl) (by kernel_rfl) rfl rfl (Qt.neH (a := us.getD k zeroH) (b := bs.getD k zeroH) Try.guard58 Try.underlying58 Try.underlying5 Try.cells5 rfl rfl) (fun h24 => ?_) (fun h24 => ?_)
      · refine D.done (Sub.refl _) (by kernel_rfl) ?_
        refine S.if_t rfl ?_
        refine TC.seq ?_
        refine TC.region ?_
        refine S.q rfl rfl (Qt.assign (by conv => lhs; whnf)) ?_
        refine S.nil ?_
        refine TC.ret ?_
        refine finQ.ret (RVs.tmp (by conv => lhs; whnf) RVs.nil) (Sub.nil _) ?_
        exact ⟨by rw [decide_eq_false (hs_ne h24)]; rfl, rfl⟩
      · refine D.done (Sub.refl _) (by kernel_rfl) ?_
        refine S.if_f rfl ?_
        refine TC.skip ?_
        refine TC.region ?_
        refine S.q rfl rfl (Qt.add (b := 1) rfl rfl (by simp only [kmax]; omega)) ?_
        refine S.q rfl rfl (Qt.move (by conv => lhs; whnf)) ?_
        refine S.nil ?_
        refine ⟨k + 1, ?_, ?_, ⟨?_, (List.forall_mem_cons.2 ⟨rfl, (fun _ h => nomatch h)⟩)⟩, Sub.refl _⟩
        · refine ⟨by omega, fun i hi => ?_⟩
          rcases Nat.lt_or_ge i k with h | h
          · exact he i h
          · obtain rfl : i = k := by omega
            exact Decidable.byContradiction h24
        · show _ < _; dsimp only; omega
        repeat (first | exact Out.refl _ _ | refine Out.put rfl ?_ | refine Out.puts rfl ?_ | refine Out.scr ?_ | refine Out.scr' rfl ?_)
    · refine S.nil ?_
      refine TC.seq ?_
      refine S.if_f rfl ?_
      refine TC.exit ?_
      refine TC.seq ?_
      refine TC.region ?_
      refine S.q rfl rfl (Qt.assign (by conv => lhs; whnf)) ?_
      refine S.nil ?_
      refine TC.ret ?_
      refine finQ.ret (RVs.tmp (by conv => lhs; whnf) RVs.nil) (Sub.nil _) ?_
      exact ⟨by rw [decide_eq_true (hs_eq (by omega) fun i hi => he i (by omega))]; rfl, rfl⟩
set_option maxHeartbeats 400000 in
theorem is_walk (k m : Nat) (w0 : World) :
    Calls Try.prog 15 #[errv 42 k, .int .i64 (m : Int)] w0 (Post w0 [] fun v L => v = .bool (decide (k = m)) ∧ L = []) := by
  refine Calls.of (L := []) (n := 9) (rs := [.tmp 4]) Try.func15 rfl rfl rfl (Nat.le_of_ble_eq_true rfl) (Sat.nil _) ?_
  refine TC.seq ?_
  refine TC.region ?_
  refine S.q rfl rfl (Qt.assign (by conv => lhs; whnf)) ?_
  refine S.nil ?_
  refine TC.seq ?_
  refine TC.region ?_
  refine S.q rfl rfl (Qt.move (by conv => lhs; whnf)) ?_
  refine S.opS rfl rfl (OpV.con0 Try.ent8 rfl (fun w hw => num_errv k w) ?_)
  refine S.q rfl rfl (Qt.move (by conv => lhs; whnf)) ?_
  refine S.dec rfl rfl (Qt.eq rfl rfl) (fun h8 => ?_) (fun h8 => ?_)
  · refine S.q rfl rfl (Qt.assign (by conv => lhs; whnf)) ?_
    refine S.nil ?_
    refine TC.ret ?_
    refine finQ.ret (RVs.tmp (by conv => lhs; whnf) RVs.nil) (Sub.nil _) ?_
    exact ⟨by simp [pack, *], rfl⟩
  · refine S.q rfl rfl (Qt.assign (by conv => lhs; whnf)) ?_
    refine S.nil ?_
    refine TC.ret ?_
    refine finQ.ret (RVs.tmp (by conv => lhs; whnf) RVs.nil) (Sub.nil _) ?_
    exact ⟨by simp [pack, *], rfl⟩
end Go.Proofs.Ytaoicbjgkghnnaa
